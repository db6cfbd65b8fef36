/- Walks of the functions of the program, and the laws that join them: what the last theorem of this claim needs, in order. -/
import Derived.Test.YtcfdanhklbklkaaGreatTd5
namespace Go.Proofs.YtcfdanhklbklkaaGreat.Tu
set_option linter.unusedSimpArgs false
set_option linter.unusedVariables false
open Go
def qrs (l:List Rec):List (List Value):=l.map fun r=>Ze r.q
theorem Ze2 (l:List Rec):(qrs l).length=l.length:=List.length_map _
def tor (l:List (Int×Int)):List (List Value):=l.map fun t=>[.int .i64 t.1,.int .i64 t.2]
theorem Z9s (l:List (Int×Int)):(tor l).length=l.length:=List.length_map _
def wyl (f:Nat→Int) (r:Rec):List Value:=Ze r.fr++[.slice r.a r.by_.length r.c,.int .i64 (f r.d)]
def wyv (f:Nat→Int) (r:Rec):Value:=.agg (wyl f r).toArray
def wkv (f:Nat→Int) (ws:List Rec):KV:=ws.map fun r=>(r.q,wyv f r)
def ZeJ:Rec:=⟨[],List.replicate 6 0,[],0,none,0⟩
def wfd (ws:List Rec) (q:List Int):Option Rec:=ws.find? fun r=>decide (r.q=q)
theorem Z48 (f:Nat→Int) (ws:List Rec) (q:List Int):(wkv f ws).get q=(wfd ws q).map (wyv f):=by
 unfold KV.get wkv wfd
 rw [List.find?_map]
 cases h:ws.find? ((fun e:List Int×Value=>decide (e.1=q)) ∘ fun r=>(r.q,wyv f r)) with
 | none=>rw [show (ws.find? fun r=>decide (r.q=q))=none from h];rfl
 | some r=>rw [show (ws.find? fun r=>decide (r.q=q))=some r from h];rfl
theorem Z4M {ws:List Rec} {q:List Int} {r:Rec} (h:wfd ws q=some r):r∈ws∧r.q=q:=⟨List.mem_of_find?_eq_some h,by have:=List.find?_some h;simpa using this⟩
theorem ZaP {ws:List Rec} {q:List Int} (h:wfd ws q=none):∀ s∈ws,s.q≠q:=fun s hs e=>by
 have:=List.find?_eq_none.1 h s hs
 simp [e] at this
theorem Z88 {l:KV} {k:List Int} {v:Value} (h:∀ e∈l,e.1≠k):l.put k v=l++[(k,v)]:=by
 induction l with
 | nil=>rfl
 | cons e l ih =>
   obtain ⟨k',v'⟩:=e
   have h1:¬ k'=k:=h (k',v') (by simp)
   unfold KV.put
   rw [decide_eq_false h1,cond_false,ih (fun e he=>h e (by simp [he]))];rfl
theorem ZjQ (f:Nat→Int) {ws:List Rec} {r:Rec} (h:∀ s∈ws,s.q≠r.q):(wkv f ws).put r.q (wyv f r)=wkv f (ws++[r]):=by
 rw [Z88 (fun e he=>by obtain ⟨s,hs,rfl⟩:=List.mem_map.1 he;exact h s hs)]
 unfold wkv;rw [List.map_append];rfl
theorem Z3d {f:Nat→Int} {ws:List Rec} (h:∀ r∈ws,r.q.length=6):∀ e∈wkv f ws,e.1.length=6:=fun e he=>by
 obtain ⟨s,hs,rfl⟩:=List.mem_map.1 he;exact h s hs
def dkv (l:List (List Int)):KV:=l.map fun q=>(q,.bool true)
theorem ZcF {l:List (List Int)} (h:∀ q∈l,q.length=6):∀ e∈dkv l,e.1.length=6:=fun e he=>by
 obtain ⟨s,hs,rfl⟩:=List.mem_map.1 he;exact h s hs
theorem ZmW {l:List (List Int)} {q:List Int} (h:q∉l):((dkv l).get q).getD (.bool false) = .bool false:=by
 have:(dkv l).get q=none:=by
   unfold KV.get dkv
   rw [List.find?_eq_none.2 (fun e he=>by obtain ⟨s,hs,rfl⟩:=List.mem_map.1 he;simp;intro e2;exact h (e2▸hs))];rfl
 rw [this];rfl
theorem ZiI {l:List (List Int)} {q:List Int} (h:q∉l):(dkv l).put q (.bool true)=dkv (l++[q]):=by
 rw [Z88 (fun e he=>by obtain ⟨s,hs,rfl⟩:=List.mem_map.1 he;intro e2;exact h (e2▸hs))]
 unfold dkv;rw [List.map_append];rfl
def qkv (n:Nat) (cf:Value) (nx:List Rec) (nf:Value):KV:=([(n:Int)],cf)::bif nx.isEmpty then [] else [([(n:Int)+1],nf)]
theorem Z2p (n:Nat) (cf:Value) (nx:List Rec) (nf:Value):∀ e∈qkv n cf nx nf,e.1.length=1:=fun e he=>by
 unfold qkv at he
 cases h:nx.isEmpty<;>rw [h] at he<;>simp at he
 · rcases he with rfl | rfl<;>rfl
 · rw [he];rfl
theorem Z9b (n:Nat) (cf:Value) (nx:List Rec) (nf z:Value):((qkv n cf nx nf).get [(n:Int)]).getD z=cf:=by
 unfold qkv KV.get
 rw [List.find?_cons_of_pos (by simp)];rfl
theorem Ze1 {n:Nat} {cf:Value} {nx:List Rec} {nf z:Value} (h:nx=[]→nf=z):((qkv n cf nx nf).get [(n:Int)+1]).getD z=nf:=by
 unfold qkv KV.get
 rw [List.find?_cons_of_neg (by simp only [decide_eq_true_eq,List.cons.injEq,and_true];omega)]
 cases nx with
 | nil=>rw [h rfl];rfl
 | cons r nx=>rw [show (r::nx).isEmpty=false from rfl,cond_false,List.find?_cons_of_pos (by simp)];rfl
theorem Zgc (n:Nat) (cf:Value) (nx:List Rec) (nf v:Value):(qkv n cf nx nf).put [(n:Int)] v=qkv n v nx nf:=by
 unfold qkv KV.put;rw [decide_eq_true rfl];rfl
theorem Zgd (n:Nat) (cf:Value) (nx:List Rec) (nf v:Value) (r:Rec):(qkv n cf nx nf).put [(n:Int)+1] v=qkv n cf (nx++[r]) v:=by
 unfold qkv
 have h1:decide ([(n:Int)]=[(n:Int)+1])=false:=decide_eq_false (by simp only [List.cons.injEq,and_true];omega)
 have h2:(nx++[r]).isEmpty=false:=by cases nx<;>rfl
 rw [h2,cond_false]
 unfold KV.put
 rw [h1,cond_false]
 cases nx with
 | nil=>rfl
 | cons r nx =>
   rw [show (r::nx).isEmpty=false from rfl,cond_false]
   unfold KV.put
   rw [decide_eq_true rfl];rfl
def okv (n:Nat) (a:Option Addr) (c:Nat) (cur:List Rec):KV:=bif cur.isEmpty then [] else [([(n:Int)],.slice a cur.length c)]
theorem Zg5 {n:Nat} {a:Option Addr} {c:Nat} {cur:List Rec} (h:cur≠[]):okv n a c cur=qkv n (.slice a cur.length c) [] (.slice none 0 0):=by
 unfold okv qkv
 cases cur with
 | nil=>exact absurd rfl h
 | cons r cur=>rfl
def WF (ws:List Rec):World→Prop:=fun w=>∀ r∈ws,RowsA r.a 2 (tor r.by_) w
theorem St.wf0 {x0:List Int} {H:Z6} {R:Z5} {w:World} (h:St H R w):St H (WF [rst x0]::R) w:=h.also fun w9 _ r hr=>by
 rw [List.mem_singleton.1 hr];intro i row hi;cases hi
theorem St.wfSnoc {ws:List Rec} {r:Rec} {H:Z6} {R:Z5} {w:World} [m1:MemF (WF ws) R] [m2:MemRows r.a 2 (tor r.by_) R] (h:St H R w):St H (WF (ws++[r])::R) w:=h.also fun w9 hw s hs=>by
 rcases List.mem_append.1 hs with h1 | h1
 · exact hw _ m1.mem s h1
 · rw [List.mem_singleton.1 h1];exact hw _ m2.mem
theorem RowsA.tl {a:Option Addr} {sz c:Nat} {row:List Value} {rows:List (List Value)} {w:World} (h:RowsA a sz (row::rows) w) (hc:rows.length+1≤c):RowsA (if c=1 then a else a.map (·.add (1*sz))) sz rows w:=by
 by_cases h1:c=1
 · have:rows=[]:=List.length_eq_zero_iff.1 (by omega)
   subst this
   intro i row hi;cases hi
 · rw [if_neg h1]
   intro i r hi
   obtain ⟨h2,b,off,he,h3⟩:=h (i+1) r hi
   subst he
   refine ⟨h2,b,off+1*sz,by rw [Option.map_some,ZR],fun j x hx=>?_⟩
   have:=h3 j x hx
   rw [show off+1*sz+i*sz+j=off+(i+1)*sz+j by rw [Nat.add_mul];omega];exact this
abbrev ed1 (b:TBn):Edg:=fun q=>(b.mvs q).map fun t=>[t]
theorem Zhv {b:TBn} {p:List Int} {t:Int×Int} (h:t∈b.mvs p):(0≤t.1∧t.1<b.lots.length)∧0≤t.2∧t.2<b.sizes.length:=by
 obtain ⟨i,k,rfl,h1,h2,_⟩:=ZdH h
 exact ⟨⟨Int.natCast_nonneg _,by dsimp only;omega⟩,Int.natCast_nonneg _,by dsimp only;omega⟩
theorem ZqQ (p:List Int) (t:Int×Int):app p [t]=p.set t.1.toNat t.2:=rfl
structure SO (b:TBn) (n:Nat) (ws cur:List Rec) (dl:List (List Int)):Prop where
 bi:BI (ed1 b) b.mds b.first ws cur
 ins:∀ r∈ws,b.inS r.q
 c:∀ r∈cur,r.d=n
 dn:∀ q∈dl,∃ s∈ws,s∉cur∧s.q=q
 ct:n+cur.length≤ws.length
structure SJ (b:TBn) (n m0:Nat) (ws cur nxt:List Rec) (dl:List (List Int)):Prop where
 bi:BI (ed1 b) b.mds b.first ws (cur++nxt)
 ins:∀ r∈ws,b.inS r.q
 c:∀ r∈cur,r.d=n
 x:∀ r∈nxt,r.d=n+1
 dn:∀ q∈dl,∃ s∈ws,s∉cur++nxt∧s.q=q
 ct:n+(cur.length+nxt.length)≤ws.length∧(cur=[]→n+1+nxt.length≤ws.length)
 ms:2*(117649-ws.length)+(cur.length+nxt.length)≤m0∧(cur=[]→2*(117649-ws.length)+nxt.length<m0)
structure SR (b:TBn) (n m0:Nat) (ws cur nxt:List Rec) (dl:List (List Int)) (r:Rec) (k:Nat):Prop where
 bj:BJ (ed1 b) b.mds b.first ws (cur++nxt) r ((ed1 b r.q).take k)
 ins:∀ r∈ws,b.inS r.q
 rd:r.d=n
 c:∀ r∈cur,r.d=n
 x:∀ r∈nxt,r.d=n+1
 dn:∀ q∈dl,∃ s∈ws,s∉cur++nxt∧s.q=q
 ct:n+1+(cur.length+nxt.length)≤ws.length
 ms:2*(117649-ws.length)+(cur.length+nxt.length)<m0
theorem SO.start {b:TBn} (hb:b.ok):SO b 0 [rst b.first] [rst b.first] []:=⟨BI.start _,fun r hr=>by rw [List.mem_singleton.1 hr];exact ZcK hb,fun r hr=>by rw [List.mem_singleton.1 hr];rfl,fun q hq=>(by cases hq),by simp⟩
theorem SO.go {b:TBn} {n:Nat} {ws cur:List Rec} {dl:List (List Int)} (h:SO b n ws cur dl) (hc:cur≠[]):SJ b n (2*(117649-ws.length)+cur.length) ws cur [] dl:=⟨by rw [List.append_nil];exact h.bi,h.ins,h.c,fun r hr=>(by cases hr),by rw [List.append_nil];exact h.dn,⟨by simpa using h.ct,fun e=>absurd e hc⟩,⟨by simp,fun e=>absurd e hc⟩⟩
theorem SJ.next {b:TBn} {n m0:Nat} {ws nxt:List Rec} {dl:List (List Int)} (h:SJ b n m0 ws [] nxt dl):SO b (n+1) ws nxt dl∧2*(117649-ws.length)+nxt.length<m0:=⟨⟨h.bi,h.ins,h.x,h.dn,h.ct.2 rfl⟩,h.ms.2 rfl⟩
theorem SJ.few {b:TBn} (hb:b.ok) {n m0:Nat} {ws cur nxt:List Rec} {dl:List (List Int)} (h:SJ b n m0 ws cur nxt dl):ws.length≤117649:=Z2J hb h.bi.nd h.ins
theorem SR.few {b:TBn} (hb:b.ok) {n m0:Nat} {ws cur nxt:List Rec} {dl:List (List Int)} {r:Rec} {k:Nat} (h:SR b n m0 ws cur nxt dl r k):ws.length≤117649:=Z2J hb h.bj.nd h.ins
theorem SO.few {b:TBn} (hb:b.ok) {n:Nat} {ws cur:List Rec} {dl:List (List Int)} (h:SO b n ws cur dl):ws.length≤117649:=Z2J hb h.bi.nd h.ins
theorem SJ.fresh {b:TBn} {n m0:Nat} {ws cur nxt:List Rec} {dl:List (List Int)} {r:Rec} (h:SJ b n m0 ws (r::cur) nxt dl):r.q∉dl:=fun hq=>by
 obtain ⟨s,hs,h1,h2⟩:=h.dn _ hq
 exact h1 (by rw [h.bi.uniq hs (h.bi.pn r (by simp)) h2];simp)
theorem SJ.dl6 {b:TBn} {n m0:Nat} {ws cur nxt:List Rec} {dl:List (List Int)} (h:SJ b n m0 ws cur nxt dl):∀ q∈dl,q.length=6:=fun q hq=>by
 obtain ⟨s,hs,_,rfl⟩:=h.dn q hq
 exact (h.ins s hs).1
theorem SJ.pop {b:TBn} {n m0:Nat} {ws cur nxt:List Rec} {dl:List (List Int)} {r:Rec} (h:SJ b n m0 ws (r::cur) nxt dl) (hm:b.mds r.q=false):SR b n (2*(117649-ws.length)+(cur.length+1+nxt.length)) ws cur nxt (dl++[r.q]) r 0:=by
 have hp:=h.bi.pop hm
 refine ⟨hp,h.ins,h.c r (by simp),fun s hs=>h.c s (by simp [hs]),h.x,fun q hq=>?_,?_,?_⟩
 · rcases List.mem_append.1 hq with h1 | h1
   · obtain ⟨s,hs,h2,h3⟩:=h.dn q h1
     exact ⟨s,hs,fun h4=>h2 (by simp only [List.cons_append,List.mem_cons];exact .inr h4),h3⟩
   · rw [List.mem_singleton.1 h1];exact ⟨r,hp.r0,hp.r0p,rfl⟩
 · have:=h.ct.1;rw [List.length_cons] at this;omega
 · omega
theorem Zhd {b:TBn} {q:List Int} {k:Nat} {t:Int×Int} (h:(b.mvs q)[k]?=some t):(ed1 b q).take (k+1)=(ed1 b q).take k++[[t]]:=by
 rw [List.take_add_one,List.getElem?_map,h];rfl
theorem SR.skip {b:TBn} {n m0 k:Nat} {ws cur nxt:List Rec} {dl:List (List Int)} {r:Rec} (h:SR b n m0 ws cur nxt dl r k) {t:Int×Int} (ht:(b.mvs r.q)[k]?=some t) {s:Rec} (hs:s∈ws) (e:s.q=r.q.set t.1.toNat t.2):SR b n m0 ws cur nxt dl r (k+1):=⟨by rw [Zhd ht];exact h.bj.skip hs e,h.ins,h.rd,h.c,h.x,h.dn,h.ct,h.ms⟩
theorem SR.more {b:TBn} (hb:b.ok) {n m0 k:Nat} {ws cur nxt:List Rec} {dl:List (List Int)} {r:Rec} (h:SR b n m0 ws cur nxt dl r k) {t:Int×Int} (ht:(b.mvs r.q)[k]?=some t) (hn:∀ s∈ws,s.q≠r.q.set t.1.toNat t.2) (a:Option Addr) (c:Nat) :
   SR b n m0 (ws++[⟨r.q.set t.1.toNat t.2,r.q,[t],n+1,a,c⟩]) cur (nxt++[⟨r.q.set t.1.toNat t.2,r.q,[t],n+1,a,c⟩]) dl r (k+1)∧ws.length+1≤117649:=by
 have hj:=h.bj.more (l:=[t]) (List.mem_map.2 ⟨t,List.mem_of_getElem? ht,rfl⟩) hn a c
 rw [h.rd,ZqQ] at hj
 have hin:∀ x∈ws++[(⟨r.q.set t.1.toNat t.2,r.q,[t],n+1,a,c⟩:Rec)],b.inS x.q:=fun x hx=>by
   rcases List.mem_append.1 hx with h1 | h1
   · exact h.ins x h1
   · rw [List.mem_singleton.1 h1]
     exact ZbD (l:=[t]) (h.ins r h.bj.r0) (fun u hu=>by rw [List.mem_singleton.1 hu];exact (Zhv (List.mem_of_getElem? ht)).2)
 have hf:=Z2J hb hj.nd hin
 rw [List.length_append,List.length_singleton] at hf
 have h1:=h.ct
 have h2:=h.ms
 refine ⟨⟨by rw [Zhd ht,← List.append_assoc];exact hj,hin,h.rd,h.c,fun x hx=>?_,fun q hq=>?_,?_,?_⟩,hf⟩
 · rcases List.mem_append.1 hx with h3 | h3
   · exact h.x x h3
   · rw [List.mem_singleton.1 h3]
 · obtain ⟨s,hs,h3,h4⟩:=h.dn q hq
   refine ⟨s,by simp [hs],fun h5=>?_,h4⟩
   rw [← List.append_assoc] at h5
   rcases List.mem_append.1 h5 with h6 | h6
   · exact h3 h6
   · exact hn s hs (by rw [List.mem_singleton.1 h6])
 · simp only [List.length_append,List.length_singleton];omega
 · simp only [List.length_append,List.length_singleton];omega
theorem SR.done {b:TBn} {n m1 m0:Nat} {ws cur nxt:List Rec} {dl:List (List Int)} {r:Rec} (h:SR b n m1 ws cur nxt dl r (b.mvs r.q).length) (hm:m1≤m0):SJ b n m0 ws cur nxt dl:=⟨BJ.done (by have:=h.bj;rwa [List.take_of_length_le (by simp)] at this),h.ins,h.c,h.x,h.dn,⟨by have:=h.ct;omega,fun e=>by have:=h.ct;subst e;simp at this ⊢;omega⟩,⟨by have:=h.ms;omega,fun e=>by have:=h.ms;subst e;simp at this;omega⟩⟩
theorem Zjw (l:List Rec) (r:Rec):qrs l++[Ze r.q]=qrs (l++[r]):=by unfold qrs;rw [List.map_append];rfl
def SQ (b:TBn) (f:Nat→Int) (ed:Edg) (H:Z6) (R:Z5):Value→Z6→Z5→Prop:=fun v H' R'=>∃ (m:Nat) (ws:List Rec) (last:List Int) (is:Bool),v = .agg (.map (some m)::(Ze last++[.bool is])).toArray ∧
 ((is=true∧∃ r pend,last=r.q∧BI ed b.mds b.first ws (r::pend)∧b.mds r.q=true)∨(is=false∧last=List.replicate 6 0∧BI ed b.mds b.first ws []))∧(∀ r∈ws,b.inS r.q)∧H'=H∧R'=(fun w=>w.heap[m]?=some (ZJ true (wkv f ws)))::WF ws::R
theorem ZbA:Z0W Tryz.prog 126=some 8:=by kernel_rfl
theorem Zqh:Z0W Tryz.prog 47=some 2:=by kernel_rfl
theorem Zou:apT Tryz.prog 127=some (119,6,48):=by kernel_rfl
theorem ZlV:cal Tryz.prog 226=true:=by kernel_rfl
theorem ZlW:cal Tryz.prog 227=true:=by kernel_rfl
theorem Zmq:cal Tryz.prog 266=true:=by kernel_rfl
theorem ZoS:cal Tryz.prog 37=true:=by kernel_rfl
theorem Zp6:cal Tryz.prog 81=true:=by kernel_rfl
theorem Zb0:Zz Tryz.prog 119=some 6:=by kernel_rfl
theorem Zph:Zz Tryz.prog 123=some 8:=by kernel_rfl
theorem Zfz:Zz Tryz.prog 126=some 8:=by kernel_rfl
theorem Zpl:Zz Tryz.prog 333=some 1:=by kernel_rfl
theorem cn4:Zz Tryz.prog 4=some 1:=by kernel_rfl
theorem ZqX:Zz Tryz.prog 47=some 2:=by kernel_rfl
theorem Zpo:elN Tryz.prog 127=some 6:=by kernel_rfl
theorem Z23:eqB Tryz.prog 10000 119=some (true,6):=by kernel_rfl
theorem Z2h:eqB Tryz.prog 10000 3=some (false,1):=by kernel_rfl
theorem ZcT:ZG Tryz.prog 123 2=some 7:=by kernel_rfl
theorem Z5g:ZG Tryz.prog 126 0=some 0:=by kernel_rfl
theorem Z8T:ZG Tryz.prog 126 1=some 1:=by kernel_rfl
theorem ZcU:ZG Tryz.prog 126 2=some 7:=by kernel_rfl
theorem ZiX:ZG Tryz.prog 192 0=some 0:=by kernel_rfl
theorem Zn5:ZG Tryz.prog 47 0=some 0:=by kernel_rfl
theorem Zn6:ZG Tryz.prog 47 1=some 1:=by kernel_rfl
theorem Zng:Z2o Tryz.prog 127=true:=by kernel_rfl
theorem Z4j:Z0O Tryz.prog 124=some (119,123):=by kernel_rfl
theorem Z3t:Z0O Tryz.prog 333=some (3,127):=by kernel_rfl
theorem Zhs:Z0O Tryz.prog 334=some (119,4):=by kernel_rfl
theorem Z2X:Z38 Tryz.prog 10000 119=true:=by kernel_rfl
theorem Z2Y:Z38 Tryz.prog 10000 3=true:=by kernel_rfl
theorem Znx:ZD Tryz.prog 123=some [(0,6),(6,1),(7,1)]:=by kernel_rfl
theorem Zpy:ZD Tryz.prog 126=some [(0,1),(1,6),(7,1)]:=by kernel_rfl
theorem Z9f:Z0c Tryz.prog 124=true:=by kernel_rfl
theorem ZpJ:Z0c Tryz.prog 190=true:=by kernel_rfl
theorem Z5N:Z0c Tryz.prog 333=true:=by kernel_rfl
theorem ZjD:slE Tryz.prog 127=some (119,6):=by kernel_rfl
theorem Z1H:slE Tryz.prog 23=some (3,1):=by kernel_rfl
theorem ZpW:slE Tryz.prog 45=some (47,2):=by kernel_rfl
theorem Zbo:Zp Tryz.prog 119=some ([.int .i64 0,.int .i64 0,.int .i64 0,.int .i64 0,.int .i64 0,.int .i64 0]):=by kernel_rfl
theorem ZjY:Zp Tryz.prog 123=some ([.int .i64 0,.int .i64 0,.int .i64 0,.int .i64 0,.int .i64 0,.int .i64 0,.slice none 0 0,.int .i64 0]):=by kernel_rfl
theorem Zgx:Zp Tryz.prog 126=some ([.map none,.int .i64 0,.int .i64 0,.int .i64 0,.int .i64 0,.int .i64 0,.int .i64 0,.bool false]):=by kernel_rfl
theorem zl3:Zp Tryz.prog 3=some ([.int .i64 0]):=by kernel_rfl
theorem Zqd:Zp Tryz.prog 333=some ([.map none]):=by kernel_rfl
theorem Zbp:zvl Tryz.prog 123=some (.agg #[.int .i64 0,.int .i64 0,.int .i64 0,.int .i64 0,.int .i64 0,.int .i64 0,.slice none 0 0,.int .i64 0]):=by kernel_rfl
theorem ZeK:zvl Tryz.prog 127=some (.slice none 0 0):=by kernel_rfl
theorem zv4:zvl Tryz.prog 4=some (.bool false):=by kernel_rfl
theorem Zj9 {m:List Int} (h:m.length=6):∃ a b c d e f,m=[a,b,c,d,e,f]:=by
 match m,h with
 | [a,b,c,d,e,f],_=>exact ⟨a,b,c,d,e,f,rfl⟩
theorem Zrg {r:Rec} (h:r.q.length=6):∃ a b c d e f fr by_ n o k,r=⟨[a,b,c,d,e,f],fr,by_,n,o,k⟩:=by
 obtain ⟨q,fr,by_,n,o,k⟩:=r
 obtain ⟨a,b,c,d,e,f,rfl⟩:=Zj9 h
 exact ⟨a,b,c,d,e,f,fr,by_,n,o,k,rfl⟩
theorem Z95 {e sz:Nat} {rows:List (List Value)} (o:OSl e sz rows):∃ a c,o.fs = .slice a rows.length c∧rows.length≤c∧∀ {H:Z6} {R:Z5} {w:World},St (o.G++H) R w→St H (RowsA a sz rows::R) w:=by
 obtain ⟨fs,G,hl,his⟩:=o
 rcases his with ⟨rfl,rfl,rfl⟩ | ⟨b,cap,junk,rfl,rfl,_,hc,_⟩
 · exact ⟨none,0,rfl,Nat.le_refl _,fun {H R w} h=>(St.also (H:=H) (R:=R) h (f:=RowsA none sz []) (fun w' _=>fun i row hi=>by simp at hi))⟩
 · exact ⟨_,cap,rfl,hc,fun {H R w} h=>St.rows (rest:=junk) h hl⟩
theorem Zkm (A:Z6) (x:Nat×Obj) (G M H:Z6):(x::(A++(G++(M++H)))).Perm (A++(G++(x::(M++H)))):=by
 have h1:(x::(A++(G++(M++H)))).Perm (A++(x::(G++(M++H)))):=List.perm_middle.symm
 exact h1.trans (List.Perm.append_left A (List.perm_middle (l₁:=G)).symm)
theorem Znu (A G X:Z6):(A++(G++X)).Perm (G++(A++X)):=by
 rw [← List.append_assoc,← List.append_assoc];exact List.Perm.append_right X List.perm_append_comm
theorem ZjU {f:Nat→Int} {r:Rec} (h:r.fr.length=6):(wyl f r).length=8:=by unfold wyl;rw [List.length_append,ints_length,h];rfl
theorem Z5B {f:Nat→Int} {r:Rec} (h:r.fr.length=6):(wyl f r)[7]?=some (.int .i64 (f r.d)):=by
 unfold wyl;rw [List.getElem?_append_right (by rw [ints_length];omega),ints_length,h];rfl
theorem ZjV (f:Nat→Int) (r:Rec):(wyl f r).all (·.oneCell')=true:=by unfold wyl;rw [List.all_append,Zs];rfl
theorem Zox {ed:Edg} {md:List Int→Bool} {x0:List Int} {ws pend:List Rec} {r:Rec} {dl:List (List (Int×Int))} (h:BJ ed md x0 ws pend r dl) (hi:∀ s∈ws,s.q.length=6):∀ s∈ws,s.fr.length=6:=fun s hs=>by
 rcases h.fr s hs with h1 | ⟨u,hu,h1,_⟩
 · rw [h1];rfl
 · rw [← h1];exact hi u hu
theorem ZnU {ws:List Rec} {q:List Int} (h:∀ s∈ws,s.fr.length=6):((wfd ws q).getD ZeJ).fr.length=6:=by
 cases hw:wfd ws q with
 | none=>rfl
 | some r=>exact h r (Z4M hw).1
theorem Zgt {f:Nat→Int} (h0:f 0=0) (ws:List Rec) (q:List Int):(bif true then Value.tuple #[((wkv f ws).get q).getD (.agg #[.int .i64 0,.int .i64 0,.int .i64 0,.int .i64 0,.int .i64 0,.int .i64 0,.slice none 0 0,.int .i64 0]),.bool ((wkv f ws).get q).isSome] else ((wkv f ws).get q).getD (.agg #[.int .i64 0,.int .i64 0,.int .i64 0,.int .i64 0,.int .i64 0,.int .i64 0,.slice none 0 0,.int .i64 0])) = .tuple #[wyv f ((wfd ws q).getD ZeJ),.bool (wfd ws q).isSome]:=by
 rw [cond_true,Z48]
 cases wfd ws q with
 | none =>
   have e:wyv f ZeJ = .agg #[.int .i64 0,.int .i64 0,.int .i64 0,.int .i64 0,.int .i64 0,.int .i64 0,.slice none 0 0,.int .i64 0]:=by
     unfold wyv wyl ZeJ;dsimp only;rw [h0];rfl
   simp [e]
 | some r=>rfl
set_option maxHeartbeats 1600000 in
theorem Zfi (d:TD) (hy:d.y.ok) (H:Z6) (R:Z5) [hD:MemRows (some ⟨d.bd,0,none⟩) 8 [d.l] R] [hR1:MemRows d.a1 1 (irows d.y.sizes) R] [hR2:MemRows d.a2 3 (Z0B d.y.lots) R] :
    Fn Tryz.prog 151 [.pointer (some ⟨d.bd,0,none⟩),.agg #[.func (.func 81) #[] #[]],.bool false] H R (SQ d.y (fun k:Nat=>(k:Int)) (ed1 d.y) H R):=by
 have hb:=hy.nb
 have hl:=hy.nl
 obtain ⟨f0,f1,f2,f3,f4,f5,hf⟩:=Zj9 (d.y.first_len hl)
 refine Z7W Tryz.func151 rfl Tryz.ntmps151 rfl ?_
 refine sqt 2 rfl (bx rfl rfl rfl (fun b4=>alc rfl Zgx rfl (fun b6=>Z7p (sqt 11 rfl ?_))))
 refine mkm rfl rfl true (fun m18=>?_)
 refine pur 1 rfl (sp rfl (PE.nilCheck rfl) rfl (sp rfl (PE.fA Z6M rfl) rfl (spL rfl rfl (Znj (sz:=8) (Ze [f0,f1,f2,f3,f4,f5]) Z0V (rest:=[]) (by unfold TD.l;rw [hf];rfl) rfl) rfl (sp rfl (PE.build (out:=[_,_,_,_,_,_,_,_]) Znx ZjY rfl rfl) rfl ?_))))
 refine mpi [] [f0,f1,f2,f3,f4,f5] rfl Z4j (KeyT.of Z23 Z2X) rfl rfl rfl rfl (by simp) ?_
 refine pur 1 rfl (sp rfl (PE.build (out:=[_,_,_,_,_,_,_,_]) Zpy Zgx rfl rfl) rfl (alc rfl Zgx rfl (fun b7=>?_)))
 refine sto rfl rfl rfl Zfz rfl rfl rfl rfl ?_
 refine sqt 10 rfl ?_
 refine mkm rfl rfl false (fun m26=>?_)
 refine pur 1 rfl (sp rfl (PE.nilCheck rfl) rfl (sp rfl (PE.fA Z6M rfl) rfl (spL rfl rfl (Znj (sz:=8) (Ze [f0,f1,f2,f3,f4,f5]) Z0V (rest:=[]) (by unfold TD.l;rw [hf];rfl) rfl) rfl ?_)))
 refine bsl (out:=[_,_,_,_,_,_]) rfl ZjD Zbo rfl rfl rfl rfl rfl rfl (fun b31=>?_)
 refine mpi [] [0] rfl Z3t (KeyT.of Z2h Z2Y) rfl rfl rfl rfl (by simp) ?_
 refine pur 1 rfl (alc rfl Zqd rfl (fun b8=>?_))
 refine sto rfl rfl rfl Zpl rfl rfl rfl rfl ?_
 refine sqt 2 rfl ?_
 refine mkm rfl rfl true (fun m33=>?_)
 refine pur 1 rfl (Z0 (Z7o (Z0 (sqt 4 rfl (alc rfl zl3 rfl (fun b10=>alc rfl zl3 rfl (fun b11=>?_)))))))
 refine sto rfl rfl rfl cn3 rfl rfl rfl rfl ?_
 refine sto rfl rfl rfl cn3 rfl rfl rfl rfl ?_
 refine Z2 ?_
 refine Sy.heap (H':=(b11,cel 3 [.int .i64 (1)])::(b10,cel 3 [.int .i64 (0:Int)])::(m33,ZJ true (dkv []))::(b8,cel 333 [.map (some m26)])::(m26,Z2L 0 (okv 0 (some ⟨b31,0,none⟩) 1 [rst d.y.first]))::(b7,cel 126 [.map (some m18),.int .i64 0,.int .i64 0,.int .i64 0,.int .i64 0,.int .i64 0,.int .i64 0,.bool false])::(m18,ZJ true (wkv (fun k:Nat=>(k:Int)) [rst d.y.first]))::(b6,cel 126 [.map none,.int .i64 0,.int .i64 0,.int .i64 0,.int .i64 0,.int .i64 0,.int .i64 0,.bool false])::(b4,cel 192 [.func (.func 81) #[] #[]])::(mkh []++H)) (R':=WF [rst d.y.first]::RowsA (some ⟨b31,0,none⟩) 6 (qrs [rst d.y.first])::R) (fun w h=>by
   rw [Zdz]
   show St _ (WF [rst d.y.first]::RowsA (some ⟨b31,0,none⟩) 6 [Ze d.y.first]::R) w
   rw [show wkv (fun k:Nat=>(k:Int)) [rst d.y.first]=[([f0,f1,f2,f3,f4,f5],(.agg #[.int .i64 0,.int .i64 0,.int .i64 0,.int .i64 0,.int .i64 0,.int .i64 0,.slice none 0 0,.int .i64 0]))] by rw [hf];rfl,hf]
   rw [← hf]
   exact St.wf0 (Zna (row:=Ze d.y.first) (by rw [hf];exact h.pull b31) (by rw [ints_length];exact d.y.first_len hl))) ?_
 refine Z3C (ι:={y:(Nat×Nat)×Nat×(List Rec×List Rec×List (List Int))×(Option Addr×Nat)×List Nat // SO d.y y.2.1 y.2.2.1.1 y.2.2.1.2.1 y.2.2.1.2.2∧y.2.2.1.2.1.length≤y.2.2.2.1.2}) (fun y=>⟨[(0,.pointer (some ⟨d.bd,0,none⟩)),(2,.bool false),(4,.pointer (some ⟨b4,0,none⟩)),(6,.pointer (some ⟨b6,0,none⟩)),(7,.pointer (some ⟨b7,0,none⟩)),(8,.pointer (some ⟨b8,0,none⟩)),(9,.map (some m33)),(10,.pointer (some ⟨y.1.1.1,0,none⟩)),(11,.pointer (some ⟨y.1.1.2,0,none⟩))],mks y.1.2.2.2.2,(y.1.1.2,cel 3 [.int .i64 ((y.1.2.2.1.2.1.length:Nat):Int)])::(y.1.1.1,cel 3 [.int .i64 (y.1.2.1:Int)])::(m33,ZJ true (dkv y.1.2.2.1.2.2))::(b8,cel 333 [.map (some m26)])::(m26,Z2L y.1.2.1 (okv y.1.2.1 y.1.2.2.2.1.1 y.1.2.2.2.1.2 y.1.2.2.1.2.1))::(b7,cel 126 [.map (some m18),.int .i64 0,.int .i64 0,.int .i64 0,.int .i64 0,.int .i64 0,.int .i64 0,.bool false])::(m18,ZJ true (wkv (fun k:Nat=>(k:Int)) y.1.2.2.1.1))::(b6,cel 126 [.map none,.int .i64 0,.int .i64 0,.int .i64 0,.int .i64 0,.int .i64 0,.int .i64 0,.bool false])::(b4,cel 192 [.func (.func 81) #[] #[]])::(mkh y.1.2.2.2.2++H),WF y.1.2.2.1.1::RowsA y.1.2.2.2.1.1 6 (qrs y.1.2.2.1.2.1)::R⟩) (fun y=>2*(117649-y.1.2.2.1.1.length)+y.1.2.2.1.2.1.length) ⟨((b10,b11),0,([rst d.y.first],[rst d.y.first],[]),(some ⟨b31,0,none⟩,1),[]),SO.start hy,Nat.le_refl _⟩ ?_ (fun y=>?_)
 exact Z8o sbA rfl idH
 ·
  obtain ⟨⟨⟨c10,c11⟩,n,⟨ws,cur,dl⟩,⟨a,c⟩,mk⟩,hso,hcc⟩:=y
  dsimp only at hso hcc ⊢
  have hfew:=hso.few hy
  have hct:=hso.ct
  refine Z0 (sqt 2 rfl (spL rfl rfl (lh sc3 rfl rfl) rfl (pur 1 rfl ?_)))
  refine Z1 rfl ?_ ?_<;>intro hc0<;>try simp only [cS] at hc0
  ·
   have hne:cur≠[]:=fun e=>by subst e;exact absurd hc0 (by simp)
   rw [Zg5 hne]
   obtain ⟨m0,hm0⟩:∃ m0,m0=2*(117649-ws.length)+cur.length:=⟨_,rfl⟩
   have hgo:=hso.go hne
   rw [← hm0] at hgo
   clear hct
   refine Z3 (Z0 (Z2 (Z0 (Z2 ?_))))
   refine Z3C (ι:=(y:{y:(List Rec×List Rec×List Rec×List (List Int))×(Option Addr×Nat)×List Nat // SJ d.y n m0 y.1.1 y.1.2.1 y.1.2.2.1 y.1.2.2.2∧y.1.2.1.length≤y.2.1.2})×{o:OSl 119 6 (qrs y.1.1.2.2.1) // y.1.1.2.2.1=[]→o.fs = .slice none 0 0}) (fun y=>⟨[(0,.pointer (some ⟨d.bd,0,none⟩)),(2,.bool false),(4,.pointer (some ⟨b4,0,none⟩)),(6,.pointer (some ⟨b6,0,none⟩)),(7,.pointer (some ⟨b7,0,none⟩)),(8,.pointer (some ⟨b8,0,none⟩)),(9,.map (some m33)),(10,.pointer (some ⟨c10,0,none⟩)),(11,.pointer (some ⟨c11,0,none⟩))],mks y.1.1.2.2,(c11,cel 3 [.int .i64 ((y.1.1.1.2.1.length+y.1.1.1.2.2.1.length:Nat):Int)])::(c10,cel 3 [.int .i64 (n:Int)])::(m33,ZJ true (dkv y.1.1.1.2.2.2))::(b8,cel 333 [.map (some m26)])::(m26,Z2L n (qkv n (.slice y.1.1.2.1.1 y.1.1.1.2.1.length y.1.1.2.1.2) y.1.1.1.2.2.1 y.2.1.fs))::(b7,cel 126 [.map (some m18),.int .i64 0,.int .i64 0,.int .i64 0,.int .i64 0,.int .i64 0,.int .i64 0,.bool false])::(m18,ZJ true (wkv (fun k:Nat=>(k:Int)) y.1.1.1.1))::(b6,cel 126 [.map none,.int .i64 0,.int .i64 0,.int .i64 0,.int .i64 0,.int .i64 0,.int .i64 0,.bool false])::(b4,cel 192 [.func (.func 81) #[] #[]])::(y.2.1.G++(mkh y.1.1.2.2++H)),WF y.1.1.1.1::RowsA y.1.1.2.1.1 6 (qrs y.1.1.1.2.1)::R⟩) (fun y=>2*(117649-y.1.1.1.1.length)+(y.1.1.1.2.1.length+y.1.1.1.2.2.1.length)) ⟨⟨((ws,cur,[],dl),(a,c),mk),hgo,hcc⟩,OSl.nil _ _,fun _=>rfl⟩ ?_ (fun y=>?_)
   exact Z8o sbA rfl idH
   ·
    clear hgo hfew hne
    obtain ⟨⟨⟨⟨ws,cur,nxt,dl⟩,⟨a,c⟩,mk⟩,hsj,hcc⟩,⟨o,hon⟩⟩:=y
    dsimp only at hsj hcc o hon ⊢
    have hfew:=hsj.few hy
    have hct:=hsj.ct.1
    refine Z0 (sqt 5 rfl (spL rfl rfl (lh Z5N rfl rfl) rfl (spL rfl rfl (lh sc3 rfl rfl) rfl ?_)))
    refine spK rfl rfl rfl (Z3p (qkv n (.slice a cur.length c) nxt o.fs) [(n:Int)] Z3t (KeyT.of Z2h Z2Y) (ZQ ZeK) rfl (Z2p _ _ _ _) (Z9b _ _ _ _ _)) rfl ?_
    refine sp rfl (PE.lenSl Zng rfl) rfl (pur 1 rfl ?_)
    refine Z1 rfl ?_ ?_<;>intro hc1<;>try simp only [cS] at hc1
    ·
     obtain ⟨r,cur,rfl⟩:∃ r l,cur=r::l:=by cases cur with | nil=>exact absurd hc1 (by simp) | cons r l=>exact ⟨r,l,rfl⟩
     rw [List.length_cons] at hct hcc
     have hr6:=(hsj.ins r (hsj.bi.pn r (by simp))).1
     obtain ⟨q0,q1,q2,q3,q4,q5,fr,by_,dd,ra,rk,rfl⟩:=Zrg hr6
     have hfr:=hsj.fresh
     dsimp only at hr6 hfr
     refine Zj (a:=a) (sz:=6) (rows:=qrs (⟨[q0,q1,q2,q3,q4,q5],fr,by_,dd,ra,rk⟩::cur)) (by simp [qrs]) (fun ba oa he=>?_)
     subst he
     refine Z3 (Z2 (sqt 7 rfl (spL rfl rfl (lh Z5N rfl rfl) rfl (spL rfl rfl (lh sc3 rfl rfl) rfl ?_))))
     refine spK rfl rfl rfl (Z3p (qkv n (.slice (some ⟨ba,oa,none⟩) (⟨[q0,q1,q2,q3,q4,q5],fr,by_,dd,ra,rk⟩::cur).length c) nxt o.fs) [(n:Int)] Z3t (KeyT.of Z2h Z2Y) (ZQ ZeK) rfl (Z2p _ _ _ _) (Z9b _ _ _ _ _)) rfl ?_
     refine sp rfl (PE.indexAddr Zpo rfl rfl (by decide) (by rw [List.length_cons];omega)) rfl (spL rfl rfl (lfA Z0V (rows:=qrs (⟨[q0,q1,q2,q3,q4,q5],fr,by_,dd,ra,rk⟩::cur)) (row:=Ze [q0,q1,q2,q3,q4,q5]) rfl rfl) rfl (alc rfl Zbo rfl (fun b12=>?_)))
     refine Z2V rfl rfl rfl Zb0 rfl rfl rfl (Zs _) ?_
     refine Z0 ?_
     refine Za [0,0,0,0,12,28,63] (.ld 0 (.ld 1 (.ld 2 (.ld 3 (.ld 4 (.tk 5 (.big 6 .done))))))) Zl (by kernel_rfl) ?_
     refine ld rfl rfl (lh Z5N rfl rfl) rfl (ld rfl rfl (lh sc3 rfl rfl) rfl (ld rfl rfl (lh Z5N rfl rfl) rfl (ld rfl rfl (lh sc3 rfl rfl) rfl ?_)))
     refine ldK rfl rfl rfl (Z3p (qkv n (.slice (some ⟨ba,oa,none⟩) (⟨[q0,q1,q2,q3,q4,q5],fr,by_,dd,ra,rk⟩::cur).length c) nxt o.fs) [(n:Int)] Z3t (KeyT.of Z2h Z2Y) (ZQ ZeK) rfl (Z2p _ _ _ _) (Z9b _ _ _ _ _)) rfl ?_
     refine tk rfl (PE.slLoA (l:=1) ZjD rfl rfl (by rw [List.length_cons];omega)) rfl ?_
     refine Zqu (qkv n (.slice (some ⟨ba,oa,none⟩) (⟨[q0,q1,q2,q3,q4,q5],fr,by_,dd,ra,rk⟩::cur).length c) nxt o.fs) [(n:Int)] rfl Z3t (KeyT.of Z2h Z2Y) rfl rfl rfl rfl (Z2p _ _ _ _) ?_
     refine bgT (Z0 (sqt 3 rfl ?_))
     rw [Zgc]
     refine Sy.heap (fun w h=>h.also (f:=RowsA (if c=1 then some ⟨ba,oa,none⟩ else (some (⟨ba,oa,none⟩:Addr)).map (·.add (1*6))) 6 (qrs cur)) (fun w9 hw=>RowsA.tl (row:=Ze [q0,q1,q2,q3,q4,q5]) (hw _ (inferInstance:MemRows (some ⟨ba,oa,none⟩) 6 (qrs (⟨[q0,q1,q2,q3,q4,q5],fr,by_,dd,ra,rk⟩::cur)) _).mem) (by rw [List.length_map];exact hcc))) ?_
     obtain ⟨a2,ha2⟩:∃ a2:Option Addr,a2=(if c=1 then some ⟨ba,oa,none⟩ else (some (⟨ba,oa,none⟩:Addr)).map (·.add (1*6))):=⟨_,rfl⟩
     rw [← ha2]
     have hle:(⟨[q0,q1,q2,q3,q4,q5],fr,by_,dd,ra,rk⟩::cur:List Rec).length-1=cur.length:=by simp
     rw [hle]
     clear ha2 hle
     refine spL rfl rfl (lh sc3 rfl rfl) rfl (sp rfl (PE.sub rfl rfl (by simp only [List.length_cons];omega)) rfl ?_)
     refine sto rfl rfl rfl cn3 rfl rfl rfl rfl ?_
     refine sqt 3 rfl ?_
     rw [show ((((⟨[q0,q1,q2,q3,q4,q5],fr,by_,dd,ra,rk⟩::cur:List Rec).length+nxt.length:Nat):Int)-1)=((cur.length+nxt.length:Nat):Int) by rw [List.length_cons];omega]
     refine pur 1 rfl (spL rfl rfl (lhA (Ze [q0,q1,q2,q3,q4,q5]) Z0V rfl (rest:=[]) rfl rfl) rfl ?_)
     refine spK rfl rfl rfl (Z1n (b:=true) (dkv dl) [q0,q1,q2,q3,q4,q5] Zhs (KeyT.of Z23 Z2X) (ZQ zv4) rfl (ZcF hsj.dl6) (ZmW hfr)) rfl ?_
     refine Z1 rfl ?_ ?_<;>intro hc2
     exact absurd hc2 (by simp)
     ·
      refine Z3 (sqt 3 rfl (pur 1 rfl (spL rfl rfl (lhA (Ze [q0,q1,q2,q3,q4,q5]) Z0V rfl (rest:=[]) rfl rfl) rfl ?_)))
      refine mpu (dkv dl) [q0,q1,q2,q3,q4,q5] (v:=.bool true) rfl Zhs (KeyT.of Z23 Z2X) rfl rfl rfl rfl (ZcF hsj.dl6) ?_
      rw [ZiI hfr]
      refine Z0 (sqt 7 rfl (pur 4 rfl (Z0e rfl rfl rfl rfl rfl (lhA (Ze [q0,q1,q2,q3,q4,q5]) Z0V rfl (rest:=[]) rfl rfl) rfl ?_)))
      refine Z6x rfl rfl rfl rfl ZoS rfl rfl (ZkC d hy [q0,q1,q2,q3,q4,q5] rfl _ _) ?_
      refine pur 1 rfl ?_
      refine Z1 rfl ?_ ?_<;>intro hc3
      refine sqt 5 rfl (spL rfl rfl (lhA (Ze [q0,q1,q2,q3,q4,q5]) Z0V rfl (rest:=[]) rfl rfl) rfl (sp rfl (PE.fA Z8T rfl) rfl ?_))
      refine Zy (l':=[.map (some m18),.int .i64 q0,.int .i64 q1,.int .i64 q2,.int .i64 q3,.int .i64 q4,.int .i64 q5,.bool false]) rfl rfl rfl Zb0 rfl rfl rfl rfl (nl rfl) ?_
      refine sp rfl (PE.fA ZcU rfl) rfl ?_
      refine Zy (l':=[.map (some m18),.int .i64 q0,.int .i64 q1,.int .i64 q2,.int .i64 q3,.int .i64 q4,.int .i64 q5,.bool true]) rfl rfl rfl cn4 rfl rfl rfl rfl (nl rfl) ?_
      refine Z7 (Z8 (ZW (by decide) (Z8 (ZW (by decide) (Z8 (ZW (by decide) (Z8 (Z8 (Zi (sqt 2 rfl (spL rfl rfl (lhA [.map (some m18),.int .i64 q0,.int .i64 q1,.int .i64 q2,.int .i64 q3,.int .i64 q4,.int .i64 q5,.bool true] ZbA rfl (rest:=[]) rfl rfl) rfl ?_)))))))))))
      refine Zy (l':=[.map (some m18),.int .i64 q0,.int .i64 q1,.int .i64 q2,.int .i64 q3,.int .i64 q4,.int .i64 q5,.bool true]) rfl rfl rfl Zfz rfl rfl rfl rfl (nl rfl) ?_
      refine Z4 ?_
      refine Sy.heap (H':=mkh mk++((b6,cel 126 [.map (some m18),.int .i64 q0,.int .i64 q1,.int .i64 q2,.int .i64 q3,.int .i64 q4,.int .i64 q5,.bool true])::H)) (R':=(fun w=>w.heap[m18]?=some (ZJ true (wkv (fun k:Nat=>(k:Int)) ws)))::WF ws::R) (fun w h=>by
        have h2:=St.freeze (((((((((h.del b12).del c11).del c10).del m33).del b8).del m26).del b7).del b4).pull m18)
        have h3:=St.drop (G:=o.G) (h2.perm (List.perm_middle (l₁:=o.G)).symm)
        exact St.sub (h3.perm (List.perm_middle (l₁:=mkh mk)).symm)) ?_
      exact Z0p mk idH rfl (.cons (RV.cell rfl (lhA [.map (some m18),.int .i64 q0,.int .i64 q1,.int .i64 q2,.int .i64 q3,.int .i64 q4,.int .i64 q5,.bool true] ZbA rfl (rest:=[]) rfl rfl)) .nil) rfl ⟨m18,ws,[q0,q1,q2,q3,q4,q5],true,rfl,.inl ⟨rfl,⟨[q0,q1,q2,q3,q4,q5],fr,by_,dd,ra,rk⟩,cur++nxt,rfl,hsj.bi,hc3⟩,hsj.ins,rfl,rfl⟩ (fun w h=>h.del b6)
      ·
       try simp only [cS] at hc3
       have hmd:d.y.mds [q0,q1,q2,q3,q4,q5]=false:=by simpa using hc3
       have hpop:=hsj.pop hmd
       have hdn:n=dd:=(hsj.c ⟨[q0,q1,q2,q3,q4,q5],fr,by_,dd,ra,rk⟩ (by simp)).symm
       subst hdn
       refine Z3 (sqt 3 rfl (pur 1 rfl (spL rfl rfl (lhA (Ze [q0,q1,q2,q3,q4,q5]) Z0V rfl (rest:=[]) rfl rfl) rfl ?_)))
       refine cl rfl ZlV rfl rfl (Z3P d [q0,q1,q2,q3,q4,q5] rfl _ _) ?_
       rintro _ _ _ ⟨x1,x2,rfl,rfl,rfl⟩
       refine Sy.heap (H':=(b12,cel 119 (Ze [q0,q1,q2,q3,q4,q5]))::(c11,cel 3 [.int .i64 ((cur.length+nxt.length:Nat):Int)])::(c10,cel 3 [.int .i64 (n:Int)])::(m33,ZJ true (dkv (dl++[[q0,q1,q2,q3,q4,q5]])))::(b8,cel 333 [.map (some m26)])::(m26,Z2L n (qkv n (.slice a2 cur.length (c-1)) nxt o.fs))::(b7,cel 126 [.map (some m18),.int .i64 0,.int .i64 0,.int .i64 0,.int .i64 0,.int .i64 0,.int .i64 0,.bool false])::(m18,ZJ true (wkv (fun k:Nat=>(k:Int)) ws))::(b6,cel 126 [.map none,.int .i64 0,.int .i64 0,.int .i64 0,.int .i64 0,.int .i64 0,.int .i64 0,.bool false])::(b4,cel 192 [.func (.func 81) #[] #[]])::(o.G++(mkh mk++H))) (R':=WF ws::RowsA (some ⟨x2,0,none⟩) 6 [Ze [q0,q1,q2,q3,q4,q5]]::RowsA (some ⟨x1,0,none⟩) 1 [[.pointer (some ⟨d.bd,0,none⟩)]]::RowsA a2 6 (qrs cur)::R) (fun w h=>St.sub (A:=WF ws::RowsA (some ⟨x2,0,none⟩) 6 [Ze [q0,q1,q2,q3,q4,q5]]::RowsA (some ⟨x1,0,none⟩) 1 [[.pointer (some ⟨d.bd,0,none⟩)]]::RowsA a2 6 (qrs cur)::R) h) ?_
       refine Z2 ?_
       refine Z3D rfl Zmq (fun c0 bl0 bd0 hcp0 hca0 hcb0 hck0=>?_)
       refine ⟨fun st pend T R'=>st = .ready∧pend=none∧∃ (ws' nxt':List Rec) (o':OSl 119 6 (qrs nxt')),SR d.y n (2*(117649-ws.length)+(cur.length+1+nxt.length)) ws' cur nxt' (dl++[[q0,q1,q2,q3,q4,q5]]) ⟨[q0,q1,q2,q3,q4,q5],fr,by_,n,ra,rk⟩ ((d.y.mvs [q0,q1,q2,q3,q4,q5]).length)∧(nxt'=[]→o'.fs = .slice none 0 0)∧T=(bd0,.deferred (some []))::(b12,cel 119 (Ze [q0,q1,q2,q3,q4,q5]))::(c11,cel 3 [.int .i64 ((cur.length+nxt'.length:Nat):Int)])::(c10,cel 3 [.int .i64 (n:Int)])::(m33,ZJ true (dkv (dl++[[q0,q1,q2,q3,q4,q5]])))::(b8,cel 333 [.map (some m26)])::(m26,Z2L n (qkv n (.slice a2 cur.length (c-1)) nxt' o'.fs))::(b7,cel 126 [.map (some m18),.int .i64 0,.int .i64 0,.int .i64 0,.int .i64 0,.int .i64 0,.int .i64 0,.bool false])::(m18,ZJ true (wkv (fun k:Nat=>(k:Int)) ws'))::(b6,cel 126 [.map none,.int .i64 0,.int .i64 0,.int .i64 0,.int .i64 0,.int .i64 0,.int .i64 0,.bool false])::(b4,cel 192 [.func (.func 81) #[] #[]])::(o'.G++(mkh mk++H))∧R'=WF ws'::RowsA (some ⟨x2,0,none⟩) 6 [Ze [q0,q1,q2,q3,q4,q5]]::RowsA (some ⟨x1,0,none⟩) 1 [[.pointer (some ⟨d.bd,0,none⟩)]]::RowsA a2 6 (qrs cur)::R,
         Fn.mono (Zir d hy [q0,q1,q2,q3,q4,q5] rfl x1 x2 bl0 (fun k H' R'=>∃ (ws' nxt':List Rec) (o':OSl 119 6 (qrs nxt')),SR d.y n (2*(117649-ws.length)+(cur.length+1+nxt.length)) ws' cur nxt' (dl++[[q0,q1,q2,q3,q4,q5]]) ⟨[q0,q1,q2,q3,q4,q5],fr,by_,n,ra,rk⟩ (k)∧(nxt'=[]→o'.fs = .slice none 0 0)∧H'=(bl0,lob c0 .ready none)::(bd0,.deferred (some []))::(b12,cel 119 (Ze [q0,q1,q2,q3,q4,q5]))::(c11,cel 3 [.int .i64 ((cur.length+nxt'.length:Nat):Int)])::(c10,cel 3 [.int .i64 (n:Int)])::(m33,ZJ true (dkv (dl++[[q0,q1,q2,q3,q4,q5]])))::(b8,cel 333 [.map (some m26)])::(m26,Z2L n (qkv n (.slice a2 cur.length (c-1)) nxt' o'.fs))::(b7,cel 126 [.map (some m18),.int .i64 0,.int .i64 0,.int .i64 0,.int .i64 0,.int .i64 0,.int .i64 0,.bool false])::(m18,ZJ true (wkv (fun k:Nat=>(k:Int)) ws'))::(b6,cel 126 [.map none,.int .i64 0,.int .i64 0,.int .i64 0,.int .i64 0,.int .i64 0,.int .i64 0,.bool false])::(b4,cel 192 [.func (.func 81) #[] #[]])::(o'.G++(mkh mk++H))∧R'=WF ws'::RowsA (some ⟨x2,0,none⟩) 6 [Ze [q0,q1,q2,q3,q4,q5]]::RowsA (some ⟨x1,0,none⟩) 1 [[.pointer (some ⟨d.bd,0,none⟩)]]::RowsA a2 6 (qrs cur)::R) (fun k H' R' h9=>?_) (fun k t H' R' hk h9=>?_) _ _ ⟨ws,nxt,o,hpop,hon,rfl,rfl⟩) (fun v H' R' h9=>?_),?_⟩
       · obtain ⟨ws1,nx1,o1,_,_,rfl,rfl⟩:=h9
         exact ⟨(inferInstance:MemRows (some ⟨x1,0,none⟩) 1 [[.pointer (some ⟨d.bd,0,none⟩)]] (WF ws1::RowsA (some ⟨x2,0,none⟩) 6 [Ze [q0,q1,q2,q3,q4,q5]]::RowsA (some ⟨x1,0,none⟩) 1 [[.pointer (some ⟨d.bd,0,none⟩)]]::RowsA a2 6 (qrs cur)::R)).mem,(inferInstance:MemRows (some ⟨x2,0,none⟩) 6 [Ze [q0,q1,q2,q3,q4,q5]] (WF ws1::RowsA (some ⟨x2,0,none⟩) 6 [Ze [q0,q1,q2,q3,q4,q5]]::RowsA (some ⟨x1,0,none⟩) 1 [[.pointer (some ⟨d.bd,0,none⟩)]]::RowsA a2 6 (qrs cur)::R)).mem,(inferInstance:MemRows (some ⟨d.bd,0,none⟩) 8 [d.l] (WF ws1::RowsA (some ⟨x2,0,none⟩) 6 [Ze [q0,q1,q2,q3,q4,q5]]::RowsA (some ⟨x1,0,none⟩) 1 [[.pointer (some ⟨d.bd,0,none⟩)]]::RowsA a2 6 (qrs cur)::R)).mem,(inferInstance:MemRows d.a1 1 (irows d.y.sizes) (WF ws1::RowsA (some ⟨x2,0,none⟩) 6 [Ze [q0,q1,q2,q3,q4,q5]]::RowsA (some ⟨x1,0,none⟩) 1 [[.pointer (some ⟨d.bd,0,none⟩)]]::RowsA a2 6 (qrs cur)::R)).mem,(inferInstance:MemRows d.a2 3 (Z0B d.y.lots) (WF ws1::RowsA (some ⟨x2,0,none⟩) 6 [Ze [q0,q1,q2,q3,q4,q5]]::RowsA (some ⟨x1,0,none⟩) 1 [[.pointer (some ⟨d.bd,0,none⟩)]]::RowsA a2 6 (qrs cur)::R)).mem⟩
       rotate_left
       · obtain ⟨ws1,nx1,o1,h1,h2,rfl,rfl⟩:=h9
         exact ⟨.ready,none,_,by simp,.refl _,rfl,rfl,ws1,nx1,o1,h1,h2,rfl,rfl⟩
       rotate_left
       obtain ⟨ws1,nx1,o1,hsr,hon1,rfl,rfl⟩:=h9
       have htm:=Zhv (List.mem_of_getElem? hk)
       obtain ⟨u0,u1,u2,u3,u4,u5,hu⟩:=Zj9 (show (([q0,q1,q2,q3,q4,q5]:List Int).set t.1.toNat t.2).length=6 by rw [List.length_set];rfl)
       have hfew1:=hsr.few hy
       have hct1:=hsr.ct
       have h61:∀ s∈ws1,s.q.length=6:=fun s hs=>(hsr.ins s hs).1
       have hfr1:=ZnU (q:=[u0,u1,u2,u3,u4,u5]) (Zox hsr.bj h61)
       refine Zgv hcp0 hca0 hcb0 hck0 rfl ?_
       refine sqr 2 rfl (alc rfl Zoh rfl (fun b13=>?_))
       refine Zy (l':=[.int .i64 t.1,.int .i64 t.2]) rfl rfl rfl ZqX rfl rfl rfl rfl (nl rfl) ?_
       refine Z0A ?_
       refine Z2 (sqt 3 rfl (spL rfl rfl (lhA (Ze [q0,q1,q2,q3,q4,q5]) Z0V rfl (rest:=[]) rfl rfl) rfl (alc rfl Zbo rfl (fun b14=>?_))))
       refine Z2V rfl rfl rfl Zb0 rfl rfl rfl (Zs _) ?_
       refine sqt 6 rfl (sp rfl (PE.fA Zn5 rfl) rfl (spL rfl rfl (lh (v:=.int .i64 t.1) sc3 rfl rfl) rfl (sp rfl (PE.fA Zn6 rfl) rfl (spL rfl rfl (lh (v:=.int .i64 t.2) sc3 rfl rfl) rfl (sp rfl (PE.indexArr Zf2 rfl rfl (by omega) (by omega)) rfl ?_)))))
       refine Zy (l':=Ze [u0,u1,u2,u3,u4,u5]) rfl rfl rfl cn3 rfl rfl rfl (by rw [← hu];exact Zed (k:=t.1.toNat) (by show _<6;omega) (by show 0+t.1.toNat*1=_;omega)) (by show 0+t.1.toNat*1+1≤6;omega) ?_
       refine Z0 ?_
       refine Za [0,0,2,0,14,31,63] (.ld 0 (.tk 1 (.ld 2 (.ld 3 (.big 4 (.tk 5 (.tk 6 .done))))))) Zl (by kernel_rfl) ?_
       refine ld rfl rfl (lh sc3 rfl rfl) rfl (tk rfl (PE.fA ZiX rfl) rfl (ld rfl rfl (lh ZpJ rfl rfl) rfl (ld rfl rfl (lhA [.int .i64 t.1,.int .i64 t.2] Zqh rfl (rest:=[]) rfl rfl) rfl ?_)))
       refine Z2c rfl rfl (Zp6) rfl rfl (ZoH _ _ _ _) ?_
       refine bg (fun w hs=>⟨trivial,trivial,(lh sc3 rfl rfl) w hs,trivial⟩) ?_
       refine tk rfl (PE.add rfl rfl (by omega)) rfl (Zg 1 rfl (Z0 (sqt 10 rfl (sp rfl (PE.fA Z5g rfl) rfl (spL rfl rfl (lh Z9f rfl rfl) rfl (spL rfl rfl (lhA (Ze [u0,u1,u2,u3,u4,u5]) Z0V rfl (rest:=[]) rfl rfl) rfl ?_))))))
       refine spK rfl rfl rfl (Z19 (b:=true) (wkv (fun k:Nat=>(k:Int)) ws1) [u0,u1,u2,u3,u4,u5] Z4j (KeyT.of Z23 Z2X) (ZQ Zbp) rfl (Z3d h61) true) rfl ?_
       rw [Zgt (f:=(fun k:Nat=>(k:Int))) rfl]
       refine pur 3 rfl (alc rfl ZjY rfl (fun b16=>?_))
       refine Z2V (vs:=wyl (fun k:Nat=>(k:Int)) ((wfd ws1 [u0,u1,u2,u3,u4,u5]).getD ZeJ)) rfl rfl rfl Zph rfl (ZjU hfr1) rfl (ZjV _ _) ?_
       refine pur 1 rfl (Z0 ?_)
       refine Za [0,1,3,3,11,27,63,3,131,511,1023] (tks 0 4 (.ld 4 (.tk 7 (.ld 8 (.big 5 (.big 6 (.tk 9 (.tk 10 .done)))))))) Zl (by kernel_rfl) ?_
       refine Zg 2 rfl ?_
       refine Zq 95 rfl ?_ ?_<;>intro g95
       obtain ⟨x9,hx9⟩:=Option.isSome_iff_exists.1 g95
       obtain ⟨hx1,hx2⟩:=Z4M hx9
       have hd9:((wfd ws1 [u0,u1,u2,u3,u4,u5]).getD ZeJ).d≤n+1:=by rw [hx9];exact hsr.bj.top x9 hx1
       refine Zg 1 rfl ?_
       refine tkG rfl rfl rfl rfl (PE.fA ZcT rfl) rfl ?_
       refine ldG rfl rfl rfl rfl rfl (lh (v:=.int .i64 ((((wfd ws1 [u0,u1,u2,u3,u4,u5]).getD ZeJ).d:Nat):Int)) sc3 rfl (Z5B hfr1)) rfl ?_
       refine tkG rfl rfl rfl rfl (PE.fA ZcT rfl) rfl ?_
       refine ldG rfl rfl rfl rfl rfl (lh (v:=.int .i64 ((((wfd ws1 [u0,u1,u2,u3,u4,u5]).getD ZeJ).d:Nat):Int)) sc3 rfl (Z5B hfr1)) rfl ?_
       refine ZqR (out:=[_]) rfl rfl rfl rfl Z1H zl3 rfl rfl rfl rfl rfl rfl (fun b99=>?_)
       refine bg (fun w hs=>⟨(lh (v:=.int .i64 ((((wfd ws1 [u0,u1,u2,u3,u4,u5]).getD ZeJ).d:Nat):Int)) sc3 rfl (Z5B hfr1)) w hs,trivial,trivial⟩) ?_
       refine Z6x rfl rfl rfl rfl ZlW rfl rfl (Z32 _ _ b99 _ _ _) ?_
       refine bg (fun w hs=>⟨(lh (v:=.int .i64 ((((wfd ws1 [u0,u1,u2,u3,u4,u5]).getD ZeJ).d:Nat):Int)) sc3 rfl (Z5B hfr1)) w hs,trivial⟩) ?_
       refine Zg 2 rfl ?_
       refine Z1 rfl ?_ ?_<;>intro hc4
       refine Z7 (Z8 (Zi ?_))
       exact ZX ⟨rfl,ws1,nx1,o1,hsr.skip hk hx1 (hx2.trans hu.symm),hon1,rfl,rfl⟩ (fun w h=>(((h.del b99).del b16).del b14).del b13)
       exact absurd hc4 (by simp;omega)
       have hno:∀ s∈ws1,s.q≠[u0,u1,u2,u3,u4,u5]:=ZaP (by simpa using g95)
       obtain ⟨hmore,hN⟩:=hsr.more hy hk (by dsimp only;rw [hu];exact hno) (some ⟨0,0,none⟩) 1
       clear hmore
       refine Zg 2 rfl ?_
       refine ldN rfl rfl rfl rfl rfl rfl rfl rfl ?_
       refine Zg 1 rfl ?_
       refine ldN rfl rfl rfl rfl rfl rfl rfl rfl ?_
       refine spN rfl rfl rfl rfl rfl rfl rfl rfl ?_
       refine bg (fun w hs=>⟨((fun _ _=>True.intro)) w hs,trivial,trivial⟩) ?_
       refine spN rfl rfl rfl rfl rfl rfl rfl rfl ?_
       refine bg (fun w hs=>⟨((fun _ _=>True.intro)) w hs,trivial⟩) ?_
       refine Zg 2 rfl ?_
       refine Zt rfl ?_
       refine Z3 (sqt 9 rfl (sp rfl (PE.fA Z5g rfl) rfl (spL rfl rfl (lh Z9f rfl rfl) rfl (spL rfl rfl (lhA (Ze [u0,u1,u2,u3,u4,u5]) Z0V rfl (rest:=[]) rfl rfl) rfl (spL rfl rfl (lhA (Ze [q0,q1,q2,q3,q4,q5]) Z0V rfl (rest:=[]) rfl rfl) rfl (spL rfl rfl (lhA [.int .i64 t.1,.int .i64 t.2] Zqh rfl (rest:=[]) rfl rfl) rfl ?_))))))
       refine bsl (out:=[_,_]) rfl ZpW Zoh rfl rfl rfl rfl rfl rfl (fun b110=>?_)
       refine pur 1 rfl (sp rfl (PE.build (out:=[_,_,_,_,_,_,_,_]) Znx ZjY rfl rfl) rfl ?_)
       refine mpu (wkv (fun k:Nat=>(k:Int)) ws1) [u0,u1,u2,u3,u4,u5] (v:=wyv (fun k:Nat=>(k:Int)) ⟨[u0,u1,u2,u3,u4,u5],[q0,q1,q2,q3,q4,q5],[t],n+1,some ⟨b110,0,none⟩,1⟩) rfl Z4j (KeyT.of Z23 Z2X) rfl rfl rfl rfl (Z3d h61) ?_
       refine Z0 ?_
       refine Za [0,0,0,0,12,0,32,124,255] (.ld 0 (.tk 1 (.ld 2 (.tk 3 (.ld 4 (.ld 5 (.big 6 (.big 7 (.big 8 .done))))))))) Zl (by kernel_rfl) ?_
       rw [ZjQ (fun k:Nat=>(k:Int)) (r:=⟨[u0,u1,u2,u3,u4,u5],[q0,q1,q2,q3,q4,q5],[t],n+1,some ⟨b110,0,none⟩,1⟩) hno]
       refine Sy.heap (fun w h=>St.sub (A:=WF (ws1++[⟨[u0,u1,u2,u3,u4,u5],[q0,q1,q2,q3,q4,q5],[t],n+1,some ⟨b110,0,none⟩,1⟩])::RowsA (some ⟨x2,0,none⟩) 6 [Ze [q0,q1,q2,q3,q4,q5]]::RowsA (some ⟨x1,0,none⟩) 1 [[.pointer (some ⟨d.bd,0,none⟩)]]::RowsA a2 6 (qrs cur)::R) (St.wfSnoc (ws:=ws1) (r:=⟨[u0,u1,u2,u3,u4,u5],[q0,q1,q2,q3,q4,q5],[t],n+1,some ⟨b110,0,none⟩,1⟩) (m2:=(inferInstance:MemRows (some ⟨b110,0,none⟩) 2 [[.int .i64 t.1,.int .i64 t.2]] _)) (Zna (row:=[.int .i64 t.1,.int .i64 t.2]) (h.pull b110) rfl))) ?_
       refine ld rfl rfl (lh Z5N rfl rfl) rfl (Zg 1 rfl (ld rfl rfl (lh Z5N rfl rfl) rfl (Zg 1 rfl ?_)))
       refine ldK rfl rfl rfl (Z3p (qkv n (.slice a2 cur.length (c-1)) nx1 o1.fs) [(n:Int)+1] Z3t (KeyT.of Z2h Z2Y) (ZQ ZeK) rfl (Z2p _ _ _ _) (Ze1 hon1)) rfl ?_
       refine ld rfl rfl (lhA (Ze [u0,u1,u2,u3,u4,u5]) Z0V rfl (rest:=[]) rfl rfl) rfl ?_
       refine bsl (out:=[_,_,_,_,_,_]) rfl ZjD Zbo rfl rfl rfl rfl rfl rfl (fun b119=>?_)
       refine bg (fun w hs=>⟨trivial,(Z3p (qkv n (.slice a2 cur.length (c-1)) nx1 o1.fs) [(n:Int)+1] Z3t (KeyT.of Z2h Z2Y) (ZQ ZeK) rfl (Z2p _ _ _ _) (Ze1 hon1)) w hs,(lh Z5N rfl rfl) w hs,(lh Z5N rfl rfl) w hs,trivial⟩) ?_
       refine apO (o1) rfl Zou rfl rfl (Z0y (row:=Ze [u0,u1,u2,u3,u4,u5]) rfl) rfl rfl ((by rw [Ze2];simp only [List.length_cons,List.length_nil];omega)) rfl (fun o120=>?_)
       refine bg (fun w hs=>⟨trivial,trivial,(lh Z5N rfl rfl) w hs,trivial⟩) ?_
       refine Zqu (qkv n (.slice a2 cur.length (c-1)) nx1 o1.fs) [(n:Int)+1] rfl Z3t (KeyT.of Z2h Z2Y) rfl rfl rfl rfl (Z2p _ _ _ _) ?_
       rw [Zgd (r:=⟨[u0,u1,u2,u3,u4,u5],[q0,q1,q2,q3,q4,q5],[t],n+1,some ⟨b110,0,none⟩,1⟩)]
       refine bgT (sqr 3 rfl (spL rfl rfl (lh sc3 rfl rfl) rfl (sp rfl (PE.add rfl rfl (by omega)) rfl ?_)))
       refine sto rfl rfl rfl cn3 rfl rfl rfl rfl ?_
       obtain ⟨hmore,_⟩:=hsr.more hy hk (by dsimp only;rw [hu];exact hno) (some ⟨b110,0,none⟩) 1
       dsimp only at hmore
       rw [hu] at hmore
       exact ZX ⟨rfl,ws1++[⟨[u0,u1,u2,u3,u4,u5],[q0,q1,q2,q3,q4,q5],[t],n+1,some ⟨b110,0,none⟩,1⟩],nx1++[⟨[u0,u1,u2,u3,u4,u5],[q0,q1,q2,q3,q4,q5],[t],n+1,some ⟨b110,0,none⟩,1⟩],o120.cast (Zjw nx1 ⟨[u0,u1,u2,u3,u4,u5],[q0,q1,q2,q3,q4,q5],[t],n+1,some ⟨b110,0,none⟩,1⟩),hmore,fun e=>absurd e (by simp),rfl,rfl⟩ (fun w h=>by
         rw [show ((cur.length+(nx1++[(⟨[u0,u1,u2,u3,u4,u5],[q0,q1,q2,q3,q4,q5],[t],n+1,some ⟨b110,0,none⟩,1⟩:Rec)]).length:Nat):Int)=((cur.length+nx1.length:Nat):Int)+1 by simp;omega]
         exact (((h.del b119).del b16).del b14).del b13)
       rintro _ _ _ _ ⟨rfl,rfl,ws1,nx1,o1,hsr,hon1,rfl,rfl⟩
       refine Zev ?_
       have hms:=hsr.ms
       exact Z4K ⟨⟨((ws1,cur,nx1,dl++[[q0,q1,q2,q3,q4,q5]]),(a2,c-1),bd0::mk),hsr.done (by have:=hsj.ms.1;rw [List.length_cons] at this;exact this),by dsimp only;omega⟩,o1,hon1⟩ (by dsimp only;rw [List.length_cons];omega) sbA rfl (fun w h=>St.sub ((h.del b12).perm (Zkm [_,_,_,_,_,_,_,_,_] _ _ _ _)))
    obtain rfl:cur=[]:=List.length_eq_zero_iff.1 (by omega)
    obtain ⟨hnx,hms⟩:=hsj.next
    unfold qkv
    obtain ⟨an,cn,he,hcn,hfz⟩:=Z95 o
    rw [Ze2] at he hcn
    rw [he]
    refine Z7 (Z8 (Z8 (Zi (sqr 3 rfl (spL rfl rfl (lh Z5N rfl rfl) rfl (spL rfl rfl (lh sc3 rfl rfl) rfl ?_))))))
    refine Zr2 (bif nxt.isEmpty then [] else [([(n:Int)+1],.slice an nxt.length cn)]) [(n:Int)] rfl rfl Z3t (KeyT.of Z2h Z2Y) rfl rfl rfl (Z2p n _ nxt _) ?_
    refine Z0 (sqt 2 rfl (spL rfl rfl (lh sc3 rfl rfl) rfl (spL rfl rfl (lh sc3 rfl rfl) rfl (sqr 4 rfl (alc rfl zl3 rfl (fun b10=>?_))))))
    refine sto rfl rfl rfl cn3 rfl rfl rfl rfl ?_
    refine alc rfl zl3 rfl (fun b11=>?_)
    refine sto rfl rfl rfl cn3 rfl rfl rfl rfl ?_
    refine sqr 3 rfl (spL rfl rfl (lh sc3 rfl rfl) rfl (sp rfl (PE.add rfl rfl (by omega)) rfl ?_))
    refine sto rfl rfl rfl cn3 rfl rfl rfl rfl ?_
    exact Z4K ⟨((b10,b11),n+1,(ws,nxt,dl),(an,cn),mk),hnx,hcn⟩ (by dsimp only;omega) sbA rfl (fun w h=>by
      rw [List.length_nil,Nat.zero_add] at h
      exact St.sub (hfz (((h.del c11).del c10).perm (Znu [_,_,_,_,_,_,_,_,_] _ _))))
  obtain rfl:cur=[]:=List.length_eq_zero_iff.1 (by omega)
  refine Z7 (Z8 (Z8 (Zi (sqt 2 rfl (spL rfl rfl (lhA [.map (some m18),.int .i64 0,.int .i64 0,.int .i64 0,.int .i64 0,.int .i64 0,.int .i64 0,.bool false] ZbA rfl (rest:=[]) rfl rfl) rfl ?_)))))
  refine Zy (l':=[.map (some m18),.int .i64 0,.int .i64 0,.int .i64 0,.int .i64 0,.int .i64 0,.int .i64 0,.bool false]) rfl rfl rfl Zfz rfl rfl rfl rfl (nl rfl) ?_
  refine Z4 ?_
  refine Sy.heap (H':=mkh mk++((b6,cel 126 [.map (some m18),.int .i64 0,.int .i64 0,.int .i64 0,.int .i64 0,.int .i64 0,.int .i64 0,.bool false])::H)) (R':=(fun w=>w.heap[m18]?=some (ZJ true (wkv (fun k:Nat=>(k:Int)) ws)))::WF ws::R) (fun w h=>by
    have h2:=St.freeze ((((((((h.del c11).del c10).del m33).del b8).del m26).del b7).del b4).pull m18)
    exact St.sub (h2.perm (List.perm_middle (l₁:=mkh mk)).symm)) ?_
  exact Z0p mk idH rfl (.cons (RV.cell rfl (lhA [.map (some m18),.int .i64 0,.int .i64 0,.int .i64 0,.int .i64 0,.int .i64 0,.int .i64 0,.bool false] ZbA rfl (rest:=[]) rfl rfl)) .nil) rfl ⟨m18,ws,List.replicate 6 0,false,rfl,.inr ⟨rfl,rfl,hso.bi⟩,hso.ins,rfl,rfl⟩ (fun w h=>h.del b6)
theorem ZqK:apT Tryz.prog 40=some (45,1,24):=by kernel_rfl
theorem Zp9:cal Tryz.prog 91=true:=by kernel_rfl
theorem Zql:Zz Tryz.prog 45=some 1:=by kernel_rfl
theorem Zk7:elN Tryz.prog 40=some 1:=by kernel_rfl
theorem Zn3:Tryz.prog.eqGuardType Tryz.prog.depth 119=false:=by kernel_rfl
theorem ZfT:Z2o Tryz.prog 40=true:=by kernel_rfl
theorem ZnI:Z0c Tryz.prog 45=true:=by kernel_rfl
theorem Zrj:slE Tryz.prog 40=some (45,1):=by kernel_rfl
theorem Zrq:Zp Tryz.prog 45=some ([.slice none 0 0]):=by kernel_rfl
theorem Zel {p q s vs:List Value} (h:q.length=vs.length):spl (p++(q++s)) p.length vs=p++(vs++s):=by
 unfold spl
 rw [List.take_left,show p.length+vs.length=(p++q).length by simp [h],← List.append_assoc p q s,List.drop_left,List.append_assoc]
def slv (r:Rec):Value:=.slice r.a r.by_.length r.c
def slr (l:List Rec):List (List Value):=l.map fun r=>[slv r]
theorem Z41 (l:List Rec):(slr l).length=l.length:=List.length_map _
theorem Z7e:∀ l:List Rec,(slr l).flatten=l.map slv
 | []=>rfl
 | r::l=>by show [slv r]++(slr l).flatten=_;rw [Z7e l];rfl
theorem Zeg {l:List Rec} {k:Nat} {r:Rec} (h:l[k]?=some r):(slr l)[k]?=some [slv r]:=by simp [slr,h]
def rg (l:List Rec) (k:Nat):Rec:=l.getD k ZeJ
theorem Ze5 {l:List Rec} {k:Nat} (h:k<l.length):l[k]?=some (rg l k):=by
 unfold rg;rw [List.getD_eq_getElem?_getD,List.getElem?_eq_getElem h];rfl
theorem ZhD {l:List Rec} {i k:Nat} {v:Rec} (hi:i<l.length):rg (l.set i v) k=bif decide (i=k) then v else rg l k:=by
 unfold rg
 rw [List.getD_eq_getElem?_getD,List.getElem?_set]
 by_cases e:i=k
 · subst e;rw [if_pos rfl,if_pos hi,decide_eq_true rfl];rfl
 · rw [if_neg e,decide_eq_false e,cond_false,List.getD_eq_getElem?_getD]
theorem Zen {xs:List Rec} {junk:List Value} {k:Nat} (h:k<xs.length) (v:Rec):spl (xs.map slv++junk) (0+((k:Nat):Int).toNat*1) [slv v]=(xs.set k v).map slv++junk:=by
 rw [show 0+((k:Nat):Int).toNat*1=k by omega]
 obtain ⟨A,y,B,rfl,rfl⟩:∃ A y B,xs=A++y::B∧k=A.length:=⟨xs.take k,xs[k],xs.drop (k+1),by rw [← List.drop_eq_getElem_cons h,List.take_append_drop],by rw [List.length_take];omega⟩
 have h1:=Zel (p:=A.map slv) (q:=[slv y]) (s:=B.map slv++junk) (vs:=[slv v]) rfl
 rw [List.length_map] at h1
 rw [show (A++y::B).map slv++junk=A.map slv++([slv y]++(B.map slv++junk)) by simp,h1]
 simp
theorem ZhC {xs:List Rec} {junk:List Value} {k:Nat} (h:k<xs.length):(xs.map slv++junk)[0+((k:Nat):Int).toNat*1]?=some (slv (rg xs k)):=by
 rw [show 0+((k:Nat):Int).toNat*1=k by omega,List.getElem?_append_left (by rw [List.length_map];exact h),List.getElem?_map,Ze5 h];rfl
def RevI (l xs:List Rec) (i:Nat):Prop:=xs.length=l.length∧∀ p<l.length,rg xs p=bif decide (p<i∨l.length≤p+i) then rg l (l.length-1-p) else rg l p
theorem RevI.start (l:List Rec):RevI l l 0:=⟨rfl,fun p hp=>by rw [decide_eq_false (by omega)];rfl⟩
theorem RevI.step {l xs:List Rec} {i:Nat} (h:RevI l xs i) (hi:i+i+1<l.length):RevI l ((xs.set i (rg xs (l.length-1-i))).set (l.length-1-i) (rg xs i)) (i+1):=by
 have hl:=h.1
 refine ⟨by rw [List.length_set,List.length_set];exact hl,fun p hp=>?_⟩
 rw [ZhD (by rw [List.length_set];omega)]
 by_cases h1:l.length-1-i=p
 · rw [decide_eq_true h1,cond_true,h.2 i (by omega),decide_eq_false (by omega),decide_eq_true (by omega),cond_true,cond_false]
   congr 1;omega
 · rw [decide_eq_false h1,cond_false,ZhD (by omega)]
   by_cases h2:i=p
   · subst h2
     rw [decide_eq_true rfl,cond_true,h.2 _ (by omega),decide_eq_false (by omega),cond_false,decide_eq_true (by omega)];rfl
   · rw [decide_eq_false h2,cond_false,h.2 p hp]
     have:(p<i∨l.length≤p+i)↔(p<i+1∨l.length≤p+(i+1)):=by omega
     rw [decide_eq_decide.2 this]
theorem RevI.done {l xs:List Rec} {i:Nat} (h:RevI l xs i) (hi:l.length≤i+i+1):xs=l.reverse:=by
 apply List.ext_getElem?
 intro p
 rcases Nat.lt_or_ge p l.length with hp | hp
 · rw [Ze5 (by rw [h.1];exact hp),List.getElem?_reverse hp,Ze5 (by omega),h.2 p hp]
   by_cases h1:p<i∨l.length≤p+i
   · rw [decide_eq_true h1];rfl
   · rw [decide_eq_false h1,cond_false,show l.length-1-p=p by omega]
 · rw [List.getElem?_eq_none (by rw [h.1];exact hp),List.getElem?_eq_none (by rw [List.length_reverse];exact hp)]
theorem Zg7 {P:Program} {d e s:Nat} (h:EQ P d true e s) (vs:List Value) (off:Nat) (w:World):(part e vs.toArray off).run P w = .ok (.agg ((vs.drop off).take s).toArray) w:=by
 unfold part
 simp only [Sem.run_bind,h.1.2,Result.andThen,if_true,Z4H h.1.1,Sem.run_pure]
 congr 2
 apply Array.toList_inj.1
 rw [Array.toList_extract]
 simp [List.extract_eq_take_drop,List.take_drop]
theorem PE.fieldA {P:Program} {L:Zn} {d:Option Tmp} {ty:TypeId} {pos:String} {af:Array Edge} {gg:Option (Nat×Bool)} {T k e o s:Nat} {x:Operand} {vs us:List Value} (hF:fTy P T k=some (e,o)) (hE:EQ P 10000 true e s) (hx:ev L x=some (.agg vs.toArray)) (hv:(vs.drop o).take s=us) :
   PE P L ⟨d,.field T x k,ty,pos,af,gg⟩ (.agg us.toArray):=fun ρ hρ w=>by
 subst hv
 unfold fTy at hF
 split at hF
 · rename_i fs hu
   obtain ⟨f,hf,he⟩:=Option.map_eq_some_iff.1 hF
   cases he
   simp only [execOp,hρ _ _ hx,Instr.field,Sem.run_bind,Sem.run_pure,run_underlying hu,Result.andThen,hf,asAgg,Zg7 hE]
 · cases hF
theorem PE.fieldV {P:Program} {L:Zn} {d:Option Tmp} {ty:TypeId} {pos:String} {af:Array Edge} {gg:Option (Nat×Bool)} {T k e o:Nat} {x:Operand} {vs:List Value} {v:Value} (hF:fTy P T k=some (e,o)) (hE:Z0c P e=true) (hx:ev L x=some (.agg vs.toArray)) (hv:vs[o]?=some v) :
   PE P L ⟨d,.field T x k,ty,pos,af,gg⟩ v:=fun ρ hρ w=>by
 unfold fTy at hF
 split at hF
 · rename_i fs hu
   obtain ⟨f,hf,he⟩:=Option.map_eq_some_iff.1 hF
   cases he
   simp [execOp,hρ _ _ hx,Instr.field,Sem.run_bind,Sem.run_pure,run_underlying hu,Result.andThen,hf,asAgg,part,Z0L hE,hv]
 · cases hF
theorem ZnX {f:Nat→Int} {r:Rec} (h:r.fr.length=6):(wyl f r)[6]?=some (slv r):=by
 unfold wyl;rw [List.getElem?_append_right (by rw [ints_length];omega),ints_length,h];rfl
theorem ZnY {f:Nat→Int} {r:Rec} (h:r.fr.length=6):((wyl f r).drop 0).take 6=Ze r.fr:=by
 unfold wyl;rw [List.drop_zero,List.take_append_of_le_length (by rw [ints_length];omega),List.take_of_length_le (by rw [ints_length];omega)]
def Wk (ed:Edg):List Int→List Rec→List Int→Prop
 | x,[],y=>x=y
 | x,r::rs,y=>r.fr=x∧r.by_∈ed x∧r.q=app x r.by_∧Wk ed r.q rs y
theorem Zkn {ed:Edg} {md:List Int→Bool} {x0:List Int} {ws pend:List Rec} (h:BI ed md x0 ws pend) (hi:∀ s∈ws,s.q.length=6):∀ s∈ws,s.fr.length=6:=fun s hs=>by
 rcases h.fr s hs with h1 | ⟨u,hu,h1,_⟩
 · rw [h1];rfl
 · rw [← h1];exact hi u hu
structure PL (ed:Edg) (ws:List Rec) (last r:Rec) (l:List Rec):Prop where
 rm:r∈ws
 lm:∀ x∈l,x∈ws
 n:l.length+r.d=last.d
 w:Wk ed r.q l.reverse last.q
theorem PL.start {ed:Edg} {ws:List Rec} {last:Rec} (h:last∈ws):PL ed ws last last []:=⟨h,fun x hx=>(by cases hx),Nat.zero_add _,rfl⟩
theorem PL.next {ed:Edg} {md:List Int→Bool} {x0:List Int} {ws pend:List Rec} (hb:BI ed md x0 ws pend) {last r:Rec} {l:List Rec} (h:PL ed ws last r l) (hn:r.q≠x0):∃ s∈ws,s.q=r.fr∧s.d<r.d∧PL ed ws last s (l++[r]):=by
 rcases hb.fr r h.rm with h1 | ⟨s,hs,h1,h2,h3,h4⟩
 · exact absurd (by rw [h1];rfl) hn
 · refine ⟨s,hs,h1,by omega,hs,fun x hx=>?_,?_,?_⟩
   · rcases List.mem_append.1 hx with h5 | h5
     · exact h.lm x h5
     · rw [List.mem_singleton.1 h5];exact h.rm
   · have:=h.n;rw [List.length_append,List.length_singleton];omega
   · rw [List.reverse_append,List.reverse_singleton,List.singleton_append]
     exact ⟨h1.symm,h3,h4,h.w⟩
theorem PL.done {ed:Edg} {md:List Int→Bool} {x0:List Int} {ws pend:List Rec} (hb:BI ed md x0 ws pend) {last r:Rec} {l:List Rec} (h:PL ed ws last r l) (hn:r.q=x0):l.length=last.d∧Wk ed x0 l.reverse last.q:=by
 have h1:r=rst x0:=hb.uniq h.rm hb.st hn
 have h2:=h.n
 have h3:=h.w
 rw [hn] at h3
 rw [h1] at h2
 exact ⟨by simpa [rst] using h2,h3⟩
theorem Z8r {ed:Edg} {md:List Int→Bool} {x0:List Int} {ws pend:List Rec} (hb:BI ed md x0 ws pend) {r:Rec} (h:r∈ws):wfd ws r.q=some r:=by
 cases hw:wfd ws r.q with
 | none=>exact absurd rfl (ZaP hw r h)
 | some s=>rw [hb.uniq (Z4M hw).1 h (Z4M hw).2]
theorem ZgC {ed:Edg} {md:List Int→Bool} {x0:List Int} {ws pend:List Rec} (h:BI ed md x0 ws pend):∀ (n:Nat) (r:Rec),r∈ws→r.d=n→∀ k,k≤n→∃ s∈ws,s.d=k
 | n,r,hr,hd,k,hk=>by
   by_cases e:k=n
   · exact ⟨r,hr,by omega⟩
   · rcases h.fr r hr with h1 | ⟨s,hs,_,h2,_⟩
     · rw [h1] at hd;have:(0:Nat)=n:=hd;omega
     · obtain ⟨m,rfl⟩:∃ m,n=m+1:=⟨s.d,by omega⟩
       exact ZgC h m s hs (by omega) k (by omega)
theorem ZbF {ed:Edg} {md:List Int→Bool} {x0:List Int} {ws pend:List Rec} (h:BI ed md x0 ws pend) {r:Rec} (hr:r∈ws):r.d<ws.length:=by
 have h1:=Z3Y (l:=List.range (r.d+1)) (m:=ws.map (·.d)) List.nodup_range (fun k hk=>by
   obtain ⟨s,hs,e⟩:=ZgC h r.d r hr rfl k (by have:=List.mem_range.1 hk;omega)
   exact List.mem_map.2 ⟨s,hs,e⟩)
 rw [List.length_range,List.length_map] at h1
 omega
theorem Zcj (l:List Rec) (b cap:Nat) (junk:List Value) (hl:l.length≤1000000) (H:Z6) (R:Z5) :
    Fn Tryz.prog 91 [.slice (some ⟨b,0,none⟩) l.length cap] ((b,cel 45 ((l).map slv++junk))::H) R (fun v H' R'=>v = .tuple #[]∧H'=(b,cel 45 ((l.reverse).map slv++junk))::H∧R'=R):=by
 refine Zc Tryz.func91 rfl Tryz.ntmps91 rfl ?_
 refine sqt 5 rfl (pur 1 rfl (sp rfl (PE.lenSl ZfT rfl) rfl (sp rfl (PE.sub rfl rfl (by omega)) rfl ?_)))
 rw [show (l.length:Int)-1=(l.length:Int)-1-((0:Nat):Int) from by omega]
 refine pur 2 rfl (Z2 ?_)
 refine Zd (ι:={x:Nat×List Rec // x.1≤l.length∧RevI l x.2 x.1}) (fun x=>⟨[(0,.slice (some ⟨b,0,none⟩) l.length cap),(2,.int .i64 x.1.1),(3,.int .i64 ((l.length:Int)-1-x.1.1))],(b,cel 45 ((x.1.2).map slv++junk))::H,R⟩) (fun x=>l.length-x.1.1) ⟨(0,l),Nat.zero_le _,RevI.start l⟩ ?_ (fun x=>?_)
 exact Zf idH
 obtain ⟨⟨i,xs⟩,hi,hr⟩:=x
 dsimp only at hi hr ⊢
 have hxl:=hr.1
 refine Z0 (sqt 3 rfl (pur 3 rfl ?_))
 refine Z1 rfl ?_ ?_<;>intro hc0<;>try simp only [cS] at hc0
 have hii:i+i+1<l.length:=by omega
 rw [show (l.length:Int)-1-i=(((l.length-1-i):Nat):Int) from by omega]
 refine Z3 (Z0 (Z2 ?_))
 refine Za [0,0,0,0,0,0,48,112,0,0,768,1792,4083,8179,16383,32767] (tks 0 7 (.ld 7 (tks 8 3 (.ld 11 (.tk 12 (.big 13 (.tk 14 (.big 15 .done)))))))) Zl (by kernel_rfl) ?_
 refine Zg 6 rfl (tk rfl (PE.indexAddr Zk7 rfl rfl (by omega) (by omega)) rfl (ld rfl rfl (lh ZnI rfl (ZhC (by omega))) rfl (Zg 2 rfl (tk rfl (PE.indexAddr Zk7 rfl rfl (by omega) (by omega)) rfl (ld rfl rfl (lh ZnI rfl (ZhC (by omega))) rfl (tk rfl (PE.indexAddr Zk7 rfl rfl (by omega) (by omega)) rfl ?_))))))
 refine Zy (l':=((xs).set i (rg xs (l.length-1-i))).map slv++junk) rfl rfl rfl Zql rfl rfl rfl (Zen (show i<xs.length by omega) _) (by rw [List.length_append,List.length_map];show 0+((i:Nat):Int).toNat*1+1≤_;have:=(show i<xs.length by omega);omega) ?_
 refine bgT (tk rfl (PE.indexAddr Zk7 rfl rfl (by omega) (by omega)) rfl ?_)
 refine Zy (l':=((xs.set i (rg xs (l.length-1-i))).set (l.length-1-i) (rg xs i)).map slv++junk) rfl rfl rfl Zql rfl rfl rfl (Zen (show (l.length-1-i)<(xs.set i (rg xs (l.length-1-i))).length by rw [List.length_set];omega) _) (by rw [List.length_append,List.length_map];show 0+(((l.length-1-i):Nat):Int).toNat*1+1≤_;have:=(show (l.length-1-i)<(xs.set i (rg xs (l.length-1-i))).length by rw [List.length_set];omega);omega) ?_
 refine bgT (sqr 6 rfl (pur 1 rfl (sp rfl (PE.add rfl rfl (by omega)) rfl (pur 1 rfl (sp rfl (PE.sub rfl rfl (by omega)) rfl (pur 2 rfl ?_))))))
 rw [show (((l.length-1-i):Nat):Int)-1=(l.length:Int)-1-((i+1:Nat):Int) from by omega]
 exact Zb ⟨(i+1,(xs.set i (rg xs (l.length-1-i))).set (l.length-1-i) (rg xs i)),by dsimp only;omega,hr.step hii⟩ idH
 obtain rfl:=hr.done (by omega)
 refine Z7 (Z8 (Z8 (Zi ?_)))
 exact Z22 (vs:=[]) rfl .nil rfl ⟨rfl,rfl,rfl⟩ idH
theorem Z9H (H:Z6) (R:Z5) :
    FnV Tryz.prog 91 [.slice none 0 0] H R (.tuple #[]):=by
 refine Zc Tryz.func91 rfl Tryz.ntmps91 rfl ?_
 refine sqt 5 rfl (pur 1 rfl (sp rfl (PE.lenSl ZfT rfl) rfl (sp rfl (PE.sub rfl rfl (by omega)) rfl (pur 2 rfl (Z2 ?_)))))
 refine Zd (ι:=Unit) (fun _=>⟨[(2,.int .i64 0),(3,.int .i64 (-1))],H,R⟩) (fun x=>0) () ?_ (fun x=>?_)
 exact Zf idH
 refine Z0 (sqt 3 rfl (pur 3 rfl ?_))
 refine Z1 rfl ?_ ?_<;>intro hc0
 exact absurd hc0 (by decide)
 refine Z7 (Z8 (Z8 (Zi ?_)))
 exact Z22 (vs:=[]) rfl .nil rfl ⟨rfl,rfl,rfl⟩ idH
theorem Z4R (l:List Rec) (o:OSl 45 1 (slr l)) (hl:l.length≤1000000) (H:Z6) (R:Z5):Fn Tryz.prog 91 [o.fs] (o.G++H) R (fun v H' R'=>∃ o':OSl 45 1 (slr l.reverse),o'.fs=o.fs∧v = .tuple #[]∧H'=o'.G++H∧R'=R):=by
 have hir:=Z41 l
 have hrr:(slr l.reverse).length=l.length:=by rw [Z41,List.length_reverse]
 rcases o.is with ⟨h1,h2,h3⟩ | ⟨b,cap,junk,h2,h3,hj,hc,hm⟩
 · have hx:l=[]:=List.map_eq_nil_iff.1 h1
   subst hx
   rw [h2,h3]
   exact Fn.mono (Z9H H R) (by rintro v H' R' ⟨rfl,rfl,rfl⟩;exact ⟨OSl.nil _ _,rfl,rfl,rfl,rfl⟩)
 · rw [hir] at h2 hj hc
   rw [h2,h3,Z7e]
   exact Fn.mono (Zcj l b cap junk hl H R) (by
     rintro v H' R' ⟨rfl,rfl,rfl⟩
     exact ⟨⟨.slice (some ⟨b,0,none⟩) (slr l.reverse).length cap,[(b,cel 45 ((slr l.reverse).flatten++junk))],(fun r hr=>by obtain ⟨z,_,rfl⟩:=List.mem_map.1 hr;rfl),.inr ⟨b,cap,junk,rfl,rfl,by rw [hrr];exact hj,by rw [hrr];exact hc,hm⟩⟩,congrArg (fun q=>Value.slice (some ⟨b,0,none⟩) q cap) hrr,rfl,congrArg (fun q=>(b,cel 45 (q++junk))::H) (Z7e l.reverse).symm,rfl⟩)
set_option maxHeartbeats 800000 in
theorem ZkI (d:TD) (hy:d.y.ok) (f:Nat→Int) (ed:Edg) (ws pend:List Rec) (last:Rec) (hlast:last∈ws) (hbi:BI ed d.y.mds d.y.first ws pend) (hin:∀ r∈ws,d.y.inS r.q) (is:Bool) (m:Nat) (H:Z6) (R:Z5) [hm:MemF (fun w=>w.heap[m]?=some (ZJ true (wkv f ws))) R] [hw:MemF (WF ws) R] :
    Fn Tryz.prog 39 [.agg (.map (some m)::(Ze last.q++[.bool is])).toArray,.agg (Ze d.y.first).toArray] H R (fun v H' R'=>∃ (l:List Rec) (a:Option Addr) (c:Nat),v = .slice a l.length c∧l.length≤c∧l.length=last.d∧Wk ed d.y.first l last.q∧(∀ r∈l,r∈ws)∧H'=H∧R'=RowsA a 1 (slr l)::R):=by
 have hl:=hy.nl
 have hq6:∀ r∈ws,r.q.length=6:=fun r hr=>(hin r hr).1
 have hf6:=Zkn hbi hq6
 have hfw:=Z2J hy hbi.nd hin
 refine Zc Tryz.func39 rfl Tryz.ntmps39 rfl ?_
 refine sqt 3 rfl (bx rfl rfl rfl (fun b2=>bx rfl rfl rfl (fun b3=>pur 1 rfl (sqt 1 rfl (pur 1 rfl (Z0 (sqt 4 rfl (sp rfl (PE.fA Z8T rfl) rfl (spL rfl rfl (lhA (Ze last.q) Z0V rfl (rest:=[.bool is]) rfl (by rw [ints_length];exact hq6 last hlast)) rfl (alc rfl Zbo rfl (fun b6=>?_)))))))))))
 refine Z2V rfl rfl rfl Zb0 rfl (by rw [ints_length];exact hq6 last hlast) rfl (Zs _) ?_
 refine Z2 ?_
 refine Zd (ι:=(x:{x:Nat×Rec×List Rec // PL ed ws last x.2.1 x.2.2})×OSl 45 1 (slr x.1.2.2)) (fun x=>⟨[(2,.pointer (some ⟨b2,0,none⟩)),(3,.pointer (some ⟨b3,0,none⟩)),(5,x.2.fs),(6,.pointer (some ⟨x.1.1.1,0,none⟩))],(x.1.1.1,cel 119 (Ze x.1.1.2.1.q))::(b3,cel 119 (Ze d.y.first))::(b2,cel 126 (.map (some m)::(Ze last.q++[.bool is])))::(x.2.G++H),R⟩) (fun x=>x.1.1.2.1.d) ⟨⟨(b6,last,[]),PL.start hlast⟩,OSl.nil _ _⟩ ?_ (fun x=>?_)
 exact Zf idH
 obtain ⟨⟨⟨c6,r,l⟩,hpl⟩,o⟩:=x
 dsimp only at hpl o ⊢
 have h6:=hq6 r hpl.rm
 have hdl:=ZbF hbi hpl.rm
 have hd2:=ZbF hbi hlast
 have hpn:=hpl.n
 have hr6:=hf6 r hpl.rm
 refine Z0 (sqt 3 rfl (spL rfl rfl (lhA (Ze r.q) Z0V rfl (rest:=[]) (by simp) (by rw [ints_length];exact h6)) rfl (spL rfl rfl (lhA (Ze d.y.first) Z0V rfl (rest:=[]) (by simp) (by rw [ints_length];exact (d.y.first_len hl))) rfl (sp rfl (PE.neqAgg r.q d.y.first (Z17 10000 119 true 6 Z23) Zn3 rfl rfl h6 (d.y.first_len hl)) rfl ?_))))
 refine Z1 rfl ?_ ?_<;>intro hc0<;>try simp only [cS] at hc0
 obtain ⟨s,hs,hsq,hsd,hpl2⟩:=hpl.next hbi hc0
 refine Z3 (Z0 (Z2 (sqr 9 rfl (pur 1 rfl (sp rfl (PE.fA Z5g rfl) rfl (spL rfl rfl (lh Z9f rfl rfl) rfl (spL rfl rfl (lhA (Ze r.q) Z0V rfl (rest:=[]) (by simp) (by rw [ints_length];exact h6)) rfl ?_)))))))
 refine spK rfl rfl rfl (Z0J (b:=true) (v:=wyv f r) (wkv f ws) r.q Z4j (KeyT.of Z23 Z2X) (ZQ Zbp) h6 (Z3d hq6) (fun w hs=>hs.now hm.mem) (by rw [Z48,Z8r hbi hpl.rm,Option.map_some,Option.getD_some])) rfl ?_
 refine sp rfl (PE.fieldV (vs:=wyl f r) (show fTy Tryz.prog 123 1=some (45,6) from by kernel_rfl) ZnI rfl (ZnX hr6)) rfl ?_
 refine bsl (out:=[_]) rfl Zrj Zrq rfl rfl rfl rfl rfl rfl (fun b23=>?_)
 refine apO (o) rfl ZqK rfl rfl (Z0y (row:=[slv r]) rfl) rfl rfl ((by rw [Z41];simp only [List.length_cons,List.length_nil];omega)) rfl (fun o24=>?_)
 refine pur 1 rfl (Z0 (sqt 1 rfl (spL rfl rfl (lhA (Ze r.q) Z0V rfl (rest:=[]) (by simp) (by rw [ints_length];exact h6)) rfl (sqr 2 rfl (alc rfl Zbo rfl (fun b6=>?_))))))
 refine Z2V rfl rfl rfl Zb0 rfl (by rw [ints_length];exact h6) rfl (Zs _) ?_
 refine sqr 6 rfl (sp rfl (PE.fA Z5g rfl) rfl (spL rfl rfl (lh Z9f rfl rfl) rfl (spL rfl rfl (lhA (Ze r.q) Z0V rfl (rest:=[]) (by simp) (by rw [ints_length];exact h6)) rfl ?_)))
 refine spK rfl rfl rfl (Z0J (b:=true) (v:=wyv f r) (wkv f ws) r.q Z4j (KeyT.of Z23 Z2X) (ZQ Zbp) h6 (Z3d hq6) (fun w hs=>hs.now hm.mem) (by rw [Z48,Z8r hbi hpl.rm,Option.map_some,Option.getD_some])) rfl ?_
 refine sp rfl (PE.fieldA (vs:=wyl f r) (us:=Ze r.fr) (show fTy Tryz.prog 123 0=some (119,0) from by kernel_rfl) (Z17 10000 119 true 6 Z23) rfl (ZnY hr6)) rfl ?_
 refine Z2V rfl rfl rfl Zb0 rfl (by rw [ints_length];exact hr6) (by rw [ints_length];exact h6) (Zs _) ?_
 exact Zb ⟨⟨(b6,s,l++[r]),hpl2⟩,o24.cast (by unfold slr;rw [List.map_append];rfl)⟩ (fun w h=>by dsimp only;rw [hsq];exact ((h.del b23).del c6))
 obtain ⟨hll,hwk⟩:=hpl.done hbi (by simpa using hc0)
 refine Sy.heap (H':=o.G++((c6,cel 119 (Ze r.q))::(b3,cel 119 (Ze d.y.first))::(b2,cel 126 (.map (some m)::(Ze last.q++[.bool is])))::H)) (fun w h=>h.perm (Znu [_,_,_] _ _)) ?_
 refine Z7 (Z8 (Z8 (Zi (sqt 2 rfl (pur 1 rfl ?_)))))
 refine cl rfl Zp9 rfl rfl (Z4R l o (by omega) _ _) ?_
 rintro _ _ R1 ⟨o2,hof,rfl,rfl,hR1⟩
 obtain rfl:=hR1.symm
 clear hR1
 rw [← hof]
 refine sqt 2 rfl (pur 2 rfl (Z4 ?_))
 obtain ⟨ao,co,he,hco,hfz⟩:=Z95 o2
 rw [Z41] at he hco
 rw [he]
 exact rtA rfl rfl rfl ⟨l.reverse,ao,co,rfl,hco,by rw [List.length_reverse];exact hll,hwk,fun r hr=>hpl.lm r (List.mem_reverse.1 hr),rfl,rfl⟩ (fun w h=>hfz (((h.del c6).del b3).del b2))
theorem Zqi:apT Tryz.prog 45=some (47,2,16):=by kernel_rfl
theorem ZlX:cal Tryz.prog 228=true:=by kernel_rfl
theorem ik3:Zaf Tryz.prog 3=some .i64:=by kernel_rfl
theorem Zdn:Z2o Tryz.prog 45=true:=by kernel_rfl
section steps
variable {P:Program} {r:Option Nat} {ops:Array Oper} {n:Nat} {L:Zn} {D:List Deferred} {H:Z6} {R:Z5} {K:Act→World→Prop}
 {i d:Nat} {ty:TypeId} {pos:String} {af:Array Edge}
theorem Zow {t tn e sz by_ k:Nat} {kq kn:IntKind} {s x:Operand} {zl:List Value} (ho:ops[i]?=some ⟨some d,.call { callee:=.builtin .append,args := #[s,x],argTypes := #[t,tn] },ty,pos,af,none⟩)
   (ht:apT P t=some (e,sz,by_)) (htn:Zaf P tn=some kn) (hz:Zp P e=some zl) (hs:ev L s=some (.slice none 0 0)) (hx:ev L x=some (.int kq k))
   (hk:0<k) (hs0:0<sz) (hb:k*by_≤140737488355328∧k≤9223372036854775807) (hd:Nat.blt d n=true)
   (h:∀ (b' cap':Nat) (junk:List Value),k≤cap'→cap'≤9223372036854775807→k*sz+junk.length=cap'*sz→Sy n ((d,.slice (some ⟨b',0,none⟩) k cap')::L) D ((b',cel e (Z1x k zl++junk))::H) R K):Sy n L D H R (stp P r ops i K):=fun a w ha hD hw=>by
 unfold apT at ht
 split at ht
 case h_2=>cases ht
 rename_i e' hu
 split at ht
 case h_2=>cases ht
 rename_i ie hi
 split at ht
 case h_2=>cases ht
 rename_i z hzz
 cases hzs:Nat.beq z.cells.size ie.size with
 | false=>rw [hzs] at ht;cases ht
 | true =>
 rw [hzs,cond_true] at ht
 cases ht
 have hzs:=Nat.eq_of_beq_eq_true hzs
 have hzl:z.cells.toList=zl:=by
   have:Zp P e=some z.cells.toList:=by simp [Zp,hi,hzz]
   rw [this] at hz;exact Option.some.inj hz
 have hun:P.underlying tn=some (.int kn):=by
   unfold Zaf at htn
   split at htn
   · rename_i q hq;cases htn;exact hq
   · cases htn
 have hold:(Builtin.firstCells ie.size 0 (.slice none 0 0)).run P w.drew = .ok ([]:List Value).toArray w.drew:=by
   simp [Builtin.firstCells,Sem.run_pure]
 have h2:=Lib.run_append_grow_zeros (P:=P) w t tn ty e ie z kq kn hu hun hi hzz none 0 0 [] hold k hk hs0 (by omega) (by omega) (by omega) (growslice_fits (by omega) (by rw [Nat.zero_add];exact hb.1))
 rw [Nat.zero_add] at h2
 have hge:=grownCap_ge w k 0 e
 have hcm:grownCap w k 0 e≤maxLen:=grownCap_le_maxLen w _ 0 e (by simp only [maxLen];omega)
 have hrep:∀ q,(Builtin.zeroCells z.cells q).toList=Z1x q zl:=fun q=>by rw [← hzl];simp [Builtin.zeroCells,Z1x]
 have e1:(.cells (([]:List Value).toArray++Builtin.zeroCells z.cells k++Builtin.zeroCells z.cells (grownCap w k 0 e-k)) e:Obj)=cel e (Z1x k zl++(Builtin.zeroCells z.cells (grownCap w k 0 e-k)).toList):=by
   unfold cel;congr 1;apply Array.toList_inj.1;simp [hrep]
 refine Zx ho (Zk _ rfl _) (v:=.slice (some ⟨w.heap.size,0,none⟩) k (grownCap w k 0 e)) (w':=w.drew.alloc (cel e (Z1x k zl++(Builtin.zeroCells z.cells (grownCap w k 0 e-k)).toList))) ?_
   (h w.heap.size (grownCap w k 0 e) (Builtin.zeroCells z.cells (grownCap w k 0 e-k)).toList hge (by simp only [maxLen] at hcm;omega) ?_ _ _ (ha.put (by simpa using hd) _) hD (hw.drew.alloc _))
 · simp only [execOp,resolve,invoke,builtin,Sem.run_bind,Sem.run_pure,Result.andThen,List.map_toArray,List.map_cons,List.map_nil,ha.reads _ _ hs,ha.reads _ _ hx]
   rw [e1] at h2
   rw [h2]
 · simp only [Array.length_toList,size_zeroCells,hzs,← Nat.add_mul]
   congr 1;omega
end steps
theorem Ze4 {k:Nat} {u v:Value}:(Z1x k [u,v]).length=k*2:=by simp [Z1x]
def Zcw (l:List Rec) (k:Nat):List (Int×Int):=(l.take k).flatMap (·.by_)
theorem Z7K {l:List Rec} {k:Nat} {x:Rec} (h:l[k]?=some x):Zcw l (k+1)=Zcw l k++x.by_:=by
 unfold Zcw
 rw [List.take_add_one,h,Option.toList_some,List.flatMap_append];simp
theorem Z6v (l:List Rec) (k:Nat):(Zcw l k).length≤(l.flatMap (·.by_)).length:=by
 unfold Zcw
 have h:l.flatMap (·.by_)=(l.take k).flatMap (·.by_)++(l.drop k).flatMap (·.by_):=by rw [← List.flatMap_append,List.take_append_drop]
 rw [h,List.length_append];omega
theorem St.wfAt {ws:List Rec} {H:Z6} {R:Z5} {w:World} {x:Rec} [m:MemF (WF ws) R] (h:St H R w) (hx:x∈ws):St H (RowsA x.a 2 (tor x.by_)::R) w:=h.also fun w9 hw=>hw _ m.mem x hx
theorem ZjK (l:List (Int×Int)):Z0j (tor l)=true:=by
 unfold Z0j tor
 rw [List.all_map]
 exact List.all_eq_true.2 fun t _=>rfl
theorem ZdQ {ed:Edg} {md:List Int→Bool} {x0:List Int} {ws pend:List Rec} (h:BI ed md x0 ws pend) (h1:∀ q l,l∈ed q→l.length≤1):∀ {l:List Rec},(∀ r∈l,r∈ws)→(l.flatMap (·.by_)).length≤l.length
 | [],_=>Nat.le_refl _
 | r::l,hl=>by
   have ih:=ZdQ h h1 (l:=l) (fun x hx=>hl x (by simp [hx]))
   rw [List.flatMap_cons,List.length_append,List.length_cons]
   have:r.by_.length≤1:=by
     rcases h.fr r (hl r (by simp)) with h2 | ⟨s,_,_,_,h3,_⟩
     · rw [h2];exact Nat.zero_le _
     · exact h1 _ _ h3
   omega
theorem ZiL {b:TBn} (q:List Int) (l:List (Int×Int)) (h:l∈ed1 b q):l.length≤1:=by
 obtain ⟨t,_,rfl⟩:=List.mem_map.1 h;exact Nat.le_refl _
theorem Z8D (k:Nat) (hk:k≤1000000) (H:Z6) (R:Z5) :
    Fn Tryz.prog 228 [.slice none 0 0,.int .i64 (k:Int)] H R (fun v H' R'=>∃ o:OSl 47 2 [],v=o.fs∧H'=o.G++H∧R'=R):=by
 refine Zc Tryz.func228 rfl Tryz.ntmps228 rfl ?_
 refine sqt 1 rfl (pur 1 rfl (Z0 (sqt 2 rfl (pur 2 rfl ?_))))
 refine Z1 rfl ?_ ?_<;>intro hc0
 simp only [decide_eq_true_eq] at hc0
 omega
 refine Z3 (Z0 (sqt 8 rfl (pur 2 rfl (sp rfl (PE.capSl Zdn rfl) rfl (pur 1 rfl (sp rfl (PE.lenSl Zdn rfl) rfl (sp rfl (PE.sub rfl rfl (by omega)) rfl (sp rfl (PE.sub rfl rfl (by omega)) rfl ?_))))))))
 rw [show (k:Int)-(((0:Nat):Int)-((0:Nat):Int))=(k:Int) by omega]
 refine pur 1 rfl (sqt 2 rfl (pur 2 rfl ?_))
 refine Z1 rfl ?_ ?_<;>intro hc1
 try simp only [cS] at hc1
 refine sqr 10 rfl (pur 2 rfl (sp rfl (PE.capSl Zdn rfl) rfl (sp rfl (PE.slHi (h:=0) ZpW rfl rfl (by omega)) rfl (pur 1 rfl ?_))))
 refine Zow rfl Zqi ik3 Zoh rfl rfl (by omega) (by omega) (by omega) rfl (fun b2 cap2 jk2 hc1 hc2 hc3=>?_)
 refine pur 1 rfl (sp rfl (PE.lenSl Zdn rfl) rfl (sp rfl (PE.slHi (h:=0) ZpW rfl rfl (by omega)) rfl (pur 1 rfl (sqt 2 rfl (pur 2 rfl (Z4 ?_))))))
 exact rtA rfl rfl rfl ⟨⟨.slice (some ⟨b2,0,none⟩) 0 cap2,[(b2,cel 47 (Z1x k [.int .i64 0,.int .i64 0]++jk2))],by simp,.inr ⟨b2,cap2,Z1x k [.int .i64 0,.int .i64 0]++jk2,rfl,rfl,by rw [List.length_append,Ze4];simp only [List.length_nil];omega,Nat.zero_le _,hc2⟩⟩,rfl,rfl,rfl⟩ idH
 refine Z3 (sqt 2 rfl (pur 2 rfl (Z4 ?_)))
 exact rtA rfl rfl rfl ⟨OSl.nil _ _,rfl,rfl,rfl⟩ idH
set_option maxHeartbeats 400000 in
theorem Z3i (l ws:List Rec) (ap:Option Addr) (cp:Nat) (hpl:l.length≤1000000) (htl:(l.flatMap (·.by_)).length≤1000000) (hsub:∀ r∈l,r∈ws) (H:Z6) (R:Z5) [hP:MemRows ap 1 (slr l) R] [hI:MemF (WF ws) R] :
    Fn Tryz.prog 152 [.slice ap l.length cp] H R (fun v H' R'=>∃ o:OSl 47 2 (tor (l.flatMap (·.by_))),v=o.fs∧H'=o.G++H∧R'=R):=by
 refine Zc Tryz.func152 rfl Tryz.ntmps152 rfl ?_
 refine sqt 1 rfl (pur 1 rfl (sqt 1 rfl (pur 1 rfl (Z0 (sqt 3 rfl (pur 1 rfl (sp rfl (PE.lenSl ZfT rfl) rfl (pur 1 rfl (Z2 ?_)))))))))
 refine Zd (ι:={k:Nat // k≤l.length}) (fun k=>⟨[(0,.slice ap l.length cp),(3,.int .i64 ((Zcw l k.1).length:Nat)),(9,.slice ap l.length cp),(10,.int .i64 l.length),(11,.int .i64 k.1)],H,R⟩) (fun k=>l.length-k.1) ⟨0,Nat.zero_le _⟩ ?_ (fun k=>?_)
 exact Zf idH
 obtain ⟨k,hk⟩:=k
 dsimp only at hk ⊢
 have hcl:=Z6v l k
 have hcl2:=Z6v l (k+1)
 refine sqt 1 rfl (pur 1 rfl (Z0 ?_))
 refine Z1 rfl ?_ ?_<;>intro hc0<;>try simp only [cS] at hc0
 obtain ⟨x,hx⟩:∃ x,l[k]?=some x:=⟨_,List.getElem?_eq_getElem (by omega)⟩
 have hst:=congrArg List.length (Z7K hx)
 rw [List.length_append] at hst
 refine Zj (a:=ap) (sz:=1) (rows:=slr l) (ne0 (by rw [Z41];omega)) (fun ba oa he=>?_)
 subst he
 refine Z3 (Z0 (Z2 (sqt 3 rfl (sp rfl (PE.indexAddr Zk7 rfl rfl (by omega) (by omega)) rfl (spL rfl rfl (lf0 ZnI (Zeg hx) rfl) rfl (pur 1 rfl (sqt 5 rfl (pur 2 rfl (sp rfl (PE.lenSl (a:=x.a) (n:=x.by_.length) (c:=x.c) Zdn rfl) rfl (sp rfl (PE.add rfl rfl (by omega)) rfl ?_))))))))))
 rw [show ((Zcw l k).length:Int)+(x.by_.length:Int)=((Zcw l (k+1)).length:Int) by omega]
 refine pur 1 rfl (sqt 2 rfl (pur 2 rfl ?_))
 refine Z1 rfl ?_ ?_<;>intro hc1
 simp only [decide_eq_true_eq] at hc1
 omega
 refine Z3 (sqr 2 rfl (sp rfl (PE.add rfl rfl (by omega)) rfl (pur 1 rfl ?_)))
 exact Zb ⟨k+1,by omega⟩ idH
 obtain rfl:k=l.length:=by omega
 refine Z7 (Z8 (Z8 (Zi (sqt 3 rfl (pur 1 rfl ?_)))))
 refine cl rfl ZlX rfl rfl (Z8D (Zcw l l.length).length (by omega) _ _) ?_
 rintro _ _ R1 ⟨o0,rfl,rfl,hR1⟩
 obtain rfl:=hR1.symm
 clear hR1
 refine pur 1 rfl (Z0 (sqt 3 rfl (pur 1 rfl (sp rfl (PE.lenSl ZfT rfl) rfl (pur 1 rfl (Z2 ?_))))))
 refine Zd (ι:=(k:{k:Nat // k≤l.length})×OSl 47 2 (tor (Zcw l k.1))) (fun y=>⟨[(6,y.2.fs),(25,.slice ap l.length cp),(26,.int .i64 l.length),(27,.int .i64 y.1.1)],y.2.G++H,R⟩) (fun y=>l.length-y.1.1) ⟨⟨0,Nat.zero_le _⟩,o0⟩ ?_ (fun y=>?_)
 exact Zf idH
 obtain ⟨⟨k,hk⟩,o⟩:=y
 dsimp only at hk o ⊢
 have hcl:=Z6v l k
 have hcl2:=Z6v l (k+1)
 refine sqt 1 rfl (pur 1 rfl (Z0 ?_))
 refine Z1 rfl ?_ ?_<;>intro hc2<;>try simp only [cS] at hc2
 obtain ⟨x,hx⟩:∃ x,l[k]?=some x:=⟨_,List.getElem?_eq_getElem (by omega)⟩
 have hst:=Z7K hx
 have hsl:=congrArg List.length hst
 rw [List.length_append] at hsl
 refine Zj (a:=ap) (sz:=1) (rows:=slr l) (ne0 (by rw [Z41];omega)) (fun ba oa he=>?_)
 subst he
 refine Sy.heap (fun w h=>St.wfAt (x:=x) h (hsub x (List.mem_of_getElem? hx))) ?_
 refine Z3 (Z0 (Z2 (sqt 3 rfl (sp rfl (PE.indexAddr Zk7 rfl rfl (by omega) (by omega)) rfl (spL rfl rfl (lf0 ZnI (Zeg hx) rfl) rfl (pur 1 rfl (sqr 4 rfl (pur 2 rfl ?_))))))))
 refine apO (news:=tor x.by_) o rfl Zqi rfl rfl (Zge) (Z9s _) (ZjK _) (by rw [Z9s,Z9s];omega) rfl (fun o33=>?_)
 refine pur 1 rfl (sqr 2 rfl (sp rfl (PE.add rfl rfl (by omega)) rfl (pur 1 rfl ?_)))
 exact Zb ⟨⟨k+1,by omega⟩,o33.cast (by rw [hst];simp [tor])⟩ (fun w h=>h.ftail)
 obtain rfl:k=l.length:=by omega
 refine Z7 (Z8 (Z8 (Zi (sqt 2 rfl (pur 2 rfl (Z4 ?_))))))
 exact rtA rfl rfl rfl ⟨o.cast (by unfold Zcw;rw [List.take_length]),rfl,rfl,rfl⟩ idH
theorem Zoq:Z0W Tryz.prog 192=some 1:=by kernel_rfl
theorem Z6j:apT Tryz.prog 23=some (3,1,8):=by kernel_rfl
theorem Zla:cal Tryz.prog 151=true:=by kernel_rfl
theorem Zlb:cal Tryz.prog 152=true:=by kernel_rfl
theorem ZoT:cal Tryz.prog 39=true:=by kernel_rfl
theorem Zp5:cal Tryz.prog 80=true:=by kernel_rfl
theorem Zp7:cal Tryz.prog 82=true:=by kernel_rfl
theorem ZqU:Zz Tryz.prog 26=some 2:=by kernel_rfl
theorem Zjt:ZD Tryz.prog 108=some [(0,1),(1,1),(2,1)]:=by kernel_rfl
theorem ZpA:ZD Tryz.prog 192=some [(0,1)]:=by kernel_rfl
theorem Zr9:ZD Tryz.prog 26=some [(0,1),(1,1)]:=by kernel_rfl
theorem sc4:Z0c Tryz.prog 4=true:=by kernel_rfl
theorem Zq6:Zp Tryz.prog 192=some ([.nilFunc]):=by kernel_rfl
theorem ZqC:Zp Tryz.prog 26=some ([.slice none 0 0,.slice none 0 0]):=by kernel_rfl
def Fw (b:TBn) (n:Nat):Prop:=(∃ x,Pth (ed1 b) n b.first x∧b.mds x=true)∧∀ k x,Pth (ed1 b) k b.first x→b.mds x=true→n≤k
def y3:TBn:=⟨[50,50,50,50],[⟨30,0,1⟩,⟨20,1,0⟩,⟨40,2,2⟩]⟩
theorem y3_ok:y3.ok:=by
 refine ⟨by decide,by decide,?_,?_,?_,?_,?_⟩
 · intro x hx;simp [y3] at hx;omega
 · intro x hx
   simp only [y3,List.mem_cons,List.not_mem_nil,or_false] at hx
   rcases hx with rfl | rfl | rfl<;>decide
 · intro x hx
   simp only [y3,List.mem_cons,List.not_mem_nil,or_false] at hx
   rcases hx with rfl | rfl | rfl<;>refine ⟨by decide,.inr (by decide)⟩
 · intro i j x z hx hz hji
   match i,j,hji with
   | 0,j,h=>exact absurd h (Nat.not_lt_zero _)
   | 1,0,_=>cases hx;cases hz;decide
   | 2,0,_=>cases hx;cases hz;decide
   | 2,1,_=>cases hx;cases hz;decide
   | i+3,j,_=>simp [y3] at hx
 · intro i x hx
   match i with
   | 0=>cases hx;decide
   | 1=>cases hx;decide
   | 2=>cases hx;decide
   | i+3=>simp [y3] at hx
def Zoc (b:TBn) (l:List (List Int)):List (List Int):=l.flatMap fun q=>(ed1 b q).map fun t=>app q t
theorem ZhB {b:TBn}:∀ (k:Nat) (x:List Int),Pth (ed1 b) k b.first x→x∈(List.range k).foldl (fun l _=>Zoc b l) [b.first]
 | 0,x,h=>by rw [show b.first=x from h];simp
 | k+1,x,⟨c,hc,l,hl,e⟩=>by
   have ih:=ZhB k c hc
   rw [List.range_succ,List.foldl_append]
   exact List.mem_flatMap.2 ⟨c,ih,List.mem_map.2 ⟨l,hl,e.symm⟩⟩
theorem fw3_path:∃ x,Pth (ed1 y3) 3 y3.first x∧y3.mds x=true:=by
 refine ⟨[1,0,2,0,0,0],⟨[1,3,2,0,0,0],⟨[0,3,2,0,0,0],⟨[0,1,2,0,0,0],rfl,[(1,3)],by decide,by decide⟩,[(0,1)],by decide,by decide⟩,[(1,0)],by decide,by decide⟩,by decide⟩
theorem Zj2 (k:Nat) (x:List Int) (h:Pth (ed1 y3) k y3.first x) (hm:y3.mds x=true):3≤k:=by
 have h1:=ZhB k x h
 match k with
 | 0 => exact absurd hm (by have : ∀ q ∈ (List.range 0).foldl (fun l _ => Zoc y3 l) [y3.first], y3.mds q = false := by decide
                            rw [this x h1];decide)
 | 1 => exact absurd hm (by have : ∀ q ∈ (List.range 1).foldl (fun l _ => Zoc y3 l) [y3.first], y3.mds q = false := by decide
                            rw [this x h1];decide)
 | 2 => exact absurd hm (by have : ∀ q ∈ (List.range 2).foldl (fun l _ => Zoc y3 l) [y3.first], y3.mds q = false := by decide
                            rw [this x h1];decide)
 | k+3=>omega
theorem fw3_is {n:Nat} (h:Fw y3 n):n=3:=by
 obtain ⟨x,h1,h2⟩:=h.1
 obtain ⟨z,h3,h4⟩:=fw3_path
 have:=Zj2 n x h1 h2
 have:=h.2 3 z h3 h4
 omega
set_option maxHeartbeats 800000 in
theorem Zci (y:TBn) (a1 a2:Option Addr) (k1 k2:Nat) (hy:y.ok) (hc2:y.lots.length≤k2) (hp:∃ k x,Pth (ed1 y) k y.first x∧y.mds x=true) (H:Z6) (R:Z5) [hR1:MemRows a1 1 (irows y.sizes) R] [hR2:MemRows a2 3 (Z0B y.lots) R] :
    Fn Tryz.prog 80 [(y.v a1 a2 k1 k2),.agg #[.func (.func 81) #[] #[]]] H R (fun v H' R'=>∃ (sl:Value) (n:Nat),v = .tuple #[sl,.int .i64 (n:Int),.int .i64 0]∧Fw y n∧H'=H∧R'=R):=by
 have hl:=hy.nl
 refine Zc Tryz.func80 rfl Tryz.ntmps80 rfl ?_
 refine sqt 5 rfl (bx rfl rfl rfl (fun b2=>bx rfl rfl rfl (fun b3=>pur 3 rfl (sqt 7 rfl (spL rfl rfl (lhA (brl y a1 a2 k1 k2) ZeM rfl (rest:=[]) rfl rfl) rfl ?_)))))
 refine cl rfl Zp7 rfl rfl (Z1j y a1 a2 k1 k2 hy hc2 _ _) ?_
 rintro _ _ _ ⟨d,rfl,hdy,hd1,hd2,hd3,hd4,rfl,rfl⟩
 subst hdy;subst hd1;subst hd2;subst hd3;subst hd4
 refine pur 5 rfl (Z0 (sqt 2 rfl (pur 2 rfl ?_)))
 refine Z1 rfl ?_ ?_<;>intro hc0
 exact absurd hc0 (by simp)
 ·
  refine Z3 (sqt 5 rfl (pur 1 rfl (spL rfl rfl (lhA [.func (.func 81) #[] #[]] Zoq rfl (rest:=[]) rfl rfl) rfl ?_)))
  refine cl rfl Zla rfl rfl (Zfi d hy _ _) ?_
  rintro _ _ _ ⟨m,ws,last,is,rfl,hcase,hin,rfl,rfl⟩
  have hq6:∀ r∈ws,r.q.length=6:=fun r hr=>(hin r hr).1
  rcases hcase with ⟨rfl,r,pend,rfl,hbi,hmd⟩ | ⟨rfl,rfl,hbi⟩
  rotate_left
  · obtain ⟨k,x,hx,hm⟩:=hp
    exact absurd (hbi.none hx) (by rw [hm];decide)
  have hrm:r∈ws:=hbi.pn r (by simp)
  have hr6:=hq6 r hrm
  have hf6:=Zkn hbi hq6
  have hrf:=hf6 r hrm
  have hfew:=Z2J hy hbi.nd hin
  have hdl:=ZbF hbi hrm
  have hfw:Fw d.y r.d:=⟨⟨r.q,hbi.path r.d r hrm rfl,hmd⟩,fun k x hx hm=>hbi.least hx hm⟩
  refine alc rfl Zgx rfl (fun b9=>?_)
  refine Z2V (vs:=(Value.map (some m)::(Ze r.q++[Value.bool true]))) rfl rfl rfl Zfz rfl (by simp [ints_length,hr6]) rfl (by rw [List.all_cons,List.all_append,Zs];rfl) ?_
  refine Z0 (sqt 3 rfl (sp rfl (PE.fA ZcU rfl) rfl ?_))
  refine spL rfl rfl (lh (v:=.bool true) sc4 rfl (by rw [List.getElem?_cons_succ,List.getElem?_append_right (by rw [ints_length,hr6];decide),ints_length,hr6];rfl)) rfl ?_
  refine pur 1 rfl ?_
  refine Z1 rfl ?_ ?_<;>intro hc1
  exact absurd hc1 (by simp)
  refine Z3 (Z0 ?_)
  refine Za [0,0,2,6,14,31,63,0,128,0,512,1920,3968,127,16383,32767] (.ld 0 (tks 1 3 (.ld 4 (.tk 7 (.ld 8 (.tk 9 (.ld 10 (.ld 11 (.tk 12 (.big 5 (.big 6 (tks 13 3 .done)))))))))))) Zl (by kernel_rfl) ?_
  refine ld rfl rfl (lhA (Value.map (some m)::(Ze r.q++[Value.bool true])) ZbA rfl (rest:=[]) (by simp) (by simp [ints_length,hr6])) rfl (Zg 1 rfl (tk rfl (PE.nilCheck rfl) rfl (tk rfl (PE.fA Z6M rfl) rfl (ld rfl rfl (Znj (sz:=8) (Ze d.y.first) Z0V (rest:=[]) (by unfold TD.l;simp [brl]) (by rw [ints_length];exact d.y.first_len hl)) rfl (tk rfl (PE.fA Z5g rfl) rfl (ld rfl rfl (lh Z9f rfl rfl) rfl (tk rfl (PE.fA Z8T rfl) rfl (ld rfl rfl (lhA (Ze r.q) Z0V rfl (rest:=[.bool true]) (by simp) (by rw [ints_length];exact hr6)) rfl ?_))))))))
  refine ldK rfl rfl rfl (Z0J (b:=true) (v:=wyv (fun k:Nat=>(k:Int)) r) (wkv (fun k:Nat=>(k:Int)) ws) r.q Z4j (KeyT.of Z23 Z2X) (ZQ Zbp) hr6 (Z3d hq6) (fun w hs=>hs.now (MemF.mem (f:=fun w=>w.heap[m]?=some (ZJ true (wkv (fun k:Nat=>(k:Int)) ws))))) (by rw [Z48,Z8r hbi hrm,Option.map_some,Option.getD_some])) rfl ?_
  refine tk rfl (PE.fieldV (vs:=wyl (fun k:Nat=>(k:Int)) r) (show fTy Tryz.prog 123 2=some (3,7) from by kernel_rfl) sc3 rfl (Z5B hrf)) rfl ?_
  refine cl rfl ZoT rfl rfl (ZkI d hy (fun k:Nat=>(k:Int)) (ed1 d.y) ws (r::pend) r hrm hbi hin true m _ _) ?_
  rintro _ _ _ ⟨l,ap,cp,rfl,hlc,hll,hwk,hls,rfl,rfl⟩
  have htl:=ZdQ hbi ZiL hls
  refine bg (fun w hs=>⟨(Z0J (b:=true) (v:=wyv (fun k:Nat=>(k:Int)) r) (wkv (fun k:Nat=>(k:Int)) ws) r.q Z4j (KeyT.of Z23 Z2X) (ZQ Zbp) hr6 (Z3d hq6) (fun w hs=>hs.now (MemF.mem (f:=fun w=>w.heap[m]?=some (ZJ true (wkv (fun k:Nat=>(k:Int)) ws))))) (by rw [Z48,Z8r hbi hrm,Option.map_some,Option.getD_some])) w hs,(lhA (Ze r.q) Z0V rfl (rest:=[.bool true]) (by simp) (by rw [ints_length];exact hr6)) w hs,(lh Z9f rfl rfl) w hs,trivial,trivial,trivial⟩) ?_
  refine cl rfl Zlb rfl rfl (Z3i l ws ap cp (by omega) (by omega) hls _ _) ?_
  rintro _ _ _ ⟨o30,rfl,rfl,rfl⟩
  refine bg (fun w hs=>⟨(Z0J (b:=true) (v:=wyv (fun k:Nat=>(k:Int)) r) (wkv (fun k:Nat=>(k:Int)) ws) r.q Z4j (KeyT.of Z23 Z2X) (ZQ Zbp) hr6 (Z3d hq6) (fun w hs=>hs.now (MemF.mem (f:=fun w=>w.heap[m]?=some (ZJ true (wkv (fun k:Nat=>(k:Int)) ws))))) (by rw [Z48,Z8r hbi hrm,Option.map_some,Option.getD_some])) w hs,(lhA (Ze r.q) Z0V rfl (rest:=[.bool true]) (by simp) (by rw [ints_length];exact hr6)) w hs,(lh Z9f rfl rfl) w hs,trivial⟩) ?_
  refine Zg 3 rfl (Z4 ?_)
  exact rtC rfl rfl rfl rfl rfl ⟨o30.fs,r.d,rfl,hfw,rfl,rfl⟩ (fun w h=>St.sub (St.drop (G:=o30.G) (((h.del b9).del b3).del b2)))
theorem c_Fewest (y:TBn) (a1 a2:Option Addr) (k1 k2:Nat) (hy:y.ok) (hc2:y.lots.length≤k2) (hp:∃ k x,Pth (ed1 y) k y.first x∧y.mds x=true) (H:Z6) (R:Z5) [hR1:MemRows a1 1 (irows y.sizes) R] [hR2:MemRows a2 3 (Z0B y.lots) R] :
    Fn Tryz.prog 34 [(y.v a1 a2 k1 k2)] H R (fun v H' R'=>∃ n:Nat,v = .tuple #[.int .i64 (n:Int),.int .i64 0]∧Fw y n∧H'=H∧R'=R):=by
 refine Zc Tryz.func34 rfl Tryz.ntmps34 rfl ?_
 refine sqt 3 rfl (bx rfl rfl rfl (fun b1=>pur 2 rfl (sqt 10 rfl (spL rfl rfl (lhA (brl y a1 a2 k1 k2) ZeM rfl (rest:=[]) rfl rfl) rfl (sp rfl (PE.build (out:=[_]) ZpA Zq6 rfl rfl) rfl ?_)))))
 refine cl rfl Zp5 rfl rfl (Zci y a1 a2 k1 k2 hy hc2 hp _ _) ?_
 rintro _ _ _ ⟨sl,n,rfl,hfw,rfl,rfl⟩
 refine pur 7 rfl (sqt 4 rfl (pur 4 rfl (Z4 ?_)))
 exact rtB rfl rfl rfl rfl ⟨n,rfl,hfw,rfl,rfl⟩ (fun w h=>h.del b1)
set_option maxHeartbeats 400000 in
theorem c_Three8 (a1:Option Addr) (k1:Nat) (H:Z6) (R:Z5) [hR1:MemRows a1 1 (irows [50]) R] :
    Fn Tryz.prog 35 [.slice a1 1 k1] H R (fun v H' R'=>∃ aa ab ca cb,v=y3.v aa ab ca cb∧3≤cb∧H'=H∧R'=RowsA ab 3 (Z0B y3.lots)::RowsA aa 1 (irows y3.sizes)::R):=by
 refine Zc Tryz.func35 rfl Tryz.ntmps35 rfl ?_
 refine sqt 1 rfl (alc rfl ZqC rfl (fun b2=>sqt 9 rfl ?_))
 refine bsl (out:=[_,_,_]) rfl Z1H zl3 rfl rfl rfl rfl rfl rfl (fun b3=>?_)
 obtain ⟨o3,ho3,hg3⟩:∃ o:OSl 3 1 (irows [50,50,50]),o.fs = .slice (some ⟨b3,0,none⟩) 3 3∧o.G=[(b3,cel 3 [.int .i64 50,.int .i64 50,.int .i64 50])]:=⟨⟨.slice (some ⟨b3,0,none⟩) 3 3,[(b3,cel 3 [.int .i64 50,.int .i64 50,.int .i64 50])],by simp [irow],.inr ⟨b3,3,[],rfl,rfl,by decide,by decide,by decide⟩⟩,rfl,rfl⟩
 rw [← ho3]
 refine Sy.heap (H':=o3.G++((b2,cel 26 [.slice none 0 0,.slice none 0 0])::H)) (fun w h=>by rw [hg3];exact h) ?_
 refine pur 1 rfl ?_
 refine apO (o3) rfl Z6j rfl rfl (Zge) rfl rfl ((by decide)) rfl (fun o5=>?_)
 obtain ⟨aa,ca,he,hca,hfz⟩:=Z95 o5
 rw [he]
 refine Sy.heap (fun w h=>hfz h) ?_
 refine sp rfl (PE.build (out:=[_,_,_]) Zjt Z7y rfl rfl) rfl (sp rfl (PE.build (out:=[_,_,_]) Zjt Z7y rfl rfl) rfl (sp rfl (PE.build (out:=[_,_,_]) Zjt Z7y rfl rfl) rfl ?_))
 refine bsl (out:=[_,_,_,_,_,_,_,_,_]) rfl Zqy Z7y rfl rfl rfl rfl rfl rfl (fun b9=>?_)
 refine sp rfl (PE.build (out:=[_,_]) Zr9 ZqC rfl rfl) rfl ?_
 refine sto rfl rfl rfl ZqU rfl rfl rfl rfl ?_
 refine Z4 ?_
 exact Z9 (vs:=[_]) rfl (.cons (RV.cell rfl (lhA [.slice aa 4 ca,.slice (some ⟨b9,0,none⟩) 3 3] ZeM rfl (rest:=[]) rfl rfl)) .nil) rfl ⟨aa,some ⟨b9,0,none⟩,ca,3,rfl,Nat.le_refl _,rfl,rfl⟩ (fun w h=>St.rows (rows:=Z0B y3.lots) (rest:=[]) ((h.del b2).pull b9) (by intro r hr;simp [y3,Z7s] at hr;rcases hr with rfl | rfl | rfl<;>rfl))
end Go.Proofs.YtcfdanhklbklkaaGreat.Tu
namespace Go.Proofs.YtcfdanhklbklkaaGreat.Gt
set_option linter.unusedSimpArgs false
set_option linter.unusedVariables false
abbrev Box:=List Int
abbrev Mix:=List Int
def nn (l:List Int) (k:Nat):Int:=l.getD k 0
@[reducible] def bl (b : Box) (k : Nat) : Int := nn b (2 * k)
@[reducible] def bh (b : Box) (k : Nat) : Int := nn b (2 * k + 1)
def met (l h l2 h2:Int):Int×Int:=bif decide (min h h2<max l l2) then (1,0) else (max l l2,min h h2)
def Z2S (b:Box) (k:Nat) (s:Int×Int):Box:=(b.set (2*k) s.1).set (2*k+1) s.2
def oth (f:Nat→Int) (k:Nat):Int:=(bif k == 0 then 0 else f 0)+(bif k == 1 then 0 else f 1)+(bif k == 2 then 0 else f 2)+(bif k == 3 then 0 else f 3)
def ZY (b:Box) (k:Nat):Int×Int:=met (bl b k) (bh b k) (40-oth (bh b) k) (40-oth (bl b) k)
def Z5F (b:Box):Nat→Option Box
 | 0=>some b
 | k+1=>match Z5F b k with
   | none=>none
   | some c=>bif ZY c k == (1,0) then none else some (Z2S c k (ZY c k))
inductive CloseR:Box→Option Box→Prop where
 | no {b:Box} (h:Z5F b 4=none):CloseR b none
 | fix {b:Box} (h:Z5F b 4=some b):CloseR b (some b)
 | go {b c:Box} {r:Option Box} (h:Z5F b 4=some c) (hc:c≠b) (hr:CloseR c r):CloseR b r
def Z9P:Nat→Box→Option Box
 | 0,_=>none
 | n+1,b=>match Z5F b 4 with
   | none=>none
   | some c=>bif decide (c=b) then some b else Z9P n c
@[irreducible] def clo (b : Box) : Option Box := Z9P 200 b
def Z3B (m:List Int):Int:=nn m 0+nn m 1+nn m 2+nn m 3
structure Mx (b:Box) (m:Mix):Prop where
 len:m.length=4
 sum:Z3B m=40
 at_:∀ k<4,bl b k≤nn m k∧nn m k≤bh b k
structure Bok (b:Box):Prop where
 len:b.length=8
 at_:∀ k<4,(bl b k=1∧bh b k=0)∨(0≤bl b k∧bl b k≤bh b k∧bh b k≤40)
def wid (b:Box):Nat:=((bh b 0-bl b 0+1)+(bh b 1-bl b 1+1)+(bh b 2-bl b 2+1)+(bh b 3-bl b 3+1)).toNat
theorem Z6Y {b:Box} (h:b.length=8):∃ a0 a1 a2 a3 a4 a5 a6 a7,b=[a0,a1,a2,a3,a4,a5,a6,a7]:=by
 match b,h with
 | [a0,a1,a2,a3,a4,a5,a6,a7],_=>exact ⟨a0,a1,a2,a3,a4,a5,a6,a7,rfl⟩
theorem Z37 {m:List Int} (h:m.length=4):∃ a b c d,m=[a,b,c,d]:=by
 match m,h with
 | [a,b,c,d],_=>exact ⟨a,b,c,d,rfl⟩
theorem lt4 {k:Nat} (h:k<4):k=0∨k=1∨k=2∨k=3:=by omega
theorem Z7E {p:Nat→Prop} (h:∀ k<4,p k):p 0∧p 1∧p 2∧p 3:=⟨h 0 (by omega),h 1 (by omega),h 2 (by omega),h 3 (by omega)⟩
theorem of4 {p:Nat→Prop} (h:p 0∧p 1∧p 2∧p 3):∀ k<4,p k:=fun k hk=>by
 obtain ⟨h0,h1,h2,h3⟩:=h
 rcases lt4 hk with rfl | rfl | rfl | rfl<;>assumption
theorem Z3h (b:Box) (k:Nat) (s:Int×Int):(Z2S b k s).length=b.length:=by simp [Z2S]
theorem Z2f {b:Box} (hb:b.length=8) {k j:Nat} (hk:k<4) (hj:j<4) (s:Int×Int):bl (Z2S b k s) j=(bif k == j then s.1 else bl b j)∧bh (Z2S b k s) j=(bif k == j then s.2 else bh b j):=by
 obtain ⟨a0,a1,a2,a3,a4,a5,a6,a7,rfl⟩:=Z6Y hb
 rcases lt4 hk with rfl | rfl | rfl | rfl<;>rcases lt4 hj with rfl | rfl | rfl | rfl<;>exact ⟨rfl,rfl⟩
theorem Z4E {l h l2 h2:Int}:met l h l2 h2=(1,0)∨(met l h l2 h2=(max l l2,min h h2)∧max l l2≤min h h2):=by
 unfold met
 by_cases hc:min h h2<max l l2
 · rw [decide_eq_true hc];exact .inl rfl
 · rw [decide_eq_false hc];exact .inr ⟨rfl,by omega⟩
theorem Zno {l h l2 h2 x:Int} (h1:l≤x∧x≤h) (h2':l2≤x∧x≤h2):met l h l2 h2=(max l l2,min h h2):=by
 unfold met
 rw [decide_eq_false (by omega)];rfl
theorem met_iff {l h l2 h2 x:Int}:((met l h l2 h2).1≤x∧x≤(met l h l2 h2).2)↔((l≤x∧x≤h)∧(l2≤x∧x≤h2)):=by
 rcases Z4E (l:=l) (h:=h) (l2:=l2) (h2:=h2) with e | ⟨e,h3⟩
 · rw [e]
   constructor
   · intro hx;have:=hx.1;have:=hx.2;simp only at *;omega
   · rintro ⟨h1,h4⟩
     rw [Zno h1 h4] at e
     simp only [Prod.mk.injEq] at e
     simp only;omega
 · rw [e];simp only;omega
theorem Zhr {l h l2 h2:Int} (hb:(l=1∧h=0)∨(0≤l∧l≤h∧h≤40)):((met l h l2 h2).1=1∧(met l h l2 h2).2=0)∨(0≤(met l h l2 h2).1∧(met l h l2 h2).1≤(met l h l2 h2).2∧(met l h l2 h2).2≤40):=by
 rcases Z4E (l:=l) (h:=h) (l2:=l2) (h2:=h2) with e | ⟨e,h3⟩
 · rw [e];exact .inl ⟨rfl,rfl⟩
 · rw [e];simp only;omega
theorem Bok.set {b:Box} (h:Bok b) {k:Nat} (hk:k<4) {l2 h2:Int}:Bok (Z2S b k (met (bl b k) (bh b k) l2 h2)):=by
 refine ⟨by rw [Z3h];exact h.len,fun j hj=>?_⟩
 obtain ⟨e1,e2⟩:=Z2f h.len hk hj (met (bl b k) (bh b k) l2 h2)
 rw [e1,e2]
 by_cases hkj:k=j
 · subst hkj
   simp only [beq_self_eq_true,cond_true]
   exact Zhr (h.at_ k hk)
 · have:(k == j)=false:=by simpa using hkj
   rw [this];exact h.at_ j hj
theorem Mx.set {b:Box} (hb:b.length=8) {k:Nat} (hk:k<4) {l2 h2:Int} {m:Mix}:Mx (Z2S b k (met (bl b k) (bh b k) l2 h2)) m↔(Mx b m∧l2≤nn m k∧nn m k≤h2):=by
 constructor
 · rintro ⟨h1,h2',h3⟩
   have hk2:=h3 k hk
   obtain ⟨e1,e2⟩:=Z2f hb hk hk (met (bl b k) (bh b k) l2 h2)
   simp only [beq_self_eq_true,cond_true] at e1 e2
   rw [e1,e2,met_iff] at hk2
   refine ⟨⟨h1,h2',fun j hj=>?_⟩,hk2.2⟩
   by_cases hkj:k=j
   · subst hkj;exact hk2.1
   · have h4:=h3 j hj
     obtain ⟨e3,e4⟩:=Z2f hb hk hj (met (bl b k) (bh b k) l2 h2)
     have:(k == j)=false:=by simpa using hkj
     rw [e3,e4,this] at h4
     exact h4
 · rintro ⟨⟨h1,h2',h3⟩,h4⟩
   refine ⟨h1,h2',fun j hj=>?_⟩
   obtain ⟨e3,e4⟩:=Z2f hb hk hj (met (bl b k) (bh b k) l2 h2)
   rw [e3,e4]
   by_cases hkj:k=j
   · subst hkj
     simp only [beq_self_eq_true,cond_true]
     exact met_iff.2 ⟨h3 k hk,h4⟩
   · have:(k == j)=false:=by simpa using hkj
     rw [this];exact h3 j hj
theorem Mx.oth {b:Box} {m:Mix} (h:Mx b m) {k:Nat} (hk:k<4):40-oth (bh b) k≤nn m k∧nn m k≤40-oth (bl b) k:=by
 obtain ⟨h0,h1,h2,h3⟩:=Z7E h.at_
 have hs:=h.sum
 unfold Z3B at hs
 rcases lt4 hk with rfl | rfl | rfl | rfl<;>simp [Go.Proofs.YtcfdanhklbklkaaGreat.Gt.oth]<;>omega
theorem Zeq {b:Box} (hb:b.length=8) {k:Nat} (hk:k<4) {m:Mix}:Mx (Z2S b k (ZY b k)) m↔Mx b m:=by
 unfold ZY
 rw [Mx.set hb hk]
 exact ⟨fun h=>h.1,fun h=>⟨h,h.oth hk⟩⟩
theorem Zjn {b:Box} (hb:b.length=8) {k:Nat} (hk:k<4) (h:ZY b k=(1,0)) {m:Mix}:¬ Mx b m:=fun hm=>by
 have h1:=(Zeq hb hk).2 hm
 have h2:=h1.at_ k hk
 obtain ⟨e1,e2⟩:=Z2f hb hk hk (ZY b k)
 simp only [beq_self_eq_true,cond_true] at e1 e2
 rw [e1,e2,h] at h2
 have:=h2.1;have:=h2.2
 simp only at *;omega
theorem Z66 {b:Box} (hb:Bok b):∀ k,k≤4→match Z5F b k with
   | none=>∀ m,¬ Mx b m
   | some c=>Bok c∧(∀ m,Mx c m↔Mx b m)∧(∀ j<4,bl b j≤bl c j∧bh c j≤bh b j)∧∀ j<k,bl c j≤bh c j
 | 0,_=>⟨hb,fun _=>Iff.rfl,fun _ _=>⟨Int.le_refl _,Int.le_refl _⟩,fun j hj=>by omega⟩
 | k+1,hk=>by
   have ih:=Z66 hb k (by omega)
   unfold Z5F
   cases hr:Z5F b k with
   | none=>rw [hr] at ih;exact ih
   | some c =>
     rw [hr] at ih
     obtain ⟨h1,h2,h3,h4⟩:=ih
     simp only
     by_cases hs:ZY c k=(1,0)
     · have:(ZY c k == (1,0))=true:=by simp [hs]
       rw [this]
       exact fun m hm=>Zjn h1.len (by omega) hs ((h2 m).2 hm)
     · have:(ZY c k == (1,0))=false:=by simpa using hs
       rw [this]
       simp only [cond_false]
       have h5:ZY c k=(max (bl c k) (40-oth (bh c) k),min (bh c k) (40-oth (bl c) k))∧max (bl c k) (40-oth (bh c) k)≤min (bh c k) (40-oth (bl c) k):=by
         unfold ZY at hs ⊢
         rcases Z4E (l:=bl c k) (h:=bh c k) (l2:=40-oth (bh c) k) (h2:=40-oth (bl c) k) with e | e
         · exact absurd e hs
         · exact e
       refine ⟨h1.set (by omega),fun m=>(Zeq h1.len (by omega)).trans (h2 m),fun j hj=>?_,fun j hj=>?_⟩
       · obtain ⟨e1,e2⟩:=Z2f h1.len (k:=k) (j:=j) (by omega) hj (ZY c k)
         rw [e1,e2]
         have h6:=h3 j hj
         by_cases hkj:k=j
         · subst hkj;simp only [beq_self_eq_true,cond_true];rw [h5.1];simp only;omega
         · have:(k == j)=false:=by simpa using hkj
           rw [this];exact h6
       · obtain ⟨e1,e2⟩:=Z2f h1.len (k:=k) (j:=j) (by omega) (by omega) (ZY c k)
         rw [e1,e2]
         by_cases hkj:k=j
         · subst hkj;simp only [beq_self_eq_true,cond_true];rw [h5.1];exact h5.2
         · have:(k == j)=false:=by simpa using hkj
           rw [this];exact h4 j (by omega)
theorem ZbK {b c:Box} (hb:b.length=8) (hc:c.length=8) (h:∀ k<4,bl b k=bl c k∧bh b k=bh c k):b=c:=by
 obtain ⟨a0,a1,a2,a3,a4,a5,a6,a7,rfl⟩:=Z6Y hb
 obtain ⟨b0,b1,b2,b3,b4,b5,b6,b7,rfl⟩:=Z6Y hc
 obtain ⟨h0,h1,h2,h3⟩:=Z7E h
 simp [bl,bh,nn] at h0 h1 h2 h3
 simp [h0,h1,h2,h3]
theorem Ze7 {b c:Box} (hb:Bok b) (h:Z5F b 4=some c) (hne:c≠b):wid c<wid b:=by
 have h1:=Z66 hb 4 (by omega)
 rw [h] at h1
 obtain ⟨h2,_,h3,h4⟩:=h1
 have h5:¬ (∀ k<4,bl c k=bl b k∧bh c k=bh b k):=fun h5=>hne (ZbK h2.len hb.len h5)
 obtain ⟨a0,a1,a2,a3⟩:=Z7E h3
 obtain ⟨c0,c1,c2,c3⟩:=Z7E h4
 have h6:¬ ((bl c 0=bl b 0∧bh c 0=bh b 0)∧(bl c 1=bl b 1∧bh c 1=bh b 1)∧(bl c 2=bl b 2∧bh c 2=bh b 2)∧(bl c 3=bl b 3∧bh c 3=bh b 3)):=fun h6=>h5 (of4 h6)
 unfold wid
 omega
theorem ZnW {b:Box} (hb:Bok b):wid b≤164:=by
 obtain ⟨a0,a1,a2,a3⟩:=Z7E hb.at_
 unfold wid
 omega
theorem Z9Q:∀ {n:Nat} {b:Box},Bok b→wid b<n→CloseR b (Z9P n b)
 | 0,b,_,h=>by omega
 | n+1,b,hb,h=>by
   have h1:=Z66 hb 4 (by omega)
   unfold Z9P
   cases hr:Z5F b 4 with
   | none=>exact .no hr
   | some c =>
     rw [hr] at h1
     simp only
     by_cases hc:c=b
     · subst hc;simp only [decide_true,cond_true];exact .fix hr
     · simp only [hc,decide_false,cond_false]
       exact .go hr hc (Z9Q h1.1 (by have:=Ze7 hb hr hc;omega))
theorem CloseR.uniq {b:Box} {r r':Option Box} (h:CloseR b r) (h':CloseR b r'):r=r':=by
 induction h with
 | no h=>cases h' with
   | no _=>rfl
   | fix h2=>rw [h] at h2;cases h2
   | go h2 _ _=>rw [h] at h2;cases h2
 | fix h=>cases h' with
   | no h2=>rw [h] at h2;cases h2
   | fix _=>rfl
   | go h2 hc _=>rw [h] at h2;cases h2;exact absurd rfl hc
 | go h hc hr ih=>cases h' with
   | no h2=>rw [h] at h2;cases h2
   | fix h2=>rw [h] at h2;cases h2;exact absurd rfl hc
   | go h2 _ hr'=>rw [h] at h2;cases h2;exact ih hr'
theorem ZiA {b:Box} (hb:Bok b):CloseR b (clo b):=by unfold clo;exact Z9Q hb (by have:=ZnW hb;omega)
theorem CloseR.clo {b:Box} {r:Option Box} (hb:Bok b) (h:CloseR b r):clo b=r:=(ZiA hb).uniq h
structure Tight (b:Box):Prop where
 ok:Bok b
 fit:∀ k<4,bl b k≤bh b k∧40-oth (bh b) k≤bl b k∧bh b k≤40-oth (bl b) k
theorem Zjy {b:Box} (hb:Bok b) (h:Z5F b 4=some b):Tight b:=by
 have key:∀ k,k≤4→∀ c,Z5F b k=some c→(c=b∧∀ j<k,bl b j≤bh b j∧40-oth (bh b) j≤bl b j∧bh b j≤40-oth (bl b) j)∨wid c<wid b:=by
   intro k
   induction k with
   | zero=>intro _ c hc;cases hc;exact .inl ⟨rfl,fun j hj=>by omega⟩
   | succ k ih =>
     intro hk d hd
     unfold Z5F at hd
     cases hr:Z5F b k with
     | none=>rw [hr] at hd;cases hd
     | some c =>
       rw [hr] at hd
       have h1:=Z66 hb k (by omega)
       rw [hr] at h1
       obtain ⟨hc,_,hle,_⟩:=h1
       simp only at hd
       by_cases hs:ZY c k=(1,0)
       · have:(ZY c k == (1,0))=true:=by simp [hs]
         rw [this] at hd;cases hd
       · have:(ZY c k == (1,0))=false:=by simpa using hs
         rw [this] at hd
         simp only [cond_false,Option.some.injEq] at hd
         have h5:ZY c k=(max (bl c k) (40-oth (bh c) k),min (bh c k) (40-oth (bl c) k))∧max (bl c k) (40-oth (bh c) k)≤min (bh c k) (40-oth (bl c) k):=by
           unfold ZY at hs ⊢
           rcases Z4E (l:=bl c k) (h:=bh c k) (l2:=40-oth (bh c) k) (h2:=40-oth (bl c) k) with e | e
           · exact absurd e hs
           · exact e
         subst hd
         have hat:=fun j (hj:j<4)=>Z2f hc.len (k:=k) (j:=j) (by omega) hj (ZY c k)
         -- no wider than c,and as wide just if the same
         have hmon:wid (Z2S c k (ZY c k))≤wid c∧(wid (Z2S c k (ZY c k))=wid c→40-oth (bh c) k≤bl c k∧bh c k≤40-oth (bl c) k∧bl c k≤bh c k):=by
           obtain ⟨x0,x1,x2,x3⟩:=Z7E hat
           obtain ⟨a0,a1,a2,a3⟩:=Z7E hc.at_
           rw [h5.1] at x0 x1 x2 x3
           rcases lt4 (show k<4 by omega) with rfl | rfl | rfl | rfl<;>simp at x0 x1 x2 x3<;>rw [h5.1]<;>unfold wid<;>omega
         rcases ih (by omega) c hr with ⟨rfl,h6⟩ | h6
         · rcases Nat.lt_or_ge (wid (Z2S c k (ZY c k))) (wid c) with h7 | h7
           · exact .inr h7
           · have h8:=hmon.2 (by omega)
             refine .inl ⟨ZbK (by rw [Z3h];exact hc.len) hc.len (fun j hj=>?_),fun j hj=>?_⟩
             · obtain ⟨e1,e2⟩:=hat j hj
               rw [e1,e2]
               by_cases hkj:k=j
               · subst hkj;simp only [beq_self_eq_true,cond_true];rw [h5.1];simp only;omega
               · have:(k == j)=false:=by simpa using hkj
                 rw [this];exact ⟨rfl,rfl⟩
             · by_cases hkj:k=j
               · subst hkj;omega
               · exact h6 j (by omega)
         · exact .inr (by omega)
 rcases key 4 (by omega) b h with ⟨_,h1⟩ | h1
 · exact ⟨hb,h1⟩
 · omega
def ZqF (b:Box):Option Box→Prop
 | none=>∀ m,¬ Mx b m
 | some c=>Tight c∧∀ m,Mx c m↔Mx b m
theorem Z9R {b:Box} {r:Option Box} (h:CloseR b r):Bok b→ZqF b r:=by
 induction h with
 | no h=>intro hb;have:=Z66 hb 4 (by omega);rw [h] at this;exact this
 | fix h=>intro hb;exact ⟨Zjy hb h,fun _=>Iff.rfl⟩
 | go h hc hr ih =>
   rename_i b c r
   intro hb
   have h1:=Z66 hb 4 (by omega)
   rw [h] at h1
   obtain ⟨h2,h3,_⟩:=h1
   have h4:=ih h2
   cases r with
   | none=>exact fun m hm=>h4 m ((h3 m).2 hm)
   | some d=>exact ⟨h4.1,fun m=>(h4.2 m).trans (h3 m)⟩
theorem Z6y {b:Box} (hb:Bok b) (h:clo b=none):∀ m,¬ Mx b m:=by
 have:=Z9R (ZiA hb) hb
 rw [h] at this;exact this
theorem Z3k {b c:Box} (hb:Bok b) (h:clo b=some c):Tight c∧∀ m,Mx c m↔Mx b m:=by
 have:=Z9R (ZiA hb) hb
 rw [h] at this;exact this
theorem ZfJ {l1 h1 l2 h2 l3 h3 t:Int} (a:l1≤h1) (b:l2≤h2) (c:l3≤h3) (hl:l1+l2+l3≤t) (hh:t≤h1+h2+h3):∃ x y z,(l1≤x∧x≤h1)∧(l2≤y∧y≤h2)∧(l3≤z∧z≤h3)∧x+y+z=t :=
 ⟨min h1 (t-l2-l3),min h2 (t-min h1 (t-l2-l3)-l3),t-min h1 (t-l2-l3)-min h2 (t-min h1 (t-l2-l3)-l3),by omega,by omega,by omega,by omega⟩
theorem Tight.had {b:Box} (h:Tight b) {k:Nat} (hk:k<4) {v:Int} (hv:bl b k≤v∧v≤bh b k):∃ m,Mx b m∧nn m k=v:=by
 have h1:=h.fit k hk
 obtain ⟨⟨a0,_⟩,⟨a1,_⟩,⟨a2,_⟩,⟨a3,_⟩⟩:=Z7E h.fit
 rcases lt4 hk with rfl | rfl | rfl | rfl<;>simp [oth] at h1
 · obtain ⟨x,y,z,h2,h3,h4,h5⟩:=ZfJ a1 a2 a3 (t:=40-v) (by omega) (by omega)
   exact ⟨[v,x,y,z],⟨rfl,by simp [Z3B,nn];omega,of4 ⟨hv,h2,h3,h4⟩⟩,rfl⟩
 · obtain ⟨x,y,z,h2,h3,h4,h5⟩:=ZfJ a0 a2 a3 (t:=40-v) (by omega) (by omega)
   exact ⟨[x,v,y,z],⟨rfl,by simp [Z3B,nn];omega,of4 ⟨h2,hv,h3,h4⟩⟩,rfl⟩
 · obtain ⟨x,y,z,h2,h3,h4,h5⟩:=ZfJ a0 a1 a3 (t:=40-v) (by omega) (by omega)
   exact ⟨[x,y,v,z],⟨rfl,by simp [Z3B,nn];omega,of4 ⟨h2,h3,hv,h4⟩⟩,rfl⟩
 · obtain ⟨x,y,z,h2,h3,h4,h5⟩:=ZfJ a0 a1 a2 (t:=40-v) (by omega) (by omega)
   exact ⟨[x,y,z,v],⟨rfl,by simp [Z3B,nn];omega,of4 ⟨h2,h3,h4,hv⟩⟩,rfl⟩
def Zk9 (b:Box) (m:Mix) (k:Nat):Mix:=m.set k (nn m k+min (bh b k-bl b k) (40-Z3B m))
def Zqt (b:Box):Nat→Mix
 | 0=>[bl b 0,bl b 1,bl b 2,bl b 3]
 | k+1=>Zk9 b (Zqt b k) k
def Znp (b:Box):Mix:=Zqt b 4
theorem ZdE {b:Box} (h:Tight b):Mx b (Znp b):=by
 obtain ⟨a0,a1,a2,a3⟩:=Z7E h.fit
 simp [oth] at a0 a1 a2 a3
 have e:Znp b=Zk9 b (Zk9 b (Zk9 b (Zk9 b [bl b 0,bl b 1,bl b 2,bl b 3] 0) 1) 2) 3:=rfl
 rw [e]
 simp only [Zk9,List.set,nn,Z3B,List.getD_cons_zero,List.getD_cons_succ]
 refine ⟨rfl,?_,of4 ⟨?_,?_,?_,?_⟩⟩<;>simp only [Z3B,nn,List.getD_cons_zero,List.getD_cons_succ]<;>simp only [bl,bh,nn] at * <;> omega
structure Grd where
 corn:Int
 chaff:Int
 stones:Int
 damp:Int
 price:Int
 deriving DecidableEq,Repr
structure Hnd where
 spot:Int
 a:Int
 b:Int
 c:Int
 d:Int
 deriving DecidableEq,Repr
structure Crt where
 full:Int
 empty:Int
 hs:List Hnd
 deriving DecidableEq,Repr
structure Gat where
 err:Int
 miss:Int
 grs:List Grd
 deriving DecidableEq,Repr
@[reducible] def inb (n lo hi : Int) : Bool := decide (lo ≤ n) && decide (n ≤ hi)
def Grd.ns (x:Grd):List Int:=[x.corn,x.chaff,x.stones,x.damp]
def Hnd.gs (h:Hnd):List Int:=[h.a,h.b,h.c,h.d]
def Hnd.tot (h:Hnd):Int:=Z3B h.gs
def Z1C (l:List Grd) (i:Nat):Bool:=match l[i]?,l[i+1]? with
 | some a,some b=>decide (a.price<b.price)
 | _,_=>false
def Grd.fine (x:Grd):Bool:=inb x.price 0 100&&x.ns.all fun n=>inb n 0 40
def Gat.check (g:Gat):Int:=bif decide (4<g.grs.length) then 2 else bif !(inb g.err 0 50)||!(inb g.miss 0 20) then 3 else bif !(g.grs.all Grd.fine) then 3 else bif (List.range g.grs.length).any (Z1C g.grs) then 4 else 0
def Hnd.fine (h:Hnd):Bool:=inb h.spot 0 2&&h.gs.all fun n=>inb n 0 200
def Crt.check (c:Crt):Int:=bif decide (6<c.hs.length) then 2 else bif !(inb c.full 0 10000)||!(inb c.empty 0 10000) then 3 else bif !(c.hs.all Hnd.fine) then 3 else bif !(c.hs.all fun h=>inb h.tot 10 200) then 8 else 0
def Z1J (g:Gat) (c:Crt):Int:=bif decide (g.check≠0) then g.check else c.check
structure Hnd.ok (h:Hnd):Prop where
 spot:0≤h.spot∧h.spot≤2
 at_:∀ k<4,0≤nn h.gs k∧nn h.gs k≤200
 tot:10≤h.tot∧h.tot≤200
structure Gat.ok (g:Gat):Prop where
 many:g.grs.length≤4
 err:0≤g.err∧g.err≤50
 miss:0≤g.miss∧g.miss≤20
 grs:∀ x∈g.grs,(0≤x.price∧x.price≤100)∧∀ k<4,0≤nn x.ns k∧nn x.ns k≤40
 ord:∀ i,Z1C g.grs i=false
structure Crt.ok (c:Crt):Prop where
 many:c.hs.length≤6
 full:0≤c.full∧c.full≤10000
 empty:0≤c.empty∧c.empty≤10000
 hs:∀ h∈c.hs,h.ok
theorem gat_ok {g:Gat}:g.check=0↔g.ok:=by
 constructor
 · intro h
   unfold Gat.check at h
   cases h1:decide (4<g.grs.length)<;>rw [h1] at h
   case true=>cases h
   cases h2:!(inb g.err 0 50)||!(inb g.miss 0 20)<;>rw [h2] at h
   case true=>cases h
   cases h3:g.grs.all Grd.fine<;>rw [h3] at h
   case false=>cases h
   cases h4:(List.range g.grs.length).any (Z1C g.grs)<;>rw [h4] at h
   case true=>cases h
   simp only [decide_eq_false_iff_not] at h1
   simp only [inb,Bool.or_eq_false_iff,Bool.not_eq_false',Bool.and_eq_true,decide_eq_true_eq] at h2
   refine ⟨by omega,h2.1,h2.2,fun x hx=>?_,fun i=>?_⟩
   · have:=List.all_eq_true.1 h3 x hx
     simp only [Grd.fine,Grd.ns,inb,List.all_cons,List.all_nil,Bool.and_true,Bool.and_eq_true,decide_eq_true_eq] at this
     exact ⟨this.1,of4 ⟨this.2.1,this.2.2.1,this.2.2.2.1,this.2.2.2.2⟩⟩
   · rcases Nat.lt_or_ge i g.grs.length with hi | hi
     · have:=List.any_eq_false.1 h4 i (List.mem_range.2 hi)
       simpa using this
     · simp [Z1C,List.getElem?_eq_none hi]
 · intro h
   unfold Gat.check
   have e1:=h.many
   have e2:(!(inb g.err 0 50)||!(inb g.miss 0 20))=false:=by
     have:=h.err;have:=h.miss
     simp only [inb,Bool.or_eq_false_iff,Bool.not_eq_false',Bool.and_eq_true,decide_eq_true_eq];omega
   have e3:g.grs.all Grd.fine=true:=List.all_eq_true.2 fun x hx=>by
     obtain ⟨a,b⟩:=h.grs x hx
     obtain ⟨b0,b1,b2,b3⟩:=Z7E b
     simp only [nn,Grd.ns,List.getD_cons_zero,List.getD_cons_succ] at b0 b1 b2 b3
     simp only [Grd.fine,Grd.ns,inb,List.all_cons,List.all_nil,Bool.and_true,Bool.and_eq_true,decide_eq_true_eq]
     exact ⟨a,b0,b1,b2,b3⟩
   have e4:(List.range g.grs.length).any (Z1C g.grs)=false:=List.any_eq_false.2 fun i _=>by rw [h.ord i];simp
   rw [decide_eq_false (by omega),e2,e3,e4];rfl
theorem hnd_ok {h:Hnd}:(h.fine=true∧inb h.tot 10 200=true)↔h.ok:=by
 simp only [Hnd.fine,inb,Bool.and_eq_true,decide_eq_true_eq,Hnd.gs,List.all_cons,List.all_nil,Bool.and_true]
 constructor
 · rintro ⟨⟨a,b0,b1,b2,b3⟩,c⟩
   exact ⟨a,of4 ⟨b0,b1,b2,b3⟩,c⟩
 · rintro ⟨a,b,c⟩
   obtain ⟨b0,b1,b2,b3⟩:=Z7E b
   exact ⟨⟨a,b0,b1,b2,b3⟩,c⟩
theorem crt_ok {c:Crt}:c.check=0↔c.ok:=by
 constructor
 · intro h
   unfold Crt.check at h
   cases h1:decide (6<c.hs.length)<;>rw [h1] at h
   case true=>cases h
   cases h2:!(inb c.full 0 10000)||!(inb c.empty 0 10000)<;>rw [h2] at h
   case true=>cases h
   cases h3:c.hs.all Hnd.fine<;>rw [h3] at h
   case false=>cases h
   cases h4:c.hs.all fun h=>inb h.tot 10 200<;>rw [h4] at h
   case false=>cases h
   simp only [decide_eq_false_iff_not] at h1
   simp only [inb,Bool.or_eq_false_iff,Bool.not_eq_false',Bool.and_eq_true,decide_eq_true_eq] at h2
   exact ⟨by omega,h2.1,h2.2,fun x hx=>hnd_ok.1 ⟨List.all_eq_true.1 h3 x hx,List.all_eq_true.1 h4 x hx⟩⟩
 · intro h
   unfold Crt.check
   have e1:=h.many
   have e2:(!(inb c.full 0 10000)||!(inb c.empty 0 10000))=false:=by
     have:=h.full;have:=h.empty
     simp only [inb,Bool.or_eq_false_iff,Bool.not_eq_false',Bool.and_eq_true,decide_eq_true_eq];omega
   have e3:c.hs.all Hnd.fine=true:=List.all_eq_true.2 fun x hx=>(hnd_ok.2 (h.hs x hx)).1
   have e4:(c.hs.all fun h=>inb h.tot 10 200)=true:=List.all_eq_true.2 fun x hx=>(hnd_ok.2 (h.hs x hx)).2
   rw [decide_eq_false (by omega),e2,e3,e4];rfl
def ZfW (miss:Int) (h:Hnd) (k:Nat):Int×Int:=(max 0 ((40*(nn h.gs k-miss)+h.tot-1).tdiv h.tot),min 40 ((40*(nn h.gs k+miss)).tdiv h.tot))
def Zk8 (miss:Int) (h:Hnd) (k:Nat) (x:Int):Bool:=decide (x*h.tot-40*nn h.gs k≤40*miss)&&decide (-(x*h.tot-40*nn h.gs k)≤40*miss)
theorem Zdt {miss:Int} {h:Hnd} (hm:0≤miss) (hh:h.ok) {k:Nat} (hk:k<4) {x:Int} (hx:0≤x∧x≤40):((ZfW miss h k).1≤x∧x≤(ZfW miss h k).2)↔Zk8 miss h k x=true:=by
 have ht:=hh.tot
 have hg:=hh.at_ k hk
 generalize hn:h.tot=n at *
 generalize hgr:nn h.gs k=y at *
 simp only [ZfW,Zk8,hn,hgr,Bool.and_eq_true,decide_eq_true_eq]
 have e2:(40*(y+miss)).tdiv n=(40*(y+miss)) / n:=Int.tdiv_eq_ediv_of_nonneg (by omega)
 have h2:x≤(40*(y+miss)) / n↔x*n≤40*(y+miss):=Int.le_ediv_iff_mul_le (by omega)
 have h1:(40*(y-miss)+n-1).tdiv n≤x↔40*(y-miss)≤x*n:=by
   by_cases h0:0≤40*(y-miss)+n-1
   · rw [Int.tdiv_eq_ediv_of_nonneg h0]
     have h3:(40*(y-miss)+n-1) / n<x+1↔40*(y-miss)+n-1<(x+1)*n:=Int.ediv_lt_iff_lt_mul (by omega)
     rw [Int.add_mul,Int.one_mul] at h3
     omega
   · have h3:(40*(y-miss)+n-1).tdiv n≤0:=by
       have h4:(40*(y-miss)+n-1).tdiv n = -((-(40*(y-miss)+n-1)).tdiv n):=by rw [Int.neg_tdiv];omega
       have h5:0≤(-(40*(y-miss)+n-1)).tdiv n:=Int.tdiv_nonneg (by omega) (by omega)
       omega
     have h6:0≤x*n:=Int.mul_nonneg hx.1 (by omega)
     omega
 rw [e2]
 omega
def Zb6 (miss:Int) (h:Hnd) (m:Mix):Bool:=(List.range 4).all fun k=>Zk8 miss h k (nn m k)
def Z0r (miss:Int) (hs:List Hnd) (f:Nat→Bool) (k:Nat):Nat→Int×Int
 | 0=>(0,40)
 | n+1=>match hs[n]? with
   | some h=>bif f n then met (Z0r miss hs f k n).1 (Z0r miss hs f k n).2 (ZfW miss h k).1 (ZfW miss h k).2 else Z0r miss hs f k n
   | none=>Z0r miss hs f k n
def Z4t (miss:Int) (hs:List Hnd) (f:Nat→Bool) (k:Nat):Int×Int:=Z0r miss hs f k hs.length
def Z5T (miss:Int) (hs:List Hnd) (f:Nat→Bool):Box:=[(Z4t miss hs f 0).1,(Z4t miss hs f 0).2,(Z4t miss hs f 1).1,(Z4t miss hs f 1).2,(Z4t miss hs f 2).1,(Z4t miss hs f 2).2,(Z4t miss hs f 3).1,(Z4t miss hs f 3).2]
theorem ZbJ (miss:Int) (hs:List Hnd) (f:Nat→Bool) {k:Nat} (hk:k<4):bl (Z5T miss hs f) k=(Z4t miss hs f k).1∧bh (Z5T miss hs f) k=(Z4t miss hs f k).2:=by
 rcases lt4 hk with rfl | rfl | rfl | rfl<;>exact ⟨rfl,rfl⟩
theorem ZaD {miss:Int} (hs:List Hnd) (f:Nat→Bool) (k:Nat):∀ n,((Z0r miss hs f k n).1=1∧(Z0r miss hs f k n).2=0)∨(0≤(Z0r miss hs f k n).1∧(Z0r miss hs f k n).1≤(Z0r miss hs f k n).2∧(Z0r miss hs f k n).2≤40)
 | 0=>.inr (by simp [Z0r])
 | n+1=>by
   have ih:=ZaD (miss:=miss) hs f k n
   unfold Z0r
   cases hs[n]? with
   | none=>exact ih
   | some h=>cases f n with
     | false=>exact ih
     | true=>exact Zhr ih
theorem Z6m (miss:Int) (hs:List Hnd) (f:Nat→Bool):Bok (Z5T miss hs f):=⟨rfl,fun k hk=>by
 obtain ⟨e1,e2⟩:=ZbJ miss hs f hk
 rw [e1,e2];exact ZaD hs f k _⟩
theorem Z8m {miss:Int} (hm:0≤miss) {hs:List Hnd} (hh:∀ h∈hs,h.ok) (f:Nat→Bool) {k:Nat} (hk:k<4) (x:Int):∀ n,((Z0r miss hs f k n).1≤x∧x≤(Z0r miss hs f k n).2)↔((0≤x∧x≤40)∧∀ i h,i<n→hs[i]?=some h→f i=true→Zk8 miss h k x=true)
 | 0=>by simp [Z0r]
 | n+1=>by
   have ih:=Z8m hm hh f hk x n
   unfold Z0r
   cases hn:hs[n]? with
   | none =>
     simp only
     rw [ih]
     exact ⟨fun ⟨a,b⟩=>⟨a,fun i h hi hg hf=>by
       rcases Nat.lt_or_ge i n with h1 | h1
       · exact b i h h1 hg hf
       · obtain rfl:i=n:=by omega
         rw [hn] at hg;cases hg⟩,fun ⟨a,b⟩=>⟨a,fun i h hi=>b i h (by omega)⟩⟩
   | some y =>
     simp only
     cases hf:f n with
     | false =>
       simp only [cond_false]
       rw [ih]
       exact ⟨fun ⟨a,b⟩=>⟨a,fun i h hi hg hff=>by
         rcases Nat.lt_or_ge i n with h1 | h1
         · exact b i h h1 hg hff
         · obtain rfl:i=n:=by omega
           rw [hf] at hff;cases hff⟩,fun ⟨a,b⟩=>⟨a,fun i h hi=>b i h (by omega)⟩⟩
     | true =>
       simp only [cond_true]
       rw [met_iff,ih]
       constructor
       · rintro ⟨⟨a,b⟩,c⟩
         refine ⟨a,fun i h hi hg hff=>?_⟩
         rcases Nat.lt_or_ge i n with h1 | h1
         · exact b i h h1 hg hff
         · obtain rfl:i=n:=by omega
           rw [hn] at hg;cases hg
           exact (Zdt hm (hh y (List.mem_of_getElem? hn)) hk a).1 c
       · rintro ⟨a,b⟩
         exact ⟨⟨a,fun i h hi=>b i h (by omega)⟩,(Zdt hm (hh y (List.mem_of_getElem? hn)) hk a).2 (b n y (by omega) hn hf)⟩
structure Mxt (m:Mix):Prop where
 len:m.length=4
 sum:Z3B m=40
 at_:∀ k<4,0≤nn m k∧nn m k≤40
theorem Zia {miss:Int} (hm:0≤miss) {hs:List Hnd} (hh:∀ h∈hs,h.ok) (f:Nat→Bool) (m:Mix):Mx (Z5T miss hs f) m↔(Mxt m∧∀ i h,hs[i]?=some h→f i=true→Zb6 miss h m=true):=by
 have key:∀ k<4,(bl (Z5T miss hs f) k≤nn m k∧nn m k≤bh (Z5T miss hs f) k)↔((0≤nn m k∧nn m k≤40)∧∀ i h,hs[i]?=some h→f i=true→Zk8 miss h k (nn m k)=true):=fun k hk=>by
   obtain ⟨e1,e2⟩:=ZbJ miss hs f hk
   rw [e1,e2]
   unfold Z4t
   rw [Z8m hm hh f hk]
   exact ⟨fun ⟨a,b⟩=>⟨a,fun i h hg hf=>b i h (List.getElem?_eq_some_iff.1 hg).1 hg hf⟩,fun ⟨a,b⟩=>⟨a,fun i h _=>b i h⟩⟩
 constructor
 · rintro ⟨h1,h2,h3⟩
   refine ⟨⟨h1,h2,fun k hk=>((key k hk).1 (h3 k hk)).1⟩,fun i h hg hf=>?_⟩
   unfold Zb6
   rw [List.all_eq_true]
   intro k hk
   exact ((key k (List.mem_range.1 hk)).1 (h3 k (List.mem_range.1 hk))).2 i h hg hf
 · rintro ⟨⟨h1,h2,h3⟩,h4⟩
   refine ⟨h1,h2,fun k hk=>(key k hk).2 ⟨h3 k hk,fun i h hg hf=>?_⟩⟩
   have:=h4 i h hg hf
   unfold Zb6 at this
   exact List.all_eq_true.1 this k (List.mem_range.2 hk)
def Grd.lo (x:Grd) (k:Nat):Int:=bif k == 0 then x.corn else 0
def Grd.hi (x:Grd) (k:Nat):Int:=bif k == 0 then 40 else nn x.ns k
def Grd.kept (x:Grd) (m:Mix):Bool:=(List.range 4).all fun k=>inb (nn m k) (x.lo k) (x.hi k)
def Zbb (b:Box) (x:Grd):Nat→Box
 | 0=>b
 | k+1=>Z2S (Zbb b x k) k (met (bl (Zbb b x k) k) (bh (Zbb b x k) k) (x.lo k) (x.hi k))
def ZfU (b:Box) (x:Grd):Box:=Zbb b x 4
def Z1V (x:Grd) (k:Nat):Int×Int:=bif k == 0 then (0,x.corn-1) else (nn x.ns k+1,40)
def Z8b (b:Box) (x:Grd) (k:Nat):Box:=Z2S b k (met (bl b k) (bh b k) (Z1V x k).1 (Z1V x k).2)
def Zbk:List Grd→Box→Option Box
 | [],b=>clo b
 | x::l,b=>match clo b with
   | none=>none
   | some c=>(((Zbk l (Z8b c x 0)).or (Zbk l (Z8b c x 1))).or (Zbk l (Z8b c x 2))).or (Zbk l (Z8b c x 3))
theorem Zag {b:Box} (hb:Bok b) (x:Grd):∀ k,k≤4→Bok (Zbb b x k)∧∀ m,Mx (Zbb b x k) m↔(Mx b m∧∀ j<k,x.lo j≤nn m j∧nn m j≤x.hi j)
 | 0,_=>⟨hb,fun m=>⟨fun h=>⟨h,fun j hj=>by omega⟩,fun h=>h.1⟩⟩
 | k+1,hk=>by
   obtain ⟨h1,h2⟩:=Zag hb x k (by omega)
   refine ⟨h1.set (by omega),fun m=>?_⟩
   show Mx (Z2S _ _ _) m↔_
   rw [Mx.set h1.len (by omega),h2]
   constructor
   · rintro ⟨⟨a,b⟩,c⟩
     refine ⟨a,fun j hj=>?_⟩
     rcases Nat.lt_or_ge j k with h3 | h3
     · exact b j h3
     · obtain rfl:j=k:=by omega
       exact c
   · rintro ⟨a,b⟩
     exact ⟨⟨a,fun j hj=>b j (by omega)⟩,b k (by omega)⟩
theorem Zai {x:Grd} {m:Mix}:x.kept m=true↔∀ k<4,x.lo k≤nn m k∧nn m k≤x.hi k:=by
 unfold Grd.kept
 rw [List.all_eq_true]
 simp only [List.mem_range,inb,Bool.and_eq_true,decide_eq_true_eq]
theorem ZfV {b:Box} (hb:Bok b) (x:Grd):Bok (ZfU b x)∧∀ m,Mx (ZfU b x) m↔(Mx b m∧x.kept m=true):=by
 obtain ⟨h1,h2⟩:=Zag hb x 4 (by omega)
 exact ⟨h1,fun m=>by rw [Zai];exact h2 m⟩
theorem ZfZ {b:Box} (hb:Bok b) (x:Grd) {k:Nat} (hk:k<4):Bok (Z8b b x k)∧∀ m,Mx (Z8b b x k) m↔(Mx b m∧(Z1V x k).1≤nn m k∧nn m k≤(Z1V x k).2):=⟨hb.set hk,fun _=>Mx.set hb.len hk⟩
theorem Mx.bd {b:Box} (hb:Bok b) {m:Mix} (h:Mx b m):Mxt m:=⟨h.len,h.sum,fun k hk=>by
 have h1:=h.at_ k hk
 have h2:=hb.at_ k hk
 omega⟩
theorem Z8c {x:Grd} {m:Mix} (hm:Mxt m):(∃ k<4,(Z1V x k).1≤nn m k∧nn m k≤(Z1V x k).2)↔x.kept m=false:=by
 rw [← Bool.not_eq_true,Zai]
 obtain ⟨a0,a1,a2,a3⟩:=Z7E hm.at_
 constructor
 · rintro ⟨k,hk,h⟩ h2
   have h3:=h2 k hk
   rcases lt4 hk with rfl | rfl | rfl | rfl<;>simp [Z1V,Grd.lo,Grd.hi] at h h3<;>omega
 · intro h
   false_or_by_contra
   rename_i h2
   refine h (of4 ⟨?_,?_,?_,?_⟩)
   · have:¬ ((Z1V x 0).1≤nn m 0∧nn m 0≤(Z1V x 0).2):=fun h3=>h2 ⟨0,by omega,h3⟩
     simp [Z1V,Grd.lo,Grd.hi] at this ⊢;omega
   · have:¬ ((Z1V x 1).1≤nn m 1∧nn m 1≤(Z1V x 1).2):=fun h3=>h2 ⟨1,by omega,h3⟩
     simp [Z1V,Grd.lo,Grd.hi] at this ⊢;omega
   · have:¬ ((Z1V x 2).1≤nn m 2∧nn m 2≤(Z1V x 2).2):=fun h3=>h2 ⟨2,by omega,h3⟩
     simp [Z1V,Grd.lo,Grd.hi] at this ⊢;omega
   · have:¬ ((Z1V x 3).1≤nn m 3∧nn m 3≤(Z1V x 3).2):=fun h3=>h2 ⟨3,by omega,h3⟩
     simp [Z1V,Grd.lo,Grd.hi] at this ⊢;omega
theorem Z9l:∀ (l:List Grd) {b:Box},Bok b→(∀ c,Zbk l b=some c→Tight c∧∀ m,Mx c m→Mx b m∧∀ x∈l,x.kept m=false)∧(Zbk l b=none→∀ m,Mx b m→∃ x∈l,x.kept m=true)
 | [],b,hb=>⟨fun c hc=>⟨(Z3k hb hc).1,fun m hm=>⟨((Z3k hb hc).2 m).1 hm,fun x hx=>by cases hx⟩⟩,fun h m hm=>absurd hm (Z6y hb h m)⟩
 | x::l,b,hb=>by
   unfold Zbk
   cases hc:clo b with
   | none=>exact ⟨(fun c h=>by cases h),fun _ m hm=>absurd hm (Z6y hb hc m)⟩
   | some c =>
     obtain ⟨ht,hm⟩:=Z3k hb hc
     have hk:=fun k (hk:k<4)=>ZfZ ht.ok x hk
     have ih:=fun k (h4:k<4)=>Z9l l (hk k h4).1
     simp only
     constructor
     · intro d hd
       have:∃ k,k<4∧Zbk l (Z8b c x k)=some d:=by
         simp only [Option.or_eq_some_iff] at hd
         rcases hd with ((h | ⟨_,h⟩) | ⟨_,h⟩) | ⟨_,h⟩
         · exact ⟨0,by omega,h⟩
         · exact ⟨1,by omega,h⟩
         · exact ⟨2,by omega,h⟩
         · exact ⟨3,by omega,h⟩
       obtain ⟨k,h4,h⟩:=this
       obtain ⟨h5,h6⟩:=(ih k h4).1 d h
       refine ⟨h5,fun m hmd=>?_⟩
       obtain ⟨h7,h8⟩:=h6 m hmd
       obtain ⟨h9,h10⟩:=((hk k h4).2 m).1 h7
       refine ⟨(hm m).1 h9,fun y hy=>?_⟩
       rcases List.mem_cons.1 hy with rfl | hy
       · exact (Z8c (h9.bd ht.ok)).1 ⟨k,h4,h10⟩
       · exact h8 y hy
     · intro hn m hmb
       have hmc:=(hm m).2 hmb
       simp only [Option.or_eq_none_iff] at hn
       obtain ⟨⟨⟨n0,n1⟩,n2⟩,n3⟩:=hn
       have hn:∀ k<4,Zbk l (Z8b c x k)=none:=of4 ⟨n0,n1,n2,n3⟩
       cases hx:x.kept m with
       | true=>exact ⟨x,by simp,hx⟩
       | false =>
         obtain ⟨k,h4,h5⟩:=(Z8c (hmc.bd ht.ok)).2 hx
         obtain ⟨y,hy,hy2⟩:=(ih k h4).2 (hn k h4) m (((hk k h4).2 m).2 ⟨hmc,h5⟩)
         exact ⟨y,by simp [hy],hy2⟩
def Zde (l:List Grd) (m:Mix):Int:=match l.findIdx? fun x=>x.kept m with
 | some i=>i
 | none => -1
def Z8w (l:List Grd) (b:Box) (gr:Int):Option Box:=bif decide (gr = -1) then Zbk l b else match l[gr.toNat]? with
 | some x=>Zbk (l.take gr.toNat) (ZfU b x)
 | none=>none
def Zix (l:List Grd) (b:Box):List Int:=(((List.range l.length).filter fun (i:Nat)=>(Z8w l b (i:Nat)).isSome).map fun (i:Nat)=>(i:Int))++bif (Z8w l b (-1)).isSome then [-1] else []
theorem hasG_none {l:List Grd} {m:Mix}:Zde l m = -1↔∀ x∈l,x.kept m=false:=by
 unfold Zde
 cases h:l.findIdx? fun x=>x.kept m with
 | none=>simpa using h
 | some i =>
   obtain ⟨hi,h1,_⟩:=List.findIdx?_eq_some_iff_getElem.1 h
   constructor
   · intro h2;simp only at h2;omega
   · intro h2;rw [h2 _ (List.getElem_mem hi)] at h1;cases h1
theorem Zdf {l:List Grd} {m:Mix} {i:Nat} {x:Grd} (hx:l[i]?=some x):Zde l m=i↔(x.kept m=true∧∀ y∈l.take i,y.kept m=false):=by
 have hi:=(List.getElem?_eq_some_iff.1 hx).1
 unfold Zde
 cases h:l.findIdx? fun x=>x.kept m with
 | none =>
   have h1:=List.findIdx?_eq_none_iff.1 h
   constructor
   · intro h2;simp only at h2;omega
   · rintro ⟨h2,_⟩;rw [h1 x (List.mem_of_getElem? hx)] at h2;cases h2
 | some j =>
   obtain ⟨hj,h1,h2⟩:=List.findIdx?_eq_some_iff_getElem.1 h
   have hxe:l[i]=x:=by rw [List.getElem?_eq_getElem hi] at hx;exact Option.some.inj hx
   constructor
   · intro h3
     obtain rfl:j=i:=by simp only at h3;omega
     refine ⟨by rw [← hxe];exact h1,fun y hy=>?_⟩
     obtain ⟨k,hk,rfl⟩:=List.getElem_of_mem hy
     rw [List.length_take] at hk
     rw [List.getElem_take]
     simpa using h2 k (by omega)
   · rintro ⟨h3,h4⟩
     show (j:Int)=i
     rcases Nat.lt_trichotomy i j with h5 | h5 | h5
     · have:=h2 i h5
       rw [hxe,h3] at this;simp at this
     · omega
     · have:=h4 (l[j]) (by rw [List.mem_take_iff_getElem];exact ⟨j,by omega,rfl⟩)
       rw [this] at h1;cases h1
theorem Zdg (l:List Grd) (m:Mix):Zde l m = -1∨∃ i x,l[i]?=some x∧Zde l m=(i:Nat):=by
 unfold Zde
 cases h:l.findIdx? fun x=>x.kept m with
 | none=>exact .inl rfl
 | some i =>
   obtain ⟨hi,_⟩:=List.findIdx?_eq_some_iff_getElem.1 h
   exact .inr ⟨i,l[i],List.getElem?_eq_getElem hi,rfl⟩
theorem ZnL {l:List Grd} {b:Box} (hb:Bok b) {gr:Int} (hg:gr = -1∨∃ i x,l[i]?=some x∧gr=(i:Nat)):(∀ c,Z8w l b gr=some c→Mx b (Znp c)∧Zde l (Znp c)=gr∧Tight c)∧(Z8w l b gr=none→∀ m,Mx b m→Zde l m≠gr):=by
 rcases hg with rfl | ⟨i,x,hx,rfl⟩
 · have h:=Z9l l hb
   have e:Z8w l b (-1)=Zbk l b:=rfl
   rw [e]
   refine ⟨fun c hc=>?_,fun hn m hm=>?_⟩
   · obtain ⟨h1,h2⟩:=h.1 c hc
     obtain ⟨h3,h4⟩:=h2 _ (ZdE h1)
     exact ⟨h3,hasG_none.2 h4,h1⟩
   · obtain ⟨x,hx,hk⟩:=h.2 hn m hm
     intro h2
     rw [hasG_none.1 h2 x hx] at hk;cases hk
 · have e:Z8w l b ((i:Nat):Int)=Zbk (l.take i) (ZfU b x):=by
     unfold Z8w
     rw [decide_eq_false (by omega),Int.toNat_natCast,hx];rfl
   obtain ⟨k1,k2⟩:=ZfV hb x
   have h:=Z9l (l.take i) k1
   rw [e]
   refine ⟨fun c hc=>?_,fun hn m hm=>?_⟩
   · obtain ⟨h1,h2⟩:=h.1 c hc
     obtain ⟨h3,h4⟩:=h2 _ (ZdE h1)
     obtain ⟨h5,h6⟩:=(k2 _).1 h3
     exact ⟨h5,(Zdf hx).2 ⟨h6,h4⟩,h1⟩
   · intro h2
     obtain ⟨h3,h4⟩:=(Zdf hx).1 h2
     obtain ⟨y,hy,hk⟩:=h.2 hn m ((k2 m).2 ⟨hm,h3⟩)
     rw [h4 y hy] at hk;cases hk
theorem Zct {l:List Grd} {b:Box} (hb:Bok b) {gr:Int}:gr∈Zix l b↔∃ m,Mx b m∧Zde l m=gr:=by
 have key:∀ gr:Int,(gr = -1∨∃ i x,l[i]?=some x∧gr=(i:Nat))→((Z8w l b gr).isSome=true↔∃ m,Mx b m∧Zde l m=gr):=fun gr hg=>by
   obtain ⟨h1,h2⟩:=ZnL hb hg
   cases h:Z8w l b gr with
   | none=>exact ⟨fun h3=>by simp at h3,fun ⟨m,hm,hh⟩=>absurd hh (h2 h m hm)⟩
   | some c=>obtain ⟨h3,h4,_⟩:=h1 c h;exact ⟨fun _=>⟨_,h3,h4⟩,fun _=>rfl⟩
 have hmem:gr∈Zix l b↔(gr = -1∨∃ i x,l[i]?=some x∧gr=(i:Nat))∧(Z8w l b gr).isSome=true:=by
   unfold Zix
   rw [List.mem_append,List.mem_map]
   constructor
   · rintro (⟨i,hi,rfl⟩ | h)
     · obtain ⟨h1,h2⟩:=List.mem_filter.1 hi
       exact ⟨.inr ⟨i,l[i]'(List.mem_range.1 h1),List.getElem?_eq_getElem _,rfl⟩,h2⟩
     · cases hs:(Z8w l b (-1)).isSome with
       | false=>rw [hs] at h;simp at h
       | true=>rw [hs] at h;simp at h;subst h;exact ⟨.inl rfl,hs⟩
   · rintro ⟨rfl | ⟨i,x,hx,rfl⟩,h⟩
     · right;rw [h];simp
     · left;exact ⟨i,List.mem_filter.2 ⟨List.mem_range.2 (List.getElem?_eq_some_iff.1 hx).1,h⟩,rfl⟩
 rw [hmem]
 constructor
 · rintro ⟨h1,h2⟩;exact (key gr h1).1 h2
 · rintro ⟨m,hm,rfl⟩;exact ⟨Zdg l m,(key _ (Zdg l m)).2 ⟨m,hm,rfl⟩⟩
open Go
theorem ZbB:Z0W Tryz.prog 149=some 5:=by kernel_rfl
theorem Z5I:Z0W Tryz.prog 69=some 4:=by kernel_rfl
theorem ZeO:Z0W Tryz.prog 79=some 5:=by kernel_rfl
theorem Z4y:arN Tryz.prog 69=some (4,1):=by kernel_rfl
theorem ZgJ:cal Tryz.prog 107=true:=by kernel_rfl
theorem ZkT:cal Tryz.prog 108=true:=by kernel_rfl
theorem ZgK:cal Tryz.prog 109=true:=by kernel_rfl
theorem ZkU:cal Tryz.prog 110=true:=by kernel_rfl
theorem ZkV:cal Tryz.prog 111=true:=by kernel_rfl
theorem ZgL:cal Tryz.prog 112=true:=by kernel_rfl
theorem Z4c:cal Tryz.prog 148=true:=by kernel_rfl
theorem Zlo:cal Tryz.prog 172=true:=by kernel_rfl
theorem Zlp:cal Tryz.prog 173=true:=by kernel_rfl
theorem Zlq:cal Tryz.prog 174=true:=by kernel_rfl
theorem Zlr:cal Tryz.prog 175=true:=by kernel_rfl
theorem Zls:cal Tryz.prog 176=true:=by kernel_rfl
theorem Zlt:cal Tryz.prog 177=true:=by kernel_rfl
theorem Zlu:cal Tryz.prog 178=true:=by kernel_rfl
theorem Zlv:cal Tryz.prog 179=true:=by kernel_rfl
theorem Zlw:cal Tryz.prog 180=true:=by kernel_rfl
theorem Z3j:cal Tryz.prog 224=true:=by kernel_rfl
theorem Zm7:cal Tryz.prog 240=true:=by kernel_rfl
theorem Zm8:cal Tryz.prog 241=true:=by kernel_rfl
theorem Zm9:cal Tryz.prog 242=true:=by kernel_rfl
theorem Zmw:cal Tryz.prog 272=true:=by kernel_rfl
theorem Z55:cal Tryz.prog 49=true:=by kernel_rfl
theorem Z0D:elN Tryz.prog 23=some 1:=by kernel_rfl
theorem Zpr:elN Tryz.prog 63=some 5:=by kernel_rfl
theorem Zob:elN Tryz.prog 66=some 5:=by kernel_rfl
theorem ZiT:ZG Tryz.prog 149 0=some 0:=by kernel_rfl
theorem ZiU:ZG Tryz.prog 149 1=some 1:=by kernel_rfl
theorem ZiV:ZG Tryz.prog 149 2=some 2:=by kernel_rfl
theorem ZiW:ZG Tryz.prog 149 3=some 3:=by kernel_rfl
theorem Z8V:ZG Tryz.prog 149 4=some 4:=by kernel_rfl
theorem Zd2:ZG Tryz.prog 65 0=some 0:=by kernel_rfl
theorem Z80:ZG Tryz.prog 65 1=some 1:=by kernel_rfl
theorem Z81:ZG Tryz.prog 65 2=some 2:=by kernel_rfl
theorem Zd3:ZG Tryz.prog 68 0=some 0:=by kernel_rfl
theorem Zd4:ZG Tryz.prog 68 1=some 1:=by kernel_rfl
theorem Z0U:ZG Tryz.prog 68 2=some 2:=by kernel_rfl
theorem Zn7:ZG Tryz.prog 79 0=some 0:=by kernel_rfl
theorem Z1B:ZG Tryz.prog 79 1=some 1:=by kernel_rfl
theorem ZO:Z2o Tryz.prog 23=true:=by kernel_rfl
theorem Zj8:Z2o Tryz.prog 63=true:=by kernel_rfl
theorem Z91:Z2o Tryz.prog 66=true:=by kernel_rfl
theorem Z1G:Z0c Tryz.prog 100=true:=by kernel_rfl
theorem ZpK:Z0c Tryz.prog 225=true:=by kernel_rfl
theorem ZpO:Z0c Tryz.prog 293=true:=by kernel_rfl
theorem sc3:Z0c Tryz.prog 3=true:=by kernel_rfl
theorem Zgo:Z0c Tryz.prog 63=true:=by kernel_rfl
theorem Z7A:Z0c Tryz.prog 66=true:=by kernel_rfl
theorem Z1H:slE Tryz.prog 23=some (3,1):=by kernel_rfl
theorem zl3:Zp Tryz.prog 3=some ([.int .i64 0]):=by kernel_rfl
def grow (x:Grd):List Value:=[.int .i64 x.corn,.int .i64 x.chaff,.int .i64 x.stones,.int .i64 x.damp,.int .i64 x.price]
def grows (l:List Grd):List (List Value):=l.map grow
def Z2d (h:Hnd):List Value:=[.int .i64 h.spot,.int .i64 h.a,.int .i64 h.b,.int .i64 h.c,.int .i64 h.d]
def hrows (l:List Hnd):List (List Value):=l.map Z2d
def gtl (g:Gat) (sl:Value):List Value:=[.int .i64 g.err,.int .i64 g.miss,sl]
def Gat.v (g:Gat) (sl:Value):Value:=.agg (gtl g sl).toArray
def Gat.sl (g:Gat) (a:Option Addr) (c:Nat):Value:=.slice a g.grs.length c
def ctl (c:Crt) (sl:Value):List Value:=[.int .i64 c.full,.int .i64 c.empty,sl]
def Crt.v (c:Crt) (sl:Value):Value:=.agg (ctl c sl).toArray
def Crt.sl (c:Crt) (a:Option Addr) (cc:Nat):Value:=.slice a c.hs.length cc
def Zgu (g:Gat) (c:Crt) (sg sh:Value):List Value:=[.int .i64 c.full,.int .i64 c.empty,sh,.int .i64 g.err,.int .i64 g.miss,sg]
def Grd.v (x:Grd):Value:=.agg (grow x).toArray
def Hnd.v (h:Hnd):Value:=.agg (Z2d h).toArray
def spv (l h:Int):Value:=.agg #[.int .i64 l,.int .i64 h]
def bxv (b:Box):Value:=.agg (Ze b).toArray
abbrev irows (l:List Int):List (List Value):=l.map fun z=>[.int .i64 z]
theorem Z25 {l:List Grd} {k:Nat} {x:Grd} (h:l[k]?=some x):(grows l)[k]?=some (grow x):=by simp [grows,h]
theorem Znc {l:List Hnd} {k:Nat} {x:Hnd} (h:l[k]?=some x):(hrows l)[k]?=some (Z2d x):=by simp [hrows,h]
theorem ints_length (l:List Int):(Ze l).length=l.length:=by simp [Ze]
theorem St.rows1 {b e:Nat} {h:Hnd} {H:Z6} {R:Z5} {w:World} (hs:St ((b,cel e (Z2d h))::H) R w):St H (RowsA (some ⟨b,1,none⟩) 1 (irows h.gs)::R) w:=by
 have h1:=(St.freeze hs).also (f:=RowsA (some ⟨b,1,none⟩) 1 (irows h.gs)) (fun w' hw=>by
   have hb:=hw (fun w=>w.heap[b]?=some (cel e (Z2d h))) (by simp)
   have one:∀ (i:Nat) (z:Int),(Z2d h)[1+i]?=some (.int .i64 z)→∀ j x,[Value.int .i64 z][j]?=some x→w'.cell? ⟨b,1+i*1+j,none⟩=some x:=fun i z hz j x hx=>by
     match j,hx with
     | 0,hx=>rw [Z16 hb,Nat.mul_one,Nat.add_zero];simp only [List.getElem?_cons_zero] at hx;rw [← hx];simpa using hz
   intro i row hi
   match i,hi with
   | 0,hi=>cases hi;exact ⟨rfl,b,1,rfl,one 0 h.a rfl⟩
   | 1,hi=>cases hi;exact ⟨rfl,b,1,rfl,one 1 h.b rfl⟩
   | 2,hi=>cases hi;exact ⟨rfl,b,1,rfl,one 2 h.c rfl⟩
   | 3,hi=>cases hi;exact ⟨rfl,b,1,rfl,one 3 h.d rfl⟩
   | i+4,hi=>cases hi)
 exact h1.facts (fun g hg=>by rcases List.mem_cons.1 hg with h2 | h2<;>simp [h2])
theorem Zo {α:Type} {xs:List α} {p:α→Bool} {k:Nat} {x:α} (hx:xs[k]?=some x) (hn:∀ y∈xs.take k,p y=false) (h:p x=true):xs.findIdx? p=some k:=by
 induction xs generalizing k with
 | nil=>simp at hx
 | cons y ys ih =>
   cases k with
   | zero=>simp only [List.getElem?_cons_zero,Option.some.injEq] at hx;subst hx;simp [List.findIdx?_cons,h]
   | succ k =>
     have hy:=hn y (by simp)
     have:=ih (by simpa using hx) (fun z hz=>hn z (by simp [hz]))
     simp [List.findIdx?_cons,hy,this]
theorem Zm {α:Type} {xs:List α} {p:α→Bool} (hn:∀ y∈xs,p y=false):xs.findIdx? p=none:=by
 rw [List.findIdx?_eq_none_iff];exact hn
theorem ZB {α:Type} {xs:List α} {p:α→Bool} {k:Nat} {x:α} (hx:xs[k]?=some x) (hn:∀ y∈xs.take k,p y=false) (h:p x=false):∀ y∈xs.take (k+1),p y=false:=by
 intro y hy
 rw [List.take_add_one,hx] at hy
 rcases List.mem_append.1 hy with h1 | h1
 · exact hn y h1
 · simp only [Option.toList_some,List.mem_singleton] at h1;subst h1;exact h
theorem Z00 {α:Type} (xs:List α) (p:α→Bool):Value.bool (decide (0≤(match xs.findIdx? p with | some k=>(k:Int) | none => -1))) = .bool (xs.any p):=by
 congr 1
 cases h:xs.findIdx? p with
 | none =>
   have:=List.findIdx?_eq_none_iff.1 h
   have h2:xs.any p=false:=by simpa using this
   rw [h2];rfl
 | some k =>
   have h2:xs.any p=true:=by
     rw [← Bool.not_eq_false];intro h3
     have:xs.findIdx? p=none:=List.findIdx?_eq_none_iff.2 (by simpa using h3)
     rw [this] at h;cases h
   rw [h2];simp
theorem Zu {α:Type} (xs:List α) (p:α→Bool):Value.bool (!xs.any fun x=>!p x) = .bool (xs.all p):=by
 congr 1
 induction xs with
 | nil=>rfl
 | cons x xs ih=>simp [← ih]
theorem Zbd {l:List Grd} {k:Nat} {x y:Grd} (hx:l[k]?=some x) (hy:l[k+1]?=some y) (h:x.price<y.price):(List.range l.length).any (Z1C l)=true:=by
 rw [List.any_eq_true]
 refine ⟨k,List.mem_range.2 (List.getElem?_eq_some_iff.1 hx).1,?_⟩
 unfold Z1C
 rw [hx,hy];simpa using h
theorem Zf4 {l:List Grd} (h:∀ i,i+1<l.length→Z1C l i=false):(List.range l.length).any (Z1C l)=false:=by
 rw [List.any_eq_false]
 intro i _
 rw [Bool.not_eq_true]
 rcases Nat.lt_or_ge (i+1) l.length with h1 | h1
 · exact h i h1
 · unfold Z1C
   rw [List.getElem?_eq_none (l:=l) (i:=i+1) (by omega)]
   split<;>simp_all
theorem Z3K (n lo hi:Int) (H:Z6) (R:Z5) :
    FnV Tryz.prog 49 [.int .i64 n,.int .i64 lo,.int .i64 hi] H R (.bool (inb n lo hi)):=by
 refine Zc Tryz.func49 rfl Tryz.ntmps49 rfl ?_
 refine sqt 1 rfl (pur 1 rfl (sqt 9 rfl (pur 4 rfl ?_)))
 refine Zq 10 rfl ?_ ?_<;>intro g10
 refine pur 5 rfl (Z4 ?_)
 exact rtA rfl rfl rfl ⟨by simp_all only [ZC,inb,ge_iff_le,Bool.true_and,Bool.false_and,cond_true,cond_false],rfl,rfl⟩ drp
 refine pur 5 rfl (Z4 ?_)
 exact rtA rfl rfl rfl ⟨by simp_all only [ZC,inb,ge_iff_le,Bool.true_and,Bool.false_and,cond_true,cond_false],rfl,rfl⟩ drp
theorem Z0s (xs:List Int) (a:Option Addr) (c g:Nat) (fst cap:List Value) (p:Int→Bool) (hg:cal Tryz.prog g=true) (hl:xs.length≤9223372036854775807) (H:Z6) (R:Z5) [hR:MemRows a 1 (irows xs) R] (hp:∀ x,x∈xs→FnV Tryz.prog g (fst++[.int .i64 x]++cap) H R (.bool (p x))) :
    FnV Tryz.prog 224 [.slice a xs.length c,.func (.func g) fst.toArray cap.toArray] H R (.int .i64 (match xs.findIdx? p with | some k=>(k:Int) | none => -1)):=by
 refine Zc Tryz.func224 rfl Tryz.ntmps224 rfl ?_
 refine sqt 1 rfl (pur 1 rfl (Z0 (sqt 3 rfl (pur 1 rfl (sp rfl (PE.lenSl ZO rfl) rfl (pur 1 rfl (Z2 ?_)))))))
 refine Zd (ι:={k:Nat // k≤xs.length∧∀ x∈xs.take k,p x=false}) (fun k=>⟨[(0,.slice a xs.length c),(1,.func (.func g) fst.toArray cap.toArray),(7,.int .i64 xs.length),(8,.int .i64 k.1)],H,R⟩) (fun k=>xs.length-k.1) ⟨0,by simp⟩ ?_ (fun k=>?_)
 exact Zf idH
 obtain ⟨k,hk,hn⟩:=k
 dsimp only
 refine sqt 1 rfl (pur 1 rfl (Z0 ?_))
 refine Z1 rfl ?_ ?_<;>intro hc0
 simp only [cS] at hc0
 obtain ⟨x,hx⟩:∃ x,xs[k]?=some x:=⟨_,List.getElem?_eq_getElem (by omega)⟩
 have hxm:=List.mem_of_getElem? hx
 refine Zj (a:=a) (sz:=1) (rows:=irows xs) (by cases xs<;>simp_all [irows]) (fun b off he=>?_)
 subst he
 refine Z3 (Z0 (Z2 (sqt 2 rfl (pur 2 rfl (sqt 6 rfl (pur 3 rfl (sp rfl (PE.indexAddr Z0D rfl rfl (by omega) (by omega)) rfl (spL rfl rfl (lf0 sc3 (by simp [irows,hx];rfl) rfl) rfl ?_))))))))
 refine Z2c rfl rfl (hg) rfl rfl (hp x hxm) ?_
 refine Z1 rfl ?_ ?_<;>intro hc1
 refine sqt 2 rfl (pur 2 rfl (Z4 ?_))
 first | (exact rtA rfl rfl rfl ⟨by rw [Zo hx hn hc1];rfl,rfl,rfl⟩ idH) | (exact rtA rfl rfl rfl ⟨by rw [Zm (by simpa using hn)];rfl,rfl,rfl⟩ idH)
 refine Z3 (sqr 2 rfl (sp rfl (PE.add rfl rfl (by omega)) rfl (pur 1 rfl ?_)))
 exact Zb ⟨k+1,by omega,ZB hx hn hc1⟩ idH
 simp only [cS] at hc0
 obtain rfl:k=xs.length:=by omega
 refine Z7 (Z8 (Z8 (Zi (sqt 1 rfl (pur 1 rfl (Z4 ?_))))))
 first | (exact rtA rfl rfl rfl ⟨by rw [Zo hx hn hc1];rfl,rfl,rfl⟩ idH) | (exact rtA rfl rfl rfl ⟨by rw [Zm (by simpa using hn)];rfl,rfl,rfl⟩ idH)
theorem Z0M (xs:List Int) (a:Option Addr) (c g:Nat) (fst cap:List Value) (p:Int→Bool) (hg:cal Tryz.prog g=true) (hl:xs.length≤9223372036854775807) (H:Z6) (R:Z5) [hR:MemRows a 1 (irows xs) R] (hp:∀ x,x∈xs→FnV Tryz.prog g (fst++[.int .i64 x]++cap) H R (.bool (p x))) :
    FnV Tryz.prog 148 [.slice a xs.length c,.func (.func g) fst.toArray cap.toArray] H R (.bool (xs.any p)):=by
 refine Zc Tryz.func148 rfl Tryz.ntmps148 rfl ?_
 refine sqt 1 rfl (pur 1 rfl (sqt 5 rfl (pur 2 rfl ?_)))
 refine clV rfl Z3j rfl rfl (Z0s xs a c g fst cap p hg hl _ _ hp) ?_
 refine pur 2 rfl (Z4 ?_)
 exact rtA rfl rfl rfl ⟨by simp only [ZC];exact Z00 _ _,rfl,rfl⟩ drp
theorem Z14 (x:Int) (g bf:Nat) (fst cap:List Value) (p:Bool) (hg:cal Tryz.prog g=true) (H:Z6) (R:Z5) [hM:Mem1 bf (cel 100 [.func (.func g) fst.toArray cap.toArray]) H] (hp:FnV Tryz.prog g (fst++[.int .i64 x]++cap) H R (.bool p)) :
    FnV Tryz.prog 180 [.int .i64 x,.pointer (some ⟨bf,0,none⟩)] H R (.bool !p):=by
 refine Zc Tryz.func180 rfl Tryz.ntmps180 rfl ?_
 refine sqt 1 rfl (pur 1 rfl (sqt 5 rfl (spL rfl rfl (lh Z1G rfl rfl) rfl (pur 1 rfl ?_))))
 refine Z2c rfl rfl (hg) rfl rfl (hp) ?_
 refine pur 2 rfl (Z4 ?_)
 exact rtA rfl rfl rfl ⟨rfl,rfl,rfl⟩ drp
theorem Z09 (xs:List Int) (a:Option Addr) (c g:Nat) (fst cap:List Value) (p:Int→Bool) (hg:cal Tryz.prog g=true) (hl:xs.length≤9223372036854775807) (H:Z6) (R:Z5) [hR:MemRows a 1 (irows xs) R] (hp:∀ b x,x∈xs→FnV Tryz.prog g (fst++[.int .i64 x]++cap) ((b,cel 100 [.func (.func g) fst.toArray cap.toArray])::H) R (.bool (p x))) :
    FnV Tryz.prog 109 [.slice a xs.length c,.func (.func g) fst.toArray cap.toArray] H R (.bool (xs.all p)):=by
 refine Zc Tryz.func109 rfl Tryz.ntmps109 rfl ?_
 refine sqt 2 rfl (bx rfl rfl rfl (fun b3=>pur 1 rfl (sqt 5 rfl (pur 1 rfl (sp rfl (PE.makeFunc rfl rfl) rfl ?_)))))
 refine clV rfl Z4c rfl rfl (Z0M xs a c 180 [] [_] (fun x=>!p x) Zlw hl _ _ (hp:=fun x hx=>Z14 x g _ fst cap (p x) hg _ _ (hp:=hp _ x hx))) ?_
 refine pur 2 rfl (Z4 ?_)
 exact rtA rfl rfl rfl ⟨by simp only [ZC];rw [Zu],rfl,rfl⟩ drp
theorem Zcb (xs:List Grd) (a:Option Addr) (c g:Nat) (fst cap:List Value) (p:Grd→Bool) (hg:cal Tryz.prog g=true) (hl:xs.length≤9223372036854775807) (H:Z6) (R:Z5) [hR:MemRows a 5 (grows xs) R] (hp:∀ x,x∈xs→FnV Tryz.prog g (fst++[.agg (grow x).toArray]++cap) H R (.bool (p x))) :
    FnV Tryz.prog 272 [.slice a xs.length c,.func (.func g) fst.toArray cap.toArray] H R (.int .i64 (match xs.findIdx? p with | some k=>(k:Int) | none => -1)):=by
 refine Zc Tryz.func272 rfl Tryz.ntmps272 rfl ?_
 refine sqt 1 rfl (pur 1 rfl (Z0 (sqt 3 rfl (pur 1 rfl (sp rfl (PE.lenSl Zj8 rfl) rfl (pur 1 rfl (Z2 ?_)))))))
 refine Zd (ι:={k:Nat // k≤xs.length∧∀ x∈xs.take k,p x=false}) (fun k=>⟨[(0,.slice a xs.length c),(1,.func (.func g) fst.toArray cap.toArray),(7,.int .i64 xs.length),(8,.int .i64 k.1)],H,R⟩) (fun k=>xs.length-k.1) ⟨0,by simp⟩ ?_ (fun k=>?_)
 exact Zf idH
 obtain ⟨k,hk,hn⟩:=k
 dsimp only
 refine sqt 1 rfl (pur 1 rfl (Z0 ?_))
 refine Z1 rfl ?_ ?_<;>intro hc0
 simp only [cS] at hc0
 obtain ⟨x,hx⟩:∃ x,xs[k]?=some x:=⟨_,List.getElem?_eq_getElem (by omega)⟩
 have hxm:=List.mem_of_getElem? hx
 refine Zj (a:=a) (sz:=5) (rows:=grows xs) (by cases xs<;>simp_all [grows]) (fun b off he=>?_)
 subst he
 refine Z3 (Z0 (Z2 (sqt 2 rfl (pur 2 rfl (sqt 6 rfl (pur 3 rfl (sp rfl (PE.indexAddr Zpr rfl rfl (by omega) (by omega)) rfl (spL rfl rfl (lfA ZbB (row:=grow x) (by simp [grows,hx]) rfl) rfl ?_))))))))
 refine Z2c rfl rfl (hg) rfl rfl (hp x hxm) ?_
 refine Z1 rfl ?_ ?_<;>intro hc1
 refine sqt 2 rfl (pur 2 rfl (Z4 ?_))
 first | (exact rtA rfl rfl rfl ⟨by rw [Zo hx hn hc1];rfl,rfl,rfl⟩ idH) | (exact rtA rfl rfl rfl ⟨by rw [Zm (by simpa using hn)];rfl,rfl,rfl⟩ idH)
 refine Z3 (sqr 2 rfl (sp rfl (PE.add rfl rfl (by omega)) rfl (pur 1 rfl ?_)))
 exact Zb ⟨k+1,by omega,ZB hx hn hc1⟩ idH
 simp only [cS] at hc0
 obtain rfl:k=xs.length:=by omega
 refine Z7 (Z8 (Z8 (Zi (sqt 1 rfl (pur 1 rfl (Z4 ?_))))))
 first | (exact rtA rfl rfl rfl ⟨by rw [Zo hx hn hc1];rfl,rfl,rfl⟩ idH) | (exact rtA rfl rfl rfl ⟨by rw [Zm (by simpa using hn)];rfl,rfl,rfl⟩ idH)
theorem Zc3 (xs:List Grd) (a:Option Addr) (c g:Nat) (fst cap:List Value) (p:Grd→Bool) (hg:cal Tryz.prog g=true) (hl:xs.length≤9223372036854775807) (H:Z6) (R:Z5) [hR:MemRows a 5 (grows xs) R] (hp:∀ x,x∈xs→FnV Tryz.prog g (fst++[.agg (grow x).toArray]++cap) H R (.bool (p x))) :
    FnV Tryz.prog 240 [.slice a xs.length c,.func (.func g) fst.toArray cap.toArray] H R (.bool (xs.any p)):=by
 refine Zc Tryz.func240 rfl Tryz.ntmps240 rfl ?_
 refine sqt 1 rfl (pur 1 rfl (sqt 5 rfl (pur 2 rfl ?_)))
 refine clV rfl Zmw rfl rfl (Zcb xs a c g fst cap p hg hl _ _ hp) ?_
 refine pur 2 rfl (Z4 ?_)
 exact rtA rfl rfl rfl ⟨by simp only [ZC];exact Z00 _ _,rfl,rfl⟩ drp
theorem ZbV (x:Grd) (g bf:Nat) (fst cap:List Value) (p:Bool) (hg:cal Tryz.prog g=true) (H:Z6) (R:Z5) [hM:Mem1 bf (cel 293 [.func (.func g) fst.toArray cap.toArray]) H] (hp:∀ b,FnV Tryz.prog g (fst++[.agg (grow x).toArray]++cap) ((b,cel 149 (grow x))::H) R (.bool p)) :
    FnV Tryz.prog 241 [.agg (grow x).toArray,.pointer (some ⟨bf,0,none⟩)] H R (.bool !p):=by
 refine Zc Tryz.func241 rfl Tryz.ntmps241 rfl ?_
 refine sqt 2 rfl (bx rfl rfl rfl (fun b2=>pur 1 rfl (sqt 5 rfl (spL rfl rfl (lh ZpO rfl rfl) rfl (spL rfl rfl (lhA [_,_,_,_,_] ZbB rfl rfl rfl) rfl ?_)))))
 refine Z2c rfl rfl (hg) rfl rfl (hp _) ?_
 refine pur 2 rfl (Z4 ?_)
 exact rtA rfl rfl rfl ⟨rfl,rfl,rfl⟩ drp
theorem Z8I (xs:List Grd) (a:Option Addr) (c g:Nat) (fst cap:List Value) (p:Grd→Bool) (hg:cal Tryz.prog g=true) (hl:xs.length≤9223372036854775807) (H:Z6) (R:Z5) [hR:MemRows a 5 (grows xs) R] (hp:∀ b b2 x,x∈xs→FnV Tryz.prog g (fst++[.agg (grow x).toArray]++cap) ((b2,cel 149 (grow x))::(b,cel 293 [.func (.func g) fst.toArray cap.toArray])::H) R (.bool (p x))) :
    FnV Tryz.prog 172 [.slice a xs.length c,.func (.func g) fst.toArray cap.toArray] H R (.bool (xs.all p)):=by
 refine Zc Tryz.func172 rfl Tryz.ntmps172 rfl ?_
 refine sqt 2 rfl (bx rfl rfl rfl (fun b3=>pur 1 rfl (sqt 5 rfl (pur 1 rfl (sp rfl (PE.makeFunc rfl rfl) rfl ?_)))))
 refine clV rfl Zm7 rfl rfl (Zc3 xs a c 241 [] [_] (fun x=>!p x) Zm8 hl _ _ (hp:=fun x hx=>ZbV x g _ fst cap (p x) hg _ _ (hp:=fun b=>hp _ _ x hx))) ?_
 refine pur 2 rfl (Z4 ?_)
 exact rtA rfl rfl rfl ⟨by simp only [ZC];rw [Zu],rfl,rfl⟩ drp
theorem Zcc (xs:List Hnd) (a:Option Addr) (c g:Nat) (fst cap:List Value) (p:Hnd→Bool) (hg:cal Tryz.prog g=true) (hl:xs.length≤9223372036854775807) (H:Z6) (R:Z5) [hR:MemRows a 5 (hrows xs) R] (hp:∀ x,x∈xs→FnV Tryz.prog g (fst++[.agg (Z2d x).toArray]++cap) H R (.bool (p x))) :
    FnV Tryz.prog 242 [.slice a xs.length c,.func (.func g) fst.toArray cap.toArray] H R (.int .i64 (match xs.findIdx? p with | some k=>(k:Int) | none => -1)):=by
 refine Zc Tryz.func242 rfl Tryz.ntmps242 rfl ?_
 refine sqt 1 rfl (pur 1 rfl (Z0 (sqt 3 rfl (pur 1 rfl (sp rfl (PE.lenSl Z91 rfl) rfl (pur 1 rfl (Z2 ?_)))))))
 refine Zd (ι:={k:Nat // k≤xs.length∧∀ x∈xs.take k,p x=false}) (fun k=>⟨[(0,.slice a xs.length c),(1,.func (.func g) fst.toArray cap.toArray),(7,.int .i64 xs.length),(8,.int .i64 k.1)],H,R⟩) (fun k=>xs.length-k.1) ⟨0,by simp⟩ ?_ (fun k=>?_)
 exact Zf idH
 obtain ⟨k,hk,hn⟩:=k
 dsimp only
 refine sqt 1 rfl (pur 1 rfl (Z0 ?_))
 refine Z1 rfl ?_ ?_<;>intro hc0
 simp only [cS] at hc0
 obtain ⟨x,hx⟩:∃ x,xs[k]?=some x:=⟨_,List.getElem?_eq_getElem (by omega)⟩
 have hxm:=List.mem_of_getElem? hx
 refine Zj (a:=a) (sz:=5) (rows:=hrows xs) (by cases xs<;>simp_all [hrows]) (fun b off he=>?_)
 subst he
 refine Z3 (Z0 (Z2 (sqt 2 rfl (pur 2 rfl (sqt 6 rfl (pur 3 rfl (sp rfl (PE.indexAddr Zob rfl rfl (by omega) (by omega)) rfl (spL rfl rfl (lfA ZeO (row:=Z2d x) (by simp [hrows,hx]) rfl) rfl ?_))))))))
 refine Z2c rfl rfl (hg) rfl rfl (hp x hxm) ?_
 refine Z1 rfl ?_ ?_<;>intro hc1
 refine sqt 2 rfl (pur 2 rfl (Z4 ?_))
 first | (exact rtA rfl rfl rfl ⟨by rw [Zo hx hn hc1];rfl,rfl,rfl⟩ idH) | (exact rtA rfl rfl rfl ⟨by rw [Zm (by simpa using hn)];rfl,rfl,rfl⟩ idH)
 refine Z3 (sqr 2 rfl (sp rfl (PE.add rfl rfl (by omega)) rfl (pur 1 rfl ?_)))
 exact Zb ⟨k+1,by omega,ZB hx hn hc1⟩ idH
 simp only [cS] at hc0
 obtain rfl:k=xs.length:=by omega
 refine Z7 (Z8 (Z8 (Zi (sqt 1 rfl (pur 1 rfl (Z4 ?_))))))
 first | (exact rtA rfl rfl rfl ⟨by rw [Zo hx hn hc1];rfl,rfl,rfl⟩ idH) | (exact rtA rfl rfl rfl ⟨by rw [Zm (by simpa using hn)];rfl,rfl,rfl⟩ idH)
theorem Zc4 (xs:List Hnd) (a:Option Addr) (c g:Nat) (fst cap:List Value) (p:Hnd→Bool) (hg:cal Tryz.prog g=true) (hl:xs.length≤9223372036854775807) (H:Z6) (R:Z5) [hR:MemRows a 5 (hrows xs) R] (hp:∀ x,x∈xs→FnV Tryz.prog g (fst++[.agg (Z2d x).toArray]++cap) H R (.bool (p x))) :
    FnV Tryz.prog 178 [.slice a xs.length c,.func (.func g) fst.toArray cap.toArray] H R (.bool (xs.any p)):=by
 refine Zc Tryz.func178 rfl Tryz.ntmps178 rfl ?_
 refine sqt 1 rfl (pur 1 rfl (sqt 5 rfl (pur 2 rfl ?_)))
 refine clV rfl Zm9 rfl rfl (Zcc xs a c g fst cap p hg hl _ _ hp) ?_
 refine pur 2 rfl (Z4 ?_)
 exact rtA rfl rfl rfl ⟨by simp only [ZC];exact Z00 _ _,rfl,rfl⟩ drp
theorem ZbW (x:Hnd) (g bf:Nat) (fst cap:List Value) (p:Bool) (hg:cal Tryz.prog g=true) (H:Z6) (R:Z5) [hM:Mem1 bf (cel 225 [.func (.func g) fst.toArray cap.toArray]) H] (hp:∀ b,FnV Tryz.prog g (fst++[.agg (Z2d x).toArray]++cap) ((b,cel 79 (Z2d x))::H) R (.bool p)) :
    FnV Tryz.prog 179 [.agg (Z2d x).toArray,.pointer (some ⟨bf,0,none⟩)] H R (.bool !p):=by
 refine Zc Tryz.func179 rfl Tryz.ntmps179 rfl ?_
 refine sqt 2 rfl (bx rfl rfl rfl (fun b2=>pur 1 rfl (sqt 5 rfl (spL rfl rfl (lh ZpK rfl rfl) rfl (spL rfl rfl (lhA [_,_,_,_,_] ZeO rfl rfl rfl) rfl ?_)))))
 refine Z2c rfl rfl (hg) rfl rfl (hp _) ?_
 refine pur 2 rfl (Z4 ?_)
 exact rtA rfl rfl rfl ⟨rfl,rfl,rfl⟩ drp
theorem Z4W (xs:List Hnd) (a:Option Addr) (c g:Nat) (fst cap:List Value) (p:Hnd→Bool) (hg:cal Tryz.prog g=true) (hl:xs.length≤9223372036854775807) (H:Z6) (R:Z5) [hR:MemRows a 5 (hrows xs) R] (hp:∀ b b2 x,x∈xs→FnV Tryz.prog g (fst++[.agg (Z2d x).toArray]++cap) ((b2,cel 79 (Z2d x))::(b,cel 225 [.func (.func g) fst.toArray cap.toArray])::H) R (.bool (p x))) :
    FnV Tryz.prog 107 [.slice a xs.length c,.func (.func g) fst.toArray cap.toArray] H R (.bool (xs.all p)):=by
 refine Zc Tryz.func107 rfl Tryz.ntmps107 rfl ?_
 refine sqt 2 rfl (bx rfl rfl rfl (fun b3=>pur 1 rfl (sqt 5 rfl (pur 1 rfl (sp rfl (PE.makeFunc rfl rfl) rfl ?_)))))
 refine clV rfl Zlu rfl rfl (Zc4 xs a c 179 [] [_] (fun x=>!p x) Zlv hl _ _ (hp:=fun x hx=>ZbW x g _ fst cap (p x) hg _ _ (hp:=fun b=>hp _ _ x hx))) ?_
 refine pur 2 rfl (Z4 ?_)
 exact rtA rfl rfl rfl ⟨by simp only [ZC];rw [Zu],rfl,rfl⟩ drp
theorem ZkL (a b c d:Int) (hb:∀ x∈[a,b,c,d],-1000000≤x∧x≤1000000000000000) (H:Z6) (R:Z5) :
    FnV Tryz.prog 112 [.agg (Ze [a,b,c,d]).toArray] H R (.int .i64 (a+b+c+d)):=by
 have ha:=hb a (by simp)
 have hb1:=hb b (by simp)
 have hc:=hb c (by simp)
 have hd:=hb d (by simp)
 clear hb
 refine Zc Tryz.func112 rfl Tryz.ntmps112 rfl ?_
 refine sqt 2 rfl (bx rfl rfl rfl (fun b1=>pur 1 rfl (sqt 12 rfl (sp rfl (PE.indexArr Z4y rfl rfl (by omega) (by omega)) rfl (spL rfl rfl (lh sc3 rfl rfl) rfl (sp rfl (PE.indexArr Z4y rfl rfl (by omega) (by omega)) rfl (spL rfl rfl (lh sc3 rfl rfl) rfl (sp rfl (PE.add rfl rfl (by omega)) rfl (sp rfl (PE.indexArr Z4y rfl rfl (by omega) (by omega)) rfl (spL rfl rfl (lh sc3 rfl rfl) rfl (sp rfl (PE.add rfl rfl (by omega)) rfl (sp rfl (PE.indexArr Z4y rfl rfl (by omega) (by omega)) rfl (spL rfl rfl (lh sc3 rfl rfl) rfl (sp rfl (PE.add rfl rfl (by omega)) rfl (pur 1 rfl ?_)))))))))))))))
 refine Z4 ?_
 exact rtA rfl rfl rfl ⟨rfl,rfl,rfl⟩ drp
theorem Zch (x:Grd) (H:Z6) (R:Z5) :
    Fn Tryz.prog 174 [.agg (grow x).toArray] H R (fun v H' R'=>∃ b,v = .slice (some ⟨b,0,none⟩) 4 4∧H'=H∧R'=RowsA (some ⟨b,0,none⟩) 1 (irows x.ns)::R):=by
 refine Zc Tryz.func174 rfl Tryz.ntmps174 rfl ?_
 refine sqt 2 rfl (bx rfl rfl rfl (fun b1=>pur 1 rfl (sqt 10 rfl (sp rfl (PE.fA ZiT rfl) rfl (spL rfl rfl (lh sc3 rfl rfl) rfl (sp rfl (PE.fA ZiU rfl) rfl (spL rfl rfl (lh sc3 rfl rfl) rfl (sp rfl (PE.fA ZiV rfl) rfl (spL rfl rfl (lh sc3 rfl rfl) rfl (sp rfl (PE.fA ZiW rfl) rfl (spL rfl rfl (lh sc3 rfl rfl) rfl ?_)))))))))))
 refine bsl (out:=[_,_,_,_]) rfl Z1H zl3 rfl rfl rfl rfl rfl rfl (fun b11=>?_)
 refine pur 1 rfl (Z4 ?_)
 refine Sy.heap (fun w h=>St.intRows (l:=x.ns) h) ?_
 exact rtA rfl rfl rfl ⟨_,rfl,rfl,rfl⟩ drp
theorem ZaY (xs:List Int) (a:Option Addr) (c:Nat) (hl:xs.length≤9223372036854775807) (H:Z6) (R:Z5) [hR:MemRows a 1 (irows xs) R] :
    FnV Tryz.prog 105 [.slice a xs.length c] H R (.int .i64 (xs.foldl max 0)):=by
 refine Zc Tryz.func105 rfl Tryz.ntmps105 rfl ?_
 refine sqt 1 rfl (pur 1 rfl (sqt 1 rfl (pur 1 rfl (Z0 (sqt 3 rfl (pur 1 rfl (sp rfl (PE.lenSl ZO rfl) rfl (pur 1 rfl (Z2 ?_)))))))))
 refine Zd (ι:={k:Nat // k≤xs.length}) (fun k=>⟨[(3,.int .i64 ((xs.take k.1).foldl max 0)),(6,.slice a xs.length c),(7,.int .i64 xs.length),(8,.int .i64 k.1)],H,R⟩) (fun k=>xs.length-k.1) ⟨0,by simp⟩ ?_ (fun k=>?_)
 exact Zf idH
 obtain ⟨k,hk⟩:=k
 dsimp only
 refine sqt 1 rfl (pur 1 rfl (Z0 ?_))
 refine Z1 rfl ?_ ?_<;>intro hc0<;>try simp only [cS] at hc0
 obtain ⟨x,hx⟩:∃ x,xs[k]?=some x:=⟨_,List.getElem?_eq_getElem (by omega)⟩
 have hst:(xs.take (k+1)).foldl max 0=max ((xs.take k).foldl max 0) x:=by rw [List.take_add_one,hx,List.foldl_append];rfl
 refine Zj (a:=a) (sz:=1) (rows:=irows xs) (by cases xs<;>simp_all [irows]) (fun b off he=>?_)
 subst he
 refine Z3 (Z0 (Z2 (sqt 3 rfl (sp rfl (PE.indexAddr Z0D rfl rfl (by omega) (by omega)) rfl (spL rfl rfl (lf0 sc3 (by simp [irows,hx];rfl) rfl) rfl (pur 1 rfl (sqr 4 rfl (pur 2 rfl (sp rfl (PE.max rfl rfl) rfl (pur 1 rfl (sqr 2 rfl (sp rfl (PE.add rfl rfl (by omega)) rfl (pur 1 rfl ?_)))))))))))))
 exact Zv ⟨k+1,by omega⟩ (by dsimp only;omega) (by dsimp only;rw [hst];exact sbA) idH
 obtain rfl:k=xs.length:=by omega
 rw [List.take_length]
 refine Z7 (Z8 (Z8 (Zi (sqt 2 rfl (pur 2 rfl (Z4 ?_))))))
 exact rtA rfl rfl rfl ⟨rfl,rfl,rfl⟩ drp
theorem Z1N (x:Int) (b:Nat) (H:Z6) (R:Z5) {T:Z6} [pl:Pull b (cel 3 [.int .i64 x]) H T]:FnV Tryz.prog 105 [.slice (some ⟨b,0,none⟩) 1 1] H R (.int .i64 (max 0 x)) :=
 FnV.lend (pl:=pl) (sz:=1) (rows:=irows [x]) (junk:=[]) (by simp) (fun B=>ZaY [x] (some ⟨b,0,none⟩) 1 (by simp) T _)
theorem Zih (n:Int) (H:Z6) (R:Z5) :
    FnV Tryz.prog 175 [.int .i64 n] H R (.bool (inb n 0 40)):=by
 refine Zc Tryz.func175 rfl Tryz.ntmps175 rfl ?_
 refine sqt 1 rfl (pur 1 rfl (sqt 3 rfl (pur 1 rfl ?_)))
 refine clV rfl Z55 rfl rfl (Z3K _ _ _ _ _) ?_
 refine pur 1 rfl (Z4 ?_)
 exact rtA rfl rfl rfl ⟨rfl,rfl,rfl⟩ drp
theorem Z7F (x:Grd) (H:Z6) (R:Z5) :
    FnV Tryz.prog 173 [.agg (grow x).toArray] H R (.bool x.fine):=by
 refine Zc Tryz.func173 rfl Tryz.ntmps173 rfl ?_
 refine sqt 2 rfl (bx rfl rfl rfl (fun b1=>pur 1 rfl (sqt 9 rfl (sp rfl (PE.fA Z8V rfl) rfl (spL rfl rfl (lh sc3 rfl rfl) rfl ?_)))))
 refine clV rfl Z55 rfl rfl (Z3K _ _ _ _ _) ?_
 refine pur 1 rfl ?_
 refine Zq 6 rfl ?_ ?_<;>intro g6
 refine Z0e rfl rfl rfl rfl rfl (lhA [_,_,_,_,_] ZbB rfl rfl rfl) rfl ?_
 refine clG rfl rfl rfl rfl Zlq rfl rfl (Zch x _ _) ?_
 rintro _ _ _ ⟨bn,rfl,rfl,rfl⟩
 refine Z6x rfl rfl rfl rfl ZgK rfl rfl (Z09 x.ns (some ⟨bn,0,none⟩) 4 175 [] [] (fun n=>inb n 0 40) Zlr (by simp [Grd.ns]) _ _ (fun _ y _=>Zih y _ _)) ?_
 refine pur 2 rfl (Z4 ?_)
 exact rtA rfl rfl rfl ⟨by simp_all only [ZC,Grd.fine,Bool.true_and,Bool.false_and,cond_true,cond_false],rfl,rfl⟩ drp
 refine pur 5 rfl (Z4 ?_)
 exact rtA rfl rfl rfl ⟨by simp_all only [ZC,Grd.fine,Bool.true_and,Bool.false_and,cond_true,cond_false],rfl,rfl⟩ drp
theorem Z7G (x y:Grd) (hb : -9223372036854775808≤y.price-x.price∧y.price-x.price≤9223372036854775807) (H:Z6) (R:Z5) :
    FnV Tryz.prog 177 [.agg (grow x).toArray,.agg (grow y).toArray] H R (.int .i64 (y.price-x.price)):=by
 refine Zc Tryz.func177 rfl Tryz.ntmps177 rfl ?_
 refine sqt 3 rfl (bx rfl rfl rfl (fun b2=>bx rfl rfl rfl (fun b3=>pur 1 rfl (sqt 6 rfl (sp rfl (PE.fA Z8V rfl) rfl (spL rfl rfl (lh sc3 rfl rfl) rfl (sp rfl (PE.fA Z8V rfl) rfl (spL rfl rfl (lh sc3 rfl rfl) rfl (sp rfl (PE.sub rfl rfl (by omega)) rfl (pur 1 rfl (Z4 ?_)))))))))))
 exact rtA rfl rfl rfl ⟨rfl,rfl,rfl⟩ drp
theorem Zfk (xs:List Grd) (a:Option Addr) (c:Nat) (hl:xs.length≤9223372036854775807) (hb:∀ x∈xs,0≤x.price∧x.price≤100) (H:Z6) (R:Z5) [hR:MemRows a 5 (grows xs) R] :
    FnV Tryz.prog 176 [.slice a xs.length c,.func (.func 177) #[] #[]] H R (.bool (!((List.range xs.length).any (Z1C xs)))):=by
 refine Zc Tryz.func176 rfl Tryz.ntmps176 rfl ?_
 refine sqt 1 rfl (pur 1 rfl (Z0 (sqt 4 rfl (pur 1 rfl (sp rfl (PE.lenSl Zj8 rfl) rfl (sp rfl (PE.sub rfl rfl (by omega)) rfl (pur 1 rfl (Z2 ?_))))))))
 refine Zd (ι:={k:Nat // k≤xs.length∧∀ i,k≤i+1→i+1<xs.length→Z1C xs i=false}) (fun k=>⟨[(0,.slice a xs.length c),(1,.func (.func 177) #[] #[]),(5,.int .i64 ((k.1:Int)-1))],H,R⟩) (fun k=>k.1) ⟨xs.length,by omega,fun i h1 h2=>by omega⟩ ?_ (fun k=>?_)
 exact Zf idH
 obtain ⟨k,hk,hn⟩:=k
 dsimp only
 refine Z0 (sqt 2 rfl (pur 2 rfl ?_))
 refine Z1 rfl ?_ ?_<;>intro hc0<;>try simp only [cS] at hc0
 obtain ⟨k,rfl⟩:∃ j,k=j+2:=⟨k-2,by omega⟩
 obtain ⟨y,hy⟩:∃ y,xs[k+1]?=some y:=⟨_,List.getElem?_eq_getElem (by omega)⟩
 obtain ⟨x,hx⟩:∃ x,xs[k]?=some x:=⟨_,List.getElem?_eq_getElem (by omega)⟩
 have hbx:=hb x (List.mem_of_getElem? hx)
 have hby:=hb y (List.mem_of_getElem? hy)
 rw [show (((k+2:Nat):Int)-1)=(k+1:Nat) from by omega]
 refine Zj (a:=a) (sz:=5) (rows:=grows xs) (by cases xs<;>simp_all [grows]) (fun b off he=>?_)
 subst he
 refine Z3 (Z0 (Z2 (Z0 ?_)))
 refine Za [0,0,0,6,14,0,0,64,224,480,1023,2047] (tks 0 4 (.ld 4 (tks 5 4 (.ld 9 (.big 10 (.tk 11 .done)))))) Zl (by kernel_rfl) ?_
 refine Zg 3 rfl (tk rfl (PE.indexAddr Zpr rfl rfl (by omega) (by omega)) rfl (ld rfl rfl (lfA ZbB (row:=grow y) (Z25 (by simpa using hy)) rfl) rfl (Zg 2 rfl (tk rfl (PE.sub rfl rfl (by omega)) rfl (tk rfl (PE.indexAddr Zpr rfl rfl (by omega) (by omega)) rfl (ld rfl rfl (lfA ZbB (row:=grow x) (Z25 (by rw [show (((k+1:Nat):Int)-1).toNat=k from by omega];exact hx)) rfl) rfl ?_))))))
 refine Z2c rfl rfl (Zlt) rfl rfl (Z7G y x (by omega) _ _) ?_
 refine bgT (Zg 1 rfl ?_)
 refine Z1 rfl ?_ ?_<;>intro hc1<;>try simp only [cS] at hc1
 have hbn:=Zbd hx hy (by omega)
 refine sqt 1 rfl (pur 1 rfl (Z4 ?_))
 exact rtA rfl rfl rfl ⟨by simp only [ZC];rw [hbn];rfl,rfl,rfl⟩ drp
 refine Z3 (sqr 3 rfl (pur 1 rfl (sp rfl (PE.sub rfl rfl (by omega)) rfl (pur 1 rfl ?_))))
 refine Zv ⟨k+1,by omega,fun i h1 h2=>?_⟩ (by dsimp only;omega) (by dsimp only;rw [show ((k+1:Nat):Int)-1=((k+1:Nat):Int)-1 from rfl];exact sbA) idH
 rcases Nat.lt_or_ge k i with h3 | h3
 · exact hn i (by omega) h2
 · obtain rfl:i=k:=by omega
   unfold Z1C
   rw [hx,hy]
   simp only [decide_eq_false_iff_not]
   omega
 have hbn:=Zf4 (l:=xs) (fun i hi=>hn i (by omega) hi)
 refine Z7 (Z8 (Z8 (Zi (sqt 1 rfl (pur 1 rfl (Z4 ?_))))))
 exact rtA rfl rfl rfl ⟨by simp only [ZC];rw [hbn];rfl,rfl,rfl⟩ drp
theorem Z1K (g:Gat) (ag:Option Addr) (cg:Nat) (hlg:g.grs.length≤9223372036854775807) (H:Z6) (R:Z5) [hG:MemRows ag 5 (grows g.grs) R] :
    FnV Tryz.prog 106 [g.v (g.sl ag cg)] H R (.int .i64 g.check):=by
 refine Zc Tryz.func106 rfl Tryz.ntmps106 rfl ?_
 refine sqt 2 rfl (bx rfl rfl rfl (fun b1=>pur 1 rfl (Z0 (Z2 (sqt 5 rfl (sp rfl (PE.fA Z81 rfl) rfl (spL rfl rfl (lh Zgo rfl rfl) rfl (sp rfl (PE.lenSl Zj8 rfl) rfl (pur 2 rfl ?_)))))))))
 refine Z1 rfl ?_ ?_<;>intro hc0
 have h8:decide (4<g.grs.length)=true:=by simp only [decide_eq_true_eq] at hc0 ⊢;omega
 refine sqt 1 rfl (pur 1 rfl (Z4 ?_))
 exact rtA rfl rfl rfl ⟨congrArg (Value.int .i64) (by simp_all only [ZC,Gat.check,inb,cond_true,cond_false,Bool.not_true,Bool.not_false,Bool.not_eq_true',Bool.not_eq_false',Bool.true_or,Bool.or_true,Bool.false_or,Bool.or_false,gt_iff_lt]),rfl,rfl⟩ drp
 have h8:decide (4<g.grs.length)=false:=by simp only [decide_eq_false_iff_not] at hc0 ⊢;omega
 refine sqt 11 rfl (sp rfl (PE.fA Zd2 rfl) rfl (spL rfl rfl (lh sc3 rfl rfl) rfl ?_))
 refine clV rfl Z55 rfl rfl (Z3K _ _ _ _ _) ?_
 refine pur 2 rfl ?_
 refine Zq 13 rfl ?_ ?_<;>intro g13
 refine pur 6 rfl ?_
 refine ZK rfl ?_
 refine sqt 1 rfl (pur 1 rfl (Z4 ?_))
 exact rtA rfl rfl rfl ⟨congrArg (Value.int .i64) (by simp_all only [ZC,Gat.check,inb,cond_true,cond_false,Bool.not_true,Bool.not_false,Bool.not_eq_true',Bool.not_eq_false',Bool.true_or,Bool.or_true,Bool.false_or,Bool.or_false,gt_iff_lt]),rfl,rfl⟩ drp
 refine spG rfl rfl rfl rfl (PE.fA Z80 rfl) rfl ?_
 refine Z0e rfl rfl rfl rfl rfl (lh sc3 rfl rfl) rfl ?_
 refine Z6x rfl rfl rfl rfl Z55 rfl rfl (Z3K _ _ _ _ _) ?_
 refine pur 3 rfl ?_
 refine Z1 rfl ?_ ?_<;>intro hc1
 refine sqt 1 rfl (pur 1 rfl (Z4 ?_))
 exact rtA rfl rfl rfl ⟨congrArg (Value.int .i64) (by simp_all only [ZC,Gat.check,inb,cond_true,cond_false,Bool.not_true,Bool.not_false,Bool.not_eq_true',Bool.not_eq_false',Bool.true_or,Bool.or_true,Bool.false_or,Bool.or_false,gt_iff_lt]),rfl,rfl⟩ drp
 refine sqt 5 rfl (sp rfl (PE.fA Z81 rfl) rfl (spL rfl rfl (lh Zgo rfl rfl) rfl ?_))
 refine clV rfl Zlo rfl rfl (Z8I g.grs ag cg 173 [] [] Grd.fine Zlp (by omega) _ _ (fun _ _ x _=>Z7F x _ _)) ?_
 refine pur 2 rfl ?_
 refine Z1 rfl ?_ ?_<;>intro hc2
 refine sqt 1 rfl (pur 1 rfl (Z4 ?_))
 exact rtA rfl rfl rfl ⟨congrArg (Value.int .i64) (by simp_all only [ZC,Gat.check,inb,cond_true,cond_false,Bool.not_true,Bool.not_false,Bool.not_eq_true',Bool.not_eq_false',Bool.true_or,Bool.or_true,Bool.false_or,Bool.or_false,gt_iff_lt]),rfl,rfl⟩ drp
 have hfi:g.grs.all Grd.fine=true:=by rw [← Bool.not_eq_false'];exact hc2
 refine sqt 5 rfl (sp rfl (PE.fA Z81 rfl) rfl (spL rfl rfl (lh Zgo rfl rfl) rfl ?_))
 refine clV rfl Zls rfl rfl (Zfk g.grs ag cg (by omega) (fun x hx=>by have:=List.all_eq_true.1 hfi x hx;simp only [Grd.fine,inb,Bool.and_eq_true,decide_eq_true_eq] at this;exact this.1) _ _) ?_
 refine pur 2 rfl ?_
 refine Z1 rfl ?_ ?_<;>intro hc3
 refine sqt 1 rfl (pur 1 rfl (Z4 ?_))
 exact rtA rfl rfl rfl ⟨congrArg (Value.int .i64) (by simp_all only [ZC,Gat.check,inb,cond_true,cond_false,Bool.not_true,Bool.not_false,Bool.not_eq_true',Bool.not_eq_false',Bool.true_or,Bool.or_true,Bool.false_or,Bool.or_false,gt_iff_lt]),rfl,rfl⟩ drp
 refine Z3 (sqt 1 rfl (pur 1 rfl (Z4 ?_)))
 exact rtA rfl rfl rfl ⟨congrArg (Value.int .i64) (by simp_all only [ZC,Gat.check,inb,cond_true,cond_false,Bool.not_true,Bool.not_false,Bool.not_eq_true',Bool.not_eq_false',Bool.true_or,Bool.or_true,Bool.false_or,Bool.or_false,gt_iff_lt]),rfl,rfl⟩ drp
theorem Zig (n:Int) (H:Z6) (R:Z5) :
    FnV Tryz.prog 110 [.int .i64 n] H R (.bool (inb n 0 200)):=by
 refine Zc Tryz.func110 rfl Tryz.ntmps110 rfl ?_
 refine sqt 1 rfl (pur 1 rfl (sqt 3 rfl (pur 1 rfl ?_)))
 refine clV rfl Z55 rfl rfl (Z3K _ _ _ _ _) ?_
 refine pur 1 rfl (Z4 ?_)
 exact rtA rfl rfl rfl ⟨rfl,rfl,rfl⟩ drp
theorem Zks (h:Hnd) (H:Z6) (R:Z5) :
    FnV Tryz.prog 108 [.agg (Z2d h).toArray] H R (.bool h.fine):=by
 refine Zc Tryz.func108 rfl Tryz.ntmps108 rfl ?_
 refine sqt 2 rfl (bx rfl rfl rfl (fun b1=>pur 1 rfl (sqt 9 rfl (sp rfl (PE.fA Zn7 rfl) rfl (spL rfl rfl (lh sc3 rfl rfl) rfl ?_)))))
 refine clV rfl Z55 rfl rfl (Z3K _ _ _ _ _) ?_
 refine pur 1 rfl ?_
 refine Zq 6 rfl ?_ ?_<;>intro g6
 refine spG rfl rfl rfl rfl (PE.fA Z1B rfl) rfl ?_
 refine spG rfl rfl rfl rfl (PE.slArr Z4y rfl) rfl ?_
 refine Sy.heap (fun w h=>St.rows1 h) ?_
 refine Z6x rfl rfl rfl rfl ZgK rfl rfl (Z09 h.gs (some ⟨b1,1,none⟩) 4 110 [] [] (fun n=>inb n 0 200) ZkU (by simp [Hnd.gs]) _ _ (fun _ y _=>Zig y _ _)) ?_
 refine pur 2 rfl (Z4 ?_)
 exact rtA rfl rfl rfl ⟨by simp_all only [ZC,Hnd.fine,Bool.true_and,Bool.false_and,cond_true,cond_false],rfl,rfl⟩ drp
 refine pur 5 rfl (Z4 ?_)
 exact rtA rfl rfl rfl ⟨by simp_all only [ZC,Hnd.fine,Bool.true_and,Bool.false_and,cond_true,cond_false],rfl,rfl⟩ drp
theorem Zkt (h:Hnd) (hf:h.fine=true) (H:Z6) (R:Z5) :
    FnV Tryz.prog 111 [.agg (Z2d h).toArray] H R (.bool (inb h.tot 10 200)):=by
 refine Zc Tryz.func111 rfl Tryz.ntmps111 rfl ?_
 refine sqt 2 rfl (bx rfl rfl rfl (fun b1=>pur 1 rfl (sqt 5 rfl (sp rfl (PE.fA Z1B rfl) rfl (spL rfl rfl (lhA [.int .i64 h.a,.int .i64 h.b,.int .i64 h.c,.int .i64 h.d] Z5I rfl rfl rfl) rfl ?_)))))
 refine clV rfl ZgL rfl rfl (ZkL h.a h.b h.c h.d (by simp only [Hnd.fine,Hnd.gs,inb,List.all_cons,List.all_nil,Bool.and_true,Bool.and_eq_true,decide_eq_true_eq] at hf;intro x hx;simp only [List.mem_cons,List.not_mem_nil,or_false] at hx;rcases hx with rfl | rfl | rfl | rfl<;>omega) _ _) ?_
 refine clV rfl Z55 rfl rfl (Z3K _ _ _ _ _) ?_
 refine pur 1 rfl (Z4 ?_)
 exact rtA rfl rfl rfl ⟨rfl,rfl,rfl⟩ drp
theorem Z1L (c:Crt) (ah:Option Addr) (ch:Nat) (hlh:c.hs.length≤9223372036854775807) (H:Z6) (R:Z5) [hA:MemRows ah 5 (hrows c.hs) R] :
    FnV Tryz.prog 52 [c.v (c.sl ah ch)] H R (.int .i64 c.check):=by
 refine Zc Tryz.func52 rfl Tryz.ntmps52 rfl ?_
 refine sqt 2 rfl (bx rfl rfl rfl (fun b1=>pur 1 rfl (Z0 (Z2 (sqt 5 rfl (sp rfl (PE.fA Z0U rfl) rfl (spL rfl rfl (lh Z7A rfl rfl) rfl (sp rfl (PE.lenSl Z91 rfl) rfl (pur 2 rfl ?_)))))))))
 refine Z1 rfl ?_ ?_<;>intro hc0
 have h8:decide (6<c.hs.length)=true:=by simp only [decide_eq_true_eq] at hc0 ⊢;omega
 refine sqt 1 rfl (pur 1 rfl (Z4 ?_))
 exact rtA rfl rfl rfl ⟨congrArg (Value.int .i64) (by simp_all only [ZC,Crt.check,inb,cond_true,cond_false,Bool.not_true,Bool.not_false,Bool.not_eq_true',Bool.not_eq_false',Bool.true_or,Bool.or_true,Bool.false_or,Bool.or_false,gt_iff_lt]),rfl,rfl⟩ drp
 have h8:decide (6<c.hs.length)=false:=by simp only [decide_eq_false_iff_not] at hc0 ⊢;omega
 refine sqt 11 rfl (sp rfl (PE.fA Zd3 rfl) rfl (spL rfl rfl (lh sc3 rfl rfl) rfl ?_))
 refine clV rfl Z55 rfl rfl (Z3K _ _ _ _ _) ?_
 refine pur 2 rfl ?_
 refine Zq 13 rfl ?_ ?_<;>intro g13
 refine pur 6 rfl ?_
 refine ZK rfl ?_
 refine sqt 1 rfl (pur 1 rfl (Z4 ?_))
 exact rtA rfl rfl rfl ⟨congrArg (Value.int .i64) (by simp_all only [ZC,Crt.check,inb,cond_true,cond_false,Bool.not_true,Bool.not_false,Bool.not_eq_true',Bool.not_eq_false',Bool.true_or,Bool.or_true,Bool.false_or,Bool.or_false,gt_iff_lt]),rfl,rfl⟩ drp
 refine spG rfl rfl rfl rfl (PE.fA Zd4 rfl) rfl ?_
 refine Z0e rfl rfl rfl rfl rfl (lh sc3 rfl rfl) rfl ?_
 refine Z6x rfl rfl rfl rfl Z55 rfl rfl (Z3K _ _ _ _ _) ?_
 refine pur 3 rfl ?_
 refine Z1 rfl ?_ ?_<;>intro hc1
 refine sqt 1 rfl (pur 1 rfl (Z4 ?_))
 exact rtA rfl rfl rfl ⟨congrArg (Value.int .i64) (by simp_all only [ZC,Crt.check,inb,cond_true,cond_false,Bool.not_true,Bool.not_false,Bool.not_eq_true',Bool.not_eq_false',Bool.true_or,Bool.or_true,Bool.false_or,Bool.or_false,gt_iff_lt]),rfl,rfl⟩ drp
 refine sqt 5 rfl (sp rfl (PE.fA Z0U rfl) rfl (spL rfl rfl (lh Z7A rfl rfl) rfl ?_))
 refine clV rfl ZgJ rfl rfl (Z4W c.hs ah ch 108 [] [] Hnd.fine ZkT (by omega) _ _ (fun _ _ x _=>Zks x _ _)) ?_
 refine pur 2 rfl ?_
 refine Z1 rfl ?_ ?_<;>intro hc2
 refine sqt 1 rfl (pur 1 rfl (Z4 ?_))
 exact rtA rfl rfl rfl ⟨congrArg (Value.int .i64) (by simp_all only [ZC,Crt.check,inb,cond_true,cond_false,Bool.not_true,Bool.not_false,Bool.not_eq_true',Bool.not_eq_false',Bool.true_or,Bool.or_true,Bool.false_or,Bool.or_false,gt_iff_lt]),rfl,rfl⟩ drp
 have hfi:c.hs.all Hnd.fine=true:=by rw [← Bool.not_eq_false'];exact hc2
 refine sqt 5 rfl (sp rfl (PE.fA Z0U rfl) rfl (spL rfl rfl (lh Z7A rfl rfl) rfl ?_))
 refine clV rfl ZgJ rfl rfl (Z4W c.hs ah ch 111 [] [] (fun h=>inb h.tot 10 200) ZkV (by omega) _ _ (fun _ _ x hx=>Zkt x (List.all_eq_true.1 hfi x hx) _ _)) ?_
 refine pur 2 rfl ?_
 refine Z1 rfl ?_ ?_<;>intro hc3
 refine sqt 1 rfl (pur 1 rfl (Z4 ?_))
 exact rtA rfl rfl rfl ⟨congrArg (Value.int .i64) (by simp_all only [ZC,Crt.check,inb,cond_true,cond_false,Bool.not_true,Bool.not_false,Bool.not_eq_true',Bool.not_eq_false',Bool.true_or,Bool.or_true,Bool.false_or,Bool.or_false,gt_iff_lt]),rfl,rfl⟩ drp
 refine Z3 (sqt 1 rfl (pur 1 rfl (Z4 ?_)))
 exact rtA rfl rfl rfl ⟨congrArg (Value.int .i64) (by simp_all only [ZC,Crt.check,inb,cond_true,cond_false,Bool.not_true,Bool.not_false,Bool.not_eq_true',Bool.not_eq_false',Bool.true_or,Bool.or_true,Bool.false_or,Bool.or_false,gt_iff_lt]),rfl,rfl⟩ drp
end Go.Proofs.YtcfdanhklbklkaaGreat.Gt
