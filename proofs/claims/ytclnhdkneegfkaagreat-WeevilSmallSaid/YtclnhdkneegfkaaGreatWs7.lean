/- Walks of the functions of the program, and the laws that join them: what the last theorem of this claim needs, in order. -/
import Derived.Test.YtclnhdkneegfkaaGreatWs6
namespace Go.Proofs.YtclnhdkneegfkaaGreat
set_option linter.unusedSimpArgs false
set_option linter.unusedVariables false
open Go
theorem Z2U:cal Tryz.prog 11=true:=by kernel_rfl
theorem Zay:cal Tryz.prog 16=true:=by kernel_rfl
theorem Z9i:cal Tryz.prog 17=true:=by kernel_rfl
theorem Zaz:cal Tryz.prog 18=true:=by kernel_rfl
theorem Z7s:cal Tryz.prog 19=true:=by kernel_rfl
theorem ZaA:cal Tryz.prog 21=true:=by kernel_rfl
theorem Z7t:cal Tryz.prog 29=true:=by kernel_rfl
theorem ZcX:cal Tryz.prog 56=true:=by kernel_rfl
theorem Zi7:cal Tryz.prog 59=true:=by kernel_rfl
theorem Zi8:cal Tryz.prog 60=true:=by kernel_rfl
theorem Zjz:cal Tryz.prog 61=true:=by kernel_rfl
theorem ZjA:cal Tryz.prog 62=true:=by kernel_rfl
theorem ZjB:cal Tryz.prog 63=true:=by kernel_rfl
theorem ZjC:cal Tryz.prog 64=true:=by kernel_rfl
theorem Zj9:Z0O Tryz.prog 24=some 1:=by kernel_rfl
theorem Zja:Z0O Tryz.prog 25=some 1:=by kernel_rfl
theorem Zkp:elN Tryz.prog 44=some 3:=by kernel_rfl
theorem Ziw:Z7g Tryz.prog 44=true:=by kernel_rfl
theorem Zkr:slE Tryz.prog 44=some (27,3):=by kernel_rfl
theorem Z6B (xs:List Int) (a:Option Addr) (c:Nat) (hl:xs.length≤1000000) (H:Zf) (R:Z6) [hR:MemRows a 1 (Z3 xs) R] :
    Fn Tryz.prog 19 [.slice a xs.length c] H R (fun v H' R'=>∃ o:OSl 3 1 (Z3 xs),v=o.fs∧o.here∧H'=o.G++H∧R'=R):=by
 refine Zl Tryz.func19 rfl Tryz.ntmps19 rfl ?_
 refine sqt 1 rfl (pur 1 rfl (sqt 6 rfl (pur 1 rfl (sp rfl (PE.lenSl Zy rfl) rfl ?_))))
 refine mkO rfl Z1v zl3 rfl rfl ⟨by omega,by omega⟩ rfl (fun o ho=>?_)
 refine pur 1 rfl ?_
 refine ZgX (news:=Z3 xs) o rfl Z1v rfl rfl (Z2o) (by simp [Z3]) (by simp [ZO,Z3,Value.oneCell']) ⟨by simp [Z3];omega,by simp [Z3];omega⟩ rfl ho (fun o2 ho2=>?_)
 refine pur 1 rfl (Z5 ?_)
 exact rtA rfl rfl rfl ⟨o2.cast (by simp),rfl,ho2,rfl,rfl⟩ idH
theorem Z8b (h:Hse) (ag as_:Option Addr) (cg cs:Nat) (hlg:h.gaps.length≤1000000) (hls:h.sights.length≤1000000) (H:Zf) (R:Z6) [hG:MemRows ag 2 (Z7 h.gaps) R] [hS:MemRows as_ 3 (Z8 h.sights) R]:Fn Tryz.prog 17 [h.v (h.sg ag cg) (h.ss as_ cs)] H R (fun v H' R'=>∃ (ax ay:Option Addr) (cx cy:Nat),v=h.v (h.sg ax cx) (h.ss ay cy)∧H'=H∧R'=RowsA ay 3 (Z8 h.sights)::RowsA ax 2 (Z7 h.gaps)::R):=fun w hw=>by
 refine CallsIn.mono (Zfn h ag as_ cg cs hlg hls H R w hw) ?_
 rintro e' w' ⟨u,H',R',⟨og,os,rfl,rfl,rfl⟩,he,hs'⟩
 obtain ⟨ay,cy,he2,hcy,hz2⟩:=os.freezeC
 obtain ⟨ax,cx,he1,hcx,hz1⟩:=og.freezeC
 rw [ZE] at he2
 rw [ZJ] at he1
 have h2:=hz2 hs'
 have h3:=hz1 h2
 refine ⟨_,H,_,⟨ax,ay,cx,cy,by rw [he1,he2];rfl,rfl,rfl⟩,he,h3.facts (fun g hg=>by simp only [List.mem_cons] at hg ⊢;rcases hg with h8 | h8 | h8<;>simp [h8])⟩
theorem Z5g (l:List Int) (a:Option Addr) (c:Nat) (hl:l.length≤1000000) (H:Zf) (R:Z6) [hR:MemRows a 1 (Z3 l) R]:Fn Tryz.prog 19 [.slice a l.length c] H R (fun v H' R'=>∃ (ax:Option Addr) (cx:Nat),l.length≤cx∧v = .slice ax l.length cx∧H'=H∧R'=RowsA ax 1 (Z3 l)::R):=fun w hw=>by
 refine CallsIn.mono (Z6B l a c hl H R w hw) ?_
 rintro e' w' ⟨u,H',R',⟨o,rfl,_,rfl,rfl⟩,he,hs'⟩
 obtain ⟨ax,cx,he1,hcx,hz1⟩:=o.freezeC
 rw [irl] at he1 hcx
 exact ⟨_,H,_,⟨ax,cx,hcx,by rw [he1],rfl,rfl⟩,he,hz1 hs'⟩
theorem Z9F {h:Hse} (hk:h.ok) (l:List Int):(h.weeksV l).length=h.bins.toNat:=by
 unfold Hse.weeksV
 rw [List.length_take,Z37,Z05]
 have:=hk.bins;omega
theorem Zce {h:Hse} (hk:h.ok) (l:List Int) {k:Nat} (hk2:k<h.bins.toNat):na (h.weeksV l) k=wkN h.gaps (msk l) k:=by
 have hb:=hk.bins
 unfold na Hse.weeksV wkR
 rw [List.getD_eq_getElem?_getD,List.getElem?_take,if_pos hk2,List.getElem?_map,Z0Z (by rw [Z05];omega),Z1I (by omega)];rfl
theorem Zcf {h:Hse} (hk:h.ok) {l:List Int} (hl:h.lsE l=0):wkL h.gaps (msk []) (msk l) h.bins.toNat=(h.weeksR l).1∧h.bins.toNat=(h.weeksR l).1.length:=by
 rw [Z7b hl]
 have h1:=Z9F hk l
 refine ⟨?_,h1.symm⟩
 apply List.ext_getElem?
 intro k
 rcases Nat.lt_or_ge k h.bins.toNat with hk2 | hk2
 · have h2:=Zce hk l hk2
   have h3:=Z50 (gs:=h.gaps) (c:=msk []) (m:=msk l) hk2
   rw [Z0Z (l:=wkL h.gaps (msk []) (msk l) h.bins.toNat) (by rw [Z14];exact hk2),Z0Z (l:=(h.weeksV l,(0:Int)).1) (by show k<(h.weeksV l).length;rw [h1];exact hk2),h3]
   show some (wkC h.gaps (msk []) (msk l) k)=some (na (h.weeksV l) k)
   rw [h2];rfl
 · rw [List.getElem?_eq_none (by rw [Z14];exact hk2),List.getElem?_eq_none (by show (h.weeksV l).length≤k;rw [h1];exact hk2)]
theorem Z99 {h:Hse} {l:List Int} (hl:h.lsE l≠0):(h.weeksR l).1=[]:=by rw [Z4X rfl hl]
theorem ZgR (h:Hse) (l:List Int):(h.weeksR l).2=h.lsE l:=by
 unfold Hse.weeksR
 by_cases h1:h.lsE l=0
 · rw [h1];rfl
 · rw [decide_eq_true h1];rfl
theorem ZjW (h:Hse):h.clrR.2=h.check:=by
 unfold Hse.clrR
 by_cases h1:h.check=0
 · rw [h1];rfl
 · rw [decide_eq_true h1];rfl
theorem Z7c (h:Hse) (l:List Int):(h.weeksR l).1.length≤7:=by
 unfold Hse.weeksR
 cases decide (h.lsE l≠0) with
 | true=>exact Nat.zero_le _
 | false =>
   show (h.weeksV l).length≤7
   unfold Hse.weeksV
   rw [List.length_take,Z37,Z05];omega
theorem Z8l (h:Hse):h.clrR.1.length≤7:=by
 unfold Hse.clrR
 by_cases hc:h.check=0
 · have hb:=(hse_ok.1 hc).bins
   rw [hc]
   exact Nat.le_trans (Z0E _ _) (by omega)
 · rw [decide_eq_true hc];exact Nat.zero_le _
theorem Zig {h:Hse} (hc:h.check≠0):h.clrR.1=[]:=by unfold Hse.clrR;rw [decide_eq_true hc];rfl
structure HO where
 h:Hse
 og:OSl 34 2 (Z7 h.gaps)
 os:OSl 30 3 (Z8 h.sights)
def HO.G (x:HO):Zf:=x.os.G++x.og.G
def HO.cs (x:HO):List Value:=htl x.h x.og.fs x.os.fs
def hoG (L:List HO):Zf:=(L.map HO.G).flatten
def hoC (L:List HO):List Value:=(L.map HO.cs).flatten
theorem Zdn {L:List HO} {k:Nat} {x:HO} (h:L[k]?=some x):hoG (L.drop k)=x.os.G++(x.og.G++hoG (L.drop (k+1))):=by
 obtain ⟨hk,rfl⟩:=List.getElem?_eq_some_iff.1 h
 rw [List.drop_eq_getElem_cons hk]
 unfold hoG
 rw [List.map_cons,List.flatten_cons,HO.G,List.append_assoc]
theorem Zdm {L:List HO} {k:Nat} {x:HO} (h:L[k]?=some x):(hoC L).drop (0+((k:Nat):Int).toNat*3)=x.cs++hoC (L.drop (k+1)):=by
 rw [Nat.zero_add,Int.toNat_natCast]
 obtain ⟨hk,rfl⟩:=List.getElem?_eq_some_iff.1 h
 have key:∀ (L:List HO) (k:Nat),(hoC L).drop (k*3)=hoC (L.drop k):=fun L=>by
   induction L with
   | nil=>intro k;unfold hoC;simp
   | cons y L ih =>
     intro k
     cases k with
     | zero=>rfl
     | succ k =>
       rw [List.drop_succ_cons,← ih k,show (k+1)*3=3+k*3 by omega,← List.drop_drop]
       congr 1
 rw [key,List.drop_eq_getElem_cons hk];rfl
theorem pD9 {α:Type} (A B C D V:List α):(A++(B++(C++(D++V)))).Perm (C++(D++(A++(B++V)))):=by
 rw [← List.append_assoc A B,← List.append_assoc C D,← List.append_assoc A B,← List.append_assoc C D]
 exact List.perm_append_comm_assoc _ _ _
theorem pC9 {α:Type} (a b:α) (A B C D T:List α):(a::(A++(B++(b::(C++(D++T)))))).Perm (C++(D++(A++(B++(a::b::T))))) :=
 ((((pB9 b D C T).append_left B).append_left A).cons a).trans (((pB9 a B A _).trans (((pB9 a D C _).append_left B).append_left A)).trans (pD9 A B C D _))
set_option maxHeartbeats 1000000 in
theorem Z57 (h:Hse) (ag as_:Option Addr) (cg cs:Nat) (hlg:h.gaps.length≤9223372036854775807) (hls:h.sights.length≤9223372036854775807) (fr:List Int) (af:Option Addr) (cf:Nat) (hfl9:fr.length≤9223372036854775807) (hfc:fr.length≤cf) (sw:Sgt) (n:Int) (H:Zf) (R:Z6) [hG:MemRows ag 2 (Z7 h.gaps) R] [hS:MemRows as_ 3 (Z8 h.sights) R] [hF:MemRows af 1 (Z3 fr) R] :
    Fn Tryz.prog 12 [h.v (h.sg ag cg) (h.ss as_ cs),.slice af fr.length cf,.agg (ZY sw).toArray,.int .i64 n] H R (fun v H' R'=>v = .bool true∧H'=H∧R'=R):=by
 refine Zl Tryz.func12 rfl Tryz.ntmps12 rfl ?_
 refine sqt 3 rfl (bx rfl rfl rfl (fun b4=>bx rfl rfl rfl (fun b6=>pur 1 rfl (Z0 (sqt 7 rfl (spL rfl rfl (lhA (htl h (h.sg ag cg) (h.ss as_ cs)) ZA rfl rfl rfl) rfl ?_))))))
 refine clV rfl ZcX rfl rfl (Z5L h ag as_ cg cs (by omega) (by omega) _ _) ?_
 refine pur 1 rfl ?_
 refine Zj 35 rfl ?_ ?_<;>intro g35
 refine pur 4 rfl ?_
 refine ZP rfl ?_
 refine sqt 2 rfl ?_
 refine clV rfl Z2U rfl rfl (Z0x _ _) ?_
 refine pur 1 rfl (Z5 ?_)
 exact rtA rfl rfl rfl ⟨rfl,rfl,rfl⟩ (fun w h9=>St.sub ((h9.del b6).del b4))
 refine pur 1 rfl ?_
 refine Za0 (out:=[_]) rfl rfl rfl rfl Z7T Z5c rfl rfl rfl rfl rfl rfl (fun b37=>?_)
 refine Sy.heap (fun w h9=>St.rows (sz:=1) (rows:=Zg [⟨af,cf,fr⟩]) (rest:=[]) (h9.pull b37) (by simp [Zg,Z3j])) ?_
 refine Z0C rfl rfl rfl rfl Zay rfl rfl (Z6D [⟨af,cf,fr⟩] (some ⟨b37,0,none⟩) 1 (by simp) (by simp;omega) _ _) ?_
 refine pur 1 rfl ?_
 refine Z1 rfl ?_ ?_<;>intro hc0
 refine sqt 2 rfl ?_
 refine clV rfl Z2U rfl rfl (Z0x _ _) ?_
 refine pur 1 rfl (Z5 ?_)
 exact rtA rfl rfl rfl ⟨rfl,rfl,rfl⟩ (fun w h9=>St.sub ((h9.del b6).del b4))
 have hsm:h.gaps.length≤14∧h.sights.length≤12:=by
   unfold Zco at g35
   rw [Bool.or_eq_false_iff] at g35
   have:=of_decide_eq_false g35.1;have:=of_decide_eq_false g35.2;omega
 have hfs:fr.length≤14:=by
   have h9:Zdt [fr]=false:=hc0
   unfold Zdt at h9
   rw [Bool.or_eq_false_iff] at h9
   have:=List.any_eq_false.1 h9.1 fr (by simp)
   simpa using this
 obtain ⟨hsg14,hss12⟩:=hsm
 refine Sy.heap (fun w h9=>h9.ftail) ?_
 refine Z2 (Z0 ?_)
 refine Z6m [0,1,0,7,0,31,0,0,255,511,1023] [0,1,2,3,4,5,6,7,8,9,10] ZF (by kernel_rfl) rfl (fun s L H1 R1=>∃ (oa:Option Addr) (ob:Option Addr) (oc:Nat) (od:Nat) (xa:Option Addr) (xb:Option Addr) (xc:Nat) (xd:Nat) (ma:Option Addr) (mc:Nat) (b9:Nat) (x9:List Value) (b10:Nat) (x10:List Value),Sub [(1,.slice af fr.length cf),(3,.int .i64 n),(4,.pointer (some ⟨b4,0,none⟩)),(6,.pointer (some ⟨b6,0,none⟩))] L∧(∀ f∈(R:Z6),f∈R1)∧(s 0=true→lk L 41=some (h.v (h.sg ag cg) (h.ss as_ cs)))∧(s 1=true→lk L 42=some (h.v (h.sg oa oc) (h.ss ob od))∧(RowsA ob 3 (Z8 h.sights))∈R1∧(RowsA oa 2 (Z7 h.gaps))∈R1)∧(s 2=true→lk L 43=some (h.v (h.sg ag cg) (h.ss as_ cs)))∧(s 3=true→lk L 44=some (h.v (h.sg xa xc) (h.ss xb xd))∧(RowsA xb 3 (Z8 h.sights))∈R1∧(RowsA xa 2 (Z7 h.gaps))∈R1)∧(s 4=true→lk L 45=some (.slice af fr.length cf))∧(s 5=true→lk L 46=some (.slice ma fr.length mc)∧(RowsA ma 1 (Z3 fr))∈R1∧(fr.length≤mc))∧(s 6=true→lk L 9=some (.pointer (some ⟨b9,0,none⟩))∧(s 8=false→x9=[.int .i64 0,.slice none 0 0,.slice none 0 0]))∧(s 7=true→lk L 10=some (.pointer (some ⟨b10,0,none⟩))∧(s 9=false→x10=[.int .i64 0,.slice none 0 0,.slice none 0 0]))∧(s 8=true→x9=htl h (h.sg oa oc) (h.ss ob od))∧(s 9=true→x10=htl h (h.sg xa xc) (h.ss xb xd))∧(s 10=true→lk L 11=some (.slice ma fr.length mc))∧∀ w,St H1 R1 w→St ((bif s 7 then [(b10,cel 57 x10)] else [])++((bif s 6 then [(b9,cel 27 x9)] else [])++((b6,cel 30 (ZY sw))::(b4,cel 27 (htl h (h.sg ag cg) (h.ss as_ cs)))::H))) R1 w) ?_ ?_ ?_
 exact ⟨none,none,0,0,none,none,0,0,none,0,0,[],0,[],sbA,fun _ hf=>hf,ff,ff,ff,ff,ff,ff,ff,ff,ff,ff,ff,fun w y9=>y9⟩
 refine ⟨?_,?_,?_,?_,?_,?_,?_,?_,?_,?_,?_,trivial⟩
 intro s Lz Hz Rz hdn hs hpre hI K hK
 obtain ⟨oa,ob,oc,od,xa,xb,xc,xd,ma,mc,b9,x9,b10,x10,hL0,hR0,q0,q1,q2,q3,q4,q5,q6,q7,q8,q9,q10,hH⟩:=hI
 refine Sy.heap hH ?_
 refine spL rfl (Sub.lk hL0 _ _ rfl) ((lhA (htl h (h.sg ag cg) (h.ss as_ cs)) ZA rfl rfl rfl)) rfl ?_
 exact hK _ _ _ ⟨oa,ob,oc,od,xa,xb,xc,xd,ma,mc,b9,x9,b10,x10,ZD rfl hL0,hR0,fun _=>ZS,lm2 q1,lm1 q2,lm2 q3,lm1 q4,lm2 q5,lm2 q6,lm2 q7,q8,q9,lm1 q10,fun w y9=>y9⟩
 intro s Lz Hz Rz hdn hs hpre hI K hK
 obtain ⟨oa,ob,oc,od,xa,xb,xc,xd,ma,mc,b9,x9,b10,x10,hL0,hR0,q0,q1,q2,q3,q4,q5,q6,q7,q8,q9,q10,hH⟩:=hI
 have h0:s 0=true:=hpre 0 rfl
 refine Sy.heap hH ?_
 haveI m0:MemRows ag 2 (Z7 h.gaps) Rz:=⟨hR0 _ (inferInstance:MemRows ag 2 (Z7 h.gaps) (R)).mem⟩
 haveI m1:MemRows as_ 3 (Z8 h.sights) Rz:=⟨hR0 _ (inferInstance:MemRows as_ 3 (Z8 h.sights) (R)).mem⟩
 refine cl rfl Z9i rfl (by simp only [evs,show ev Lz (.tmp 41)=_ from (q0 h0)]) (Z8b h ag as_ cg cs (by omega) (by omega) _ _) ?_
 rintro _ _ R1 ⟨oa,ob,oc,od,rfl,rfl,hR1⟩
 obtain rfl:=hR1.symm
 clear hR1
 exact hK _ _ _ ⟨oa,ob,oc,od,xa,xb,xc,xd,ma,mc,b9,x9,b10,x10,ZD rfl hL0,Z07 (Z07 (hR0)),fun h=>Zr rfl (q0 h),fun _=>⟨ZS,(by simp),(by simp)⟩,fun h=>Zr rfl (q2 h),fun h=>⟨Zr rfl (q3 h).1,List.mem_cons_of_mem _ (List.mem_cons_of_mem _ ((q3 h).2.1)),List.mem_cons_of_mem _ (List.mem_cons_of_mem _ ((q3 h).2.2))⟩,fun h=>Zr rfl (q4 h),fun h=>⟨Zr rfl (q5 h).1,List.mem_cons_of_mem _ (List.mem_cons_of_mem _ ((q5 h).2.1)),(q5 h).2.2⟩,fun h=>⟨Zr rfl (q6 h).1,(q6 h).2⟩,fun h=>⟨Zr rfl (q7 h).1,(q7 h).2⟩,nof hdn hs 8,q9,fun h=>Zr rfl (q10 h),fun w y9=>y9⟩
 intro s Lz Hz Rz hdn hs hpre hI K hK
 obtain ⟨oa,ob,oc,od,xa,xb,xc,xd,ma,mc,b9,x9,b10,x10,hL0,hR0,q0,q1,q2,q3,q4,q5,q6,q7,q8,q9,q10,hH⟩:=hI
 refine Sy.heap hH ?_
 refine spL rfl (Sub.lk hL0 _ _ rfl) ((lhA (htl h (h.sg ag cg) (h.ss as_ cs)) ZA rfl rfl rfl)) rfl ?_
 exact hK _ _ _ ⟨oa,ob,oc,od,xa,xb,xc,xd,ma,mc,b9,x9,b10,x10,ZD rfl hL0,hR0,lm1 q0,lm2 q1,fun _=>ZS,lm2 q3,lm1 q4,lm2 q5,lm2 q6,lm2 q7,q8,q9,lm1 q10,fun w y9=>y9⟩
 intro s Lz Hz Rz hdn hs hpre hI K hK
 obtain ⟨oa,ob,oc,od,xa,xb,xc,xd,ma,mc,b9,x9,b10,x10,hL0,hR0,q0,q1,q2,q3,q4,q5,q6,q7,q8,q9,q10,hH⟩:=hI
 obtain ⟨h0,h1,h2⟩:s 0=true∧s 1=true∧s 2=true:=⟨hpre 0 rfl,hpre 1 rfl,hpre 2 rfl⟩
 refine Sy.heap hH ?_
 haveI m0:MemRows ag 2 (Z7 h.gaps) Rz:=⟨hR0 _ (inferInstance:MemRows ag 2 (Z7 h.gaps) (R)).mem⟩
 haveI m1:MemRows as_ 3 (Z8 h.sights) Rz:=⟨hR0 _ (inferInstance:MemRows as_ 3 (Z8 h.sights) (R)).mem⟩
 refine cl rfl Zaz rfl (by simp only [evs,show ev Lz (.tmp 43)=_ from (q2 h2)]) (Z3f h ag as_ cg cs (by omega) (by omega) _ _) ?_
 rintro _ _ R1 ⟨xa,xb,xc,xd,rfl,rfl,hR1⟩
 obtain rfl:=hR1.symm
 clear hR1
 exact hK _ _ _ ⟨oa,ob,oc,od,xa,xb,xc,xd,ma,mc,b9,x9,b10,x10,ZD rfl hL0,Z07 (Z07 (hR0)),fun h=>Zr rfl (q0 h),fun h=>⟨Zr rfl (q1 h).1,List.mem_cons_of_mem _ (List.mem_cons_of_mem _ ((q1 h).2.1)),List.mem_cons_of_mem _ (List.mem_cons_of_mem _ ((q1 h).2.2))⟩,fun h=>Zr rfl (q2 h),fun _=>⟨ZS,(by simp),(by simp)⟩,fun h=>Zr rfl (q4 h),fun h=>⟨Zr rfl (q5 h).1,List.mem_cons_of_mem _ (List.mem_cons_of_mem _ ((q5 h).2.1)),(q5 h).2.2⟩,fun h=>⟨Zr rfl (q6 h).1,(q6 h).2⟩,fun h=>⟨Zr rfl (q7 h).1,(q7 h).2⟩,q8,nof hdn hs 9,fun h=>Zr rfl (q10 h),fun w y9=>y9⟩
 intro s Lz Hz Rz hdn hs hpre hI K hK
 obtain ⟨oa,ob,oc,od,xa,xb,xc,xd,ma,mc,b9,x9,b10,x10,hL0,hR0,q0,q1,q2,q3,q4,q5,q6,q7,q8,q9,q10,hH⟩:=hI
 refine Sy.heap hH ?_
 refine sp rfl (PE.move (Sub.lk hL0 _ _ rfl)) rfl ?_
 exact hK _ _ _ ⟨oa,ob,oc,od,xa,xb,xc,xd,ma,mc,b9,x9,b10,x10,ZD rfl hL0,hR0,lm1 q0,lm2 q1,lm1 q2,lm2 q3,fun _=>ZS,lm2 q5,lm2 q6,lm2 q7,q8,q9,lm1 q10,fun w y9=>y9⟩
 intro s Lz Hz Rz hdn hs hpre hI K hK
 obtain ⟨oa,ob,oc,od,xa,xb,xc,xd,ma,mc,b9,x9,b10,x10,hL0,hR0,q0,q1,q2,q3,q4,q5,q6,q7,q8,q9,q10,hH⟩:=hI
 obtain ⟨h0,h1,h2,h3,h4⟩:s 0=true∧s 1=true∧s 2=true∧s 3=true∧s 4=true:=⟨hpre 0 rfl,hpre 1 rfl,hpre 2 rfl,hpre 3 rfl,hpre 4 rfl⟩
 refine Sy.heap hH ?_
 haveI m0:MemRows af 1 (Z3 fr) Rz:=⟨hR0 _ (inferInstance:MemRows af 1 (Z3 fr) (R)).mem⟩
 refine cl rfl Z7s rfl (by simp only [evs,show ev Lz (.tmp 45)=_ from (q4 h4)]) (Z5g fr af cf (by omega) _ _) ?_
 rintro _ _ R1 ⟨ma,mc,hmc,rfl,rfl,hR1⟩
 obtain rfl:=hR1.symm
 clear hR1
 exact hK _ _ _ ⟨oa,ob,oc,od,xa,xb,xc,xd,ma,mc,b9,x9,b10,x10,ZD rfl hL0,Z07 (hR0),fun h=>Zr rfl (q0 h),fun h=>⟨Zr rfl (q1 h).1,List.mem_cons_of_mem _ ((q1 h).2.1),List.mem_cons_of_mem _ ((q1 h).2.2)⟩,fun h=>Zr rfl (q2 h),fun h=>⟨Zr rfl (q3 h).1,List.mem_cons_of_mem _ ((q3 h).2.1),List.mem_cons_of_mem _ ((q3 h).2.2)⟩,fun h=>Zr rfl (q4 h),fun _=>⟨ZS,(by simp),hmc⟩,fun h=>⟨Zr rfl (q6 h).1,(q6 h).2⟩,fun h=>⟨Zr rfl (q7 h).1,(q7 h).2⟩,q8,q9,nof hdn hs 10,fun w y9=>y9⟩
 intro s Lz Hz Rz hdn hs hpre hI K hK
 obtain ⟨oa,ob,oc,od,xa,xb,xc,xd,ma,mc,b9,x9,b10,x10,hL0,hR0,q0,q1,q2,q3,q4,q5,q6,q7,q8,q9,q10,hH⟩:=hI
 refine Sy.heap hH ?_
 refine alc rfl Z0V rfl (fun b9=>?_)
 exact hK _ _ _ ⟨oa,ob,oc,od,xa,xb,xc,xd,ma,mc,b9,[.int .i64 0,.slice none 0 0,.slice none 0 0],b10,x10,ZD rfl hL0,hR0,lm1 q0,lm2 q1,lm1 q2,lm2 q3,lm1 q4,lm2 q5,fun _=>⟨ZS,fun _=>rfl⟩,lm2 q7,nof hdn hs 8,q9,lm1 q10,fun w y9=>by rw [hs] at y9;exact y9.perm (List.perm_middle.symm.trans (List.Perm.append_left _ (.refl _)))⟩
 intro s Lz Hz Rz hdn hs hpre hI K hK
 obtain ⟨oa,ob,oc,od,xa,xb,xc,xd,ma,mc,b9,x9,b10,x10,hL0,hR0,q0,q1,q2,q3,q4,q5,q6,q7,q8,q9,q10,hH⟩:=hI
 refine Sy.heap hH ?_
 refine alc rfl ZgT rfl (fun b10=>?_)
 exact hK _ _ _ ⟨oa,ob,oc,od,xa,xb,xc,xd,ma,mc,b9,x9,b10,[.int .i64 0,.slice none 0 0,.slice none 0 0],ZD rfl hL0,hR0,lm1 q0,lm2 q1,lm1 q2,lm2 q3,lm1 q4,lm2 q5,lm2 q6,fun _=>⟨ZS,fun _=>rfl⟩,q8,nof hdn hs 9,lm1 q10,fun w y9=>by rw [hs] at y9;exact y9.perm (.refl _)⟩
 intro s Lz Hz Rz hdn hs hpre hI K hK
 obtain ⟨oa,ob,oc,od,xa,xb,xc,xd,ma,mc,b9,x9,b10,x10,hL0,hR0,q0,q1,q2,q3,q4,q5,q6,q7,q8,q9,q10,hH⟩:=hI
 obtain ⟨h0,h1,h2,h3,h4,h5,h6,h7⟩:s 0=true∧s 1=true∧s 2=true∧s 3=true∧s 4=true∧s 5=true∧s 6=true∧s 7=true:=⟨hpre 0 rfl,hpre 1 rfl,hpre 2 rfl,hpre 3 rfl,hpre 4 rfl,hpre 5 rfl,hpre 6 rfl,hpre 7 rfl⟩
 refine Sy.heap hH ?_
 obtain rfl:=(q6 h6).2 hs
 refine Sy.heap (H':=(bif s 7 then [(b10,cel 57 x10)] else [])++((b9,cel 27 [.int .i64 0,.slice none 0 0,.slice none 0 0])::((b6,cel 30 (ZY sw))::(b4,cel 27 (htl h (h.sg ag cg) (h.ss as_ cs)))::H))) (fun w y9=>by rw [h6] at y9;exact y9) ?_
 refine ZG (l':=htl h (h.sg oa oc) (h.ss ob od)) rfl (q6 h6).1 (q1 h1).1 Z1i rfl rfl rfl rfl (Nat.le_refl _) ?_
 exact hK _ _ _ ⟨oa,ob,oc,od,xa,xb,xc,xd,ma,mc,b9,htl h (h.sg oa oc) (h.ss ob od),b10,x10,hL0,hR0,q0,q1,q2,q3,q4,q5,fun h=>⟨(q6 h).1,fun h=>by cases (show true=false from h)⟩,q7,fun _=>rfl,q9,q10,fun w y9=>by show St ((bif s 7 then [(b10,cel 57 x10)] else [])++((bif s 6 then [(b9,cel 27 (htl h (h.sg oa oc) (h.ss ob od)))] else [])++((b6,cel 30 (ZY sw))::(b4,cel 27 (htl h (h.sg ag cg) (h.ss as_ cs)))::H))) Rz w;rw [h6];exact y9⟩
 intro s Lz Hz Rz hdn hs hpre hI K hK
 obtain ⟨oa,ob,oc,od,xa,xb,xc,xd,ma,mc,b9,x9,b10,x10,hL0,hR0,q0,q1,q2,q3,q4,q5,q6,q7,q8,q9,q10,hH⟩:=hI
 obtain ⟨h0,h1,h2,h3,h4,h5,h6,h7,h8⟩:s 0=true∧s 1=true∧s 2=true∧s 3=true∧s 4=true∧s 5=true∧s 6=true∧s 7=true∧s 8=true:=⟨hpre 0 rfl,hpre 1 rfl,hpre 2 rfl,hpre 3 rfl,hpre 4 rfl,hpre 5 rfl,hpre 6 rfl,hpre 7 rfl,hpre 8 rfl⟩
 refine Sy.heap hH ?_
 obtain rfl:=(q7 h7).2 hs
 refine Sy.heap (H':=(b10,cel 57 [.int .i64 0,.slice none 0 0,.slice none 0 0])::((bif s 6 then [(b9,cel 27 x9)] else [])++((b6,cel 30 (ZY sw))::(b4,cel 27 (htl h (h.sg ag cg) (h.ss as_ cs)))::H))) (fun w y9=>by rw [h7] at y9;exact y9) ?_
 refine ZG (l':=htl h (h.sg xa xc) (h.ss xb xd)) rfl (q7 h7).1 (q3 h3).1 ZgY rfl rfl rfl rfl (Nat.le_refl _) ?_
 exact hK _ _ _ ⟨oa,ob,oc,od,xa,xb,xc,xd,ma,mc,b9,x9,b10,htl h (h.sg xa xc) (h.ss xb xd),hL0,hR0,q0,q1,q2,q3,q4,q5,q6,fun h=>⟨(q7 h).1,fun h=>by cases (show true=false from h)⟩,q8,fun _=>rfl,q10,fun w y9=>by show St ((bif s 7 then [(b10,cel 57 (htl h (h.sg xa xc) (h.ss xb xd)))] else [])++((bif s 6 then [(b9,cel 27 x9)] else [])++((b6,cel 30 (ZY sw))::(b4,cel 27 (htl h (h.sg ag cg) (h.ss as_ cs)))::H))) Rz w;rw [h7];exact y9⟩
 intro s Lz Hz Rz hdn hs hpre hI K hK
 obtain ⟨oa,ob,oc,od,xa,xb,xc,xd,ma,mc,b9,x9,b10,x10,hL0,hR0,q0,q1,q2,q3,q4,q5,q6,q7,q8,q9,q10,hH⟩:=hI
 obtain ⟨h0,h1,h2,h3,h4,h5,h6,h7,h8,h9⟩:s 0=true∧s 1=true∧s 2=true∧s 3=true∧s 4=true∧s 5=true∧s 6=true∧s 7=true∧s 8=true∧s 9=true:=⟨hpre 0 rfl,hpre 1 rfl,hpre 2 rfl,hpre 3 rfl,hpre 4 rfl,hpre 5 rfl,hpre 6 rfl,hpre 7 rfl,hpre 8 rfl,hpre 9 rfl⟩
 refine Sy.heap hH ?_
 refine sp rfl (PE.assign (q5 h5).1) rfl ?_
 exact hK _ _ _ ⟨oa,ob,oc,od,xa,xb,xc,xd,ma,mc,b9,x9,b10,x10,ZD rfl hL0,hR0,lm1 q0,lm2 q1,lm1 q2,lm2 q3,lm1 q4,lm2 q5,lm2 q6,lm2 q7,q8,q9,fun _=>ZS,fun w y9=>y9⟩
 intro Lz Hz Rz hI
 obtain ⟨oa,ob,oc,od,xa,xb,xc,xd,ma,mc,b9,x9,b10,x10,hL0,hR0,q0,q1,q2,q3,q4,q5,q6,q7,q8,q9,q10,hH⟩:=hI
 obtain rfl:=q9 rfl
 obtain rfl:=q8 rfl
 have hmc:fr.length≤mc:=(q5 rfl).2.2
 refine Sy.weak (L':=[(10,.pointer (some ⟨b10,0,none⟩)),(9,.pointer (some ⟨b9,0,none⟩)),(11,.slice ma fr.length mc),(1,.slice af fr.length cf),(3,.int .i64 n),(4,.pointer (some ⟨b4,0,none⟩)),(6,.pointer (some ⟨b6,0,none⟩))]) (H':=(b10,cel 57 (htl h (h.sg xa xc) (h.ss xb xd)))::(b9,cel 27 (htl h (h.sg oa oc) (h.ss ob od)))::(b6,cel 30 (ZY sw))::(b4,cel 27 (htl h (h.sg ag cg) (h.ss as_ cs)))::H) (R':=RowsA ma 1 (Z3 fr)::RowsA xb 3 (Z8 h.sights)::RowsA xa 2 (Z7 h.gaps)::RowsA ob 3 (Z8 h.sights)::RowsA oa 2 (Z7 h.gaps)::R) ?_ (Sub.cons (q7 rfl).1 (Sub.cons (q6 rfl).1 (Sub.cons (q10 rfl) hL0))).lk (fun w h=>St.facts (hH w h) (Z06 (q5 rfl).2.1 (Z06 (q3 rfl).2.1 (Z06 (q3 rfl).2.2 (Z06 (q1 rfl).2.1 (Z06 (q1 rfl).2.2 hR0))))))
 refine sqt 3 rfl (spL rfl rfl (lhA (htl h (h.sg xa xc) (h.ss xb xd)) Z1q rfl rfl rfl) rfl ?_)
 refine clV rfl ZaA rfl rfl (Z3e h xa xb xc xd (by omega) (by omega) _ _) ?_
 refine pur 1 rfl (Z0 (sqt 4 rfl (spL rfl rfl (lhA (htl h (h.sg oa oc) (h.ss ob od)) ZA rfl rfl rfl) rfl ?_)))
 refine clV rfl Z1N rfl rfl (Z0a h oa ob oc od (by omega) (by omega) _ _) ?_
 refine pur 2 rfl ?_
 refine Z1 rfl ?_ ?_<;>intro hc1
 exact absurd hc1 (by simp)
 refine Z2 (sqt 6 rfl (pur 6 rfl (sqt 2 rfl (pur 2 rfl (sqt 1 rfl (pur 1 rfl (sqt 2 rfl (alc rfl Z0V rfl (fun b19=>alc rfl Z0V rfl (fun b20=>Z0 (sqt 2 rfl (pur 2 rfl ?_))))))))))))
 refine ZL (ι:=(Option Addr×Nat)×(Option Addr×Nat)×((Option Addr×Option Addr)×Nat×Nat)×((Option Addr×Option Addr)×Nat×Nat)) (fun q=>⟨[(1,.slice af fr.length cf),(3,.int .i64 n),(4,.pointer (some ⟨b4,0,none⟩)),(6,.pointer (some ⟨b6,0,none⟩)),(9,.pointer (some ⟨b9,0,none⟩)),(10,.pointer (some ⟨b10,0,none⟩)),(11,.slice ma fr.length mc),(12,.int .i64 h.check),(13,.int .i64 (h.lsE fr)),(14,.int .i64 (h.seeE sw)),(15,.int .i64 (h.cloE n)),(16,.slice q.1.1 (h.weeksR fr).1.length q.1.2),(17,.slice q.2.1.1 h.clrR.1.length q.2.1.2),(18,.bool (decide (h.lsE fr=0)&&Z1D h.gaps (msk fr) h.sights)),(19,.pointer (some ⟨b19,0,none⟩)),(20,.pointer (some ⟨b20,0,none⟩))],(b20,cel 27 (htl (h.cloH n) ((h.cloH n).sg q.2.2.2.1.1 q.2.2.2.2.1) ((h.cloH n).ss q.2.2.2.1.2 q.2.2.2.2.2)))::(b19,cel 27 (htl (h.seeH sw) ((h.seeH sw).sg q.2.2.1.1.1 q.2.2.1.2.1) ((h.seeH sw).ss q.2.2.1.1.2 q.2.2.1.2.2)))::(b10,cel 57 (htl h (h.sg xa xc) (h.ss xb xd)))::(b9,cel 27 (htl h (h.sg oa oc) (h.ss ob od)))::(b6,cel 30 (ZY sw))::(b4,cel 27 (htl h (h.sg ag cg) (h.ss as_ cs)))::H,RowsA q.2.2.2.1.2 3 (Z8 (h.cloH n).sights)::RowsA q.2.2.2.1.1 2 (Z7 (h.cloH n).gaps)::RowsA q.2.2.1.1.2 3 (Z8 (h.seeH sw).sights)::RowsA q.2.2.1.1.1 2 (Z7 (h.seeH sw).gaps)::RowsA q.2.1.1 1 (Z3 h.clrR.1)::RowsA q.1.1 1 (Z3 (h.weeksR fr).1)::RowsA ma 1 (Z3 fr)::RowsA xb 3 (Z8 h.sights)::RowsA xa 2 (Z7 h.gaps)::RowsA ob 3 (Z8 h.sights)::RowsA oa 2 (Z7 h.gaps)::R⟩) ?_ ?_
 refine Z1 rfl ?_ ?_<;>intro hc2<;>try simp only [cS] at hc2
 have hck:h.check=0:=hc2
 have hok:=hse_ok.1 hck
 have hgl:=hok.gl
 have hsl:=hok.sl
 have hbn:=hok.bins
 have els:h.lsE fr=ZM h.bins fr:=ZeI hck
 refine Z0 (sqt 5 rfl (pur 1 rfl (sp rfl (PE.fA Z0h rfl) rfl (spL rfl rfl (lh (v:=.int .i64 h.bins) sc3 rfl rfl) rfl ?_))))
 refine clV rfl Z7v rfl rfl (Z1f fr af cf h.bins (by omega) (by omega) hfc _ _) ?_
 rw [← els]
 refine pur 1 rfl (sqt 2 rfl (pur 2 rfl ?_))
 refine ZL (ι:=Option Addr×Nat) (fun q=>⟨[(1,.slice af fr.length cf),(3,.int .i64 n),(4,.pointer (some ⟨b4,0,none⟩)),(6,.pointer (some ⟨b6,0,none⟩)),(9,.pointer (some ⟨b9,0,none⟩)),(10,.pointer (some ⟨b10,0,none⟩)),(11,.slice ma fr.length mc),(12,.int .i64 h.check),(13,.int .i64 (h.lsE fr)),(14,.int .i64 h.check),(15,.int .i64 h.check),(16,.slice q.1 (h.weeksR fr).1.length q.2),(17,.slice none 0 0),(18,.bool (decide (h.lsE fr=0)&&Z1D h.gaps (msk fr) h.sights)),(19,.pointer (some ⟨b19,0,none⟩)),(20,.pointer (some ⟨b20,0,none⟩))],(b20,cel 27 (htl ⟨0,[],[]⟩ (.slice none 0 0) (.slice none 0 0)))::(b19,cel 27 (htl ⟨0,[],[]⟩ (.slice none 0 0) (.slice none 0 0)))::(b10,cel 57 (htl h (h.sg xa xc) (h.ss xb xd)))::(b9,cel 27 (htl h (h.sg oa oc) (h.ss ob od)))::(b6,cel 30 (ZY sw))::(b4,cel 27 (htl h (h.sg ag cg) (h.ss as_ cs)))::H,RowsA q.1 1 (Z3 (h.weeksR fr).1)::RowsA ma 1 (Z3 fr)::RowsA xb 3 (Z8 h.sights)::RowsA xa 2 (Z7 h.gaps)::RowsA ob 3 (Z8 h.sights)::RowsA oa 2 (Z7 h.gaps)::R⟩) ?_ ?_
 refine Z1 rfl ?_ ?_<;>intro hc3<;>try simp only [cS] at hc3
 have hle:h.lsE fr=0:=hc3
 have hl0:ZM h.bins fr=0:=els.symm.trans hle
 obtain ⟨ew1,ew2⟩:=Zcf hok hle
 have e8:(decide (h.lsE fr=0)&&Z1D h.gaps (msk fr) h.sights)=Z1D h.gaps (msk fr) h.sights:=by rw [hle];rfl
 refine Sy.heap (fun w h9=>St.norows (sz:=1) (h9)) ?_
 refine Zo [0,0,3,0,0,31,63,127] (.ld 0 (.tk 1 (.ld 3 (.tk 4 (.big 2 (.big 5 (.tk 6 (.tk 7 .done)))))))) ZF (by kernel_rfl) ?_
 refine ld rfl rfl (lhA (htl h (h.sg xa xc) (h.ss xb xd)) Z1q rfl rfl rfl) rfl (Zu 1 rfl (ld rfl rfl (lhA (htl h (h.sg xa xc) (h.ss xb xd)) Z1q rfl rfl rfl) rfl (Zu 1 rfl ?_)))
 refine cl rfl Z7w rfl rfl (Z1X h xa xb xc xd hok fr [] af none cf 0 hl0 (fun x hx=>by cases hx) (by decide) _ _) ?_
 rintro _ _ R1 ⟨aw,cw,rfl,rfl,hR1⟩
 obtain rfl:=hR1.symm
 clear hR1
 rw [ew1,ew2]
 refine bg (fun w hs=>⟨(lhA (htl h (h.sg xa xc) (h.ss xb xd)) Z1q rfl rfl rfl) w hs,trivial,trivial⟩) ?_
 refine clV rfl Zi7 rfl rfl (Z4u h xa xb xc xd hok fr af cf hl0 _ _) ?_
 refine bgT (Zu 2 rfl ?_)
 exact ZR (aw,cw) (by dsimp only;rw [e8];exact sbA) (fun w h9=>h9.facts (fun g hg=>by simp only [List.mem_cons] at hg ⊢;rcases hg with h8 | h8 | h8 | h8 | h8 | h8 | h8<;>simp [h8]))
 have hle:h.lsE fr≠0:=hc3
 have e6:=Z99 hle
 have e8:(decide (h.lsE fr=0)&&Z1D h.gaps (msk fr) h.sights)=false:=by rw [dF hle];rfl
 refine Z2 ?_
 exact ZR (none,0) (by dsimp only;rw [e6,dF hle,Bool.false_and];exact sbA) (fun w h9=>by dsimp only;rw [e6];exact St.norows (sz:=1) (h9))
 rintro ⟨aw,cw⟩
 dsimp only
 refine sqt 3 rfl (spL rfl rfl (lhA (htl h (h.sg xa xc) (h.ss xb xd)) Z1q rfl rfl rfl) rfl ?_)
 refine cl rfl Zi8 rfl rfl (Z5i h xa xb xc xd hok _ _) ?_
 rintro _ _ R1 ⟨ac,cc,rfl,rfl,hR1⟩
 obtain rfl:=hR1.symm
 clear hR1
 refine pur 1 rfl (Z0 (sqt 1 rfl (pur 1 rfl (sqt 4 rfl (sp rfl (PE.fA ZN rfl) rfl (spL rfl rfl (lh Z1L rfl rfl) rfl (sp rfl (PE.lenSl Z2l rfl) rfl (pur 1 rfl ?_))))))))
 refine ZL (ι:=((Option Addr×Option Addr)×Nat×Nat)) (fun q=>⟨[(1,.slice af fr.length cf),(3,.int .i64 n),(4,.pointer (some ⟨b4,0,none⟩)),(6,.pointer (some ⟨b6,0,none⟩)),(9,.pointer (some ⟨b9,0,none⟩)),(10,.pointer (some ⟨b10,0,none⟩)),(11,.slice ma fr.length mc),(12,.int .i64 h.check),(13,.int .i64 (h.lsE fr)),(14,.int .i64 (h.seeE sw)),(15,.int .i64 h.check),(16,.slice aw (h.weeksR fr).1.length cw),(17,.slice ac h.clrR.1.length cc),(18,.bool (decide (h.lsE fr=0)&&Z1D h.gaps (msk fr) h.sights)),(19,.pointer (some ⟨b19,0,none⟩)),(20,.pointer (some ⟨b20,0,none⟩))],(b20,cel 27 (htl ⟨0,[],[]⟩ (.slice none 0 0) (.slice none 0 0)))::(b19,cel 27 (htl (h.seeH sw) ((h.seeH sw).sg q.1.1 q.2.1) ((h.seeH sw).ss q.1.2 q.2.2)))::(b10,cel 57 (htl h (h.sg xa xc) (h.ss xb xd)))::(b9,cel 27 (htl h (h.sg oa oc) (h.ss ob od)))::(b6,cel 30 (ZY sw))::(b4,cel 27 (htl h (h.sg ag cg) (h.ss as_ cs)))::H,RowsA q.1.2 3 (Z8 (h.seeH sw).sights)::RowsA q.1.1 2 (Z7 (h.seeH sw).gaps)::RowsA ac 1 (Z3 h.clrR.1)::RowsA aw 1 (Z3 (h.weeksR fr).1)::RowsA ma 1 (Z3 fr)::RowsA xb 3 (Z8 h.sights)::RowsA xa 2 (Z7 h.gaps)::RowsA ob 3 (Z8 h.sights)::RowsA oa 2 (Z7 h.gaps)::R⟩) ?_ ?_
 refine Z1 rfl ?_ ?_<;>intro hc4<;>try simp only [cS] at hc4
 have hgo:=ZbQ (s:=sw) hck (by omega)
 refine sqt 3 rfl (spL rfl rfl (lhA (htl h (h.sg ag cg) (h.ss as_ cs)) ZA rfl rfl rfl) rfl ?_)
 refine cl rfl Z9i rfl rfl (Zfn h ag as_ cg cs (by omega) (by omega) _ _) ?_
 rintro _ _ R1 ⟨og,os,rfl,rfl,hR1⟩
 obtain rfl:=hR1.symm
 clear hR1
 refine ZG (l':=htl h og.fs os.fs) rfl rfl rfl Z1i rfl rfl (by show (htl _ og.fs os.fs).all (·.oneCell')=true;simp only [htl,List.all_cons,List.all_nil,og.cells.2,os.cells.2,Bool.and_true];rfl) rfl (nl rfl) ?_
 refine sqt 7 rfl (sp rfl (PE.fA ZN rfl) rfl (spL rfl rfl (lh Z1L rfl rfl) rfl (spL rfl rfl (lhA (ZY sw) Z6r rfl rfl rfl) rfl ?_)))
 refine bsl (out:=[_,_,_]) rfl Z7j Z41 rfl rfl rfl rfl rfl rfl (fun b81=>?_)
 refine apO (os) rfl Z7e rfl rfl (Z02 (row:=ZY sw) rfl) rfl rfl ((by rw [ZE];simp only [List.length_singleton];omega)) rfl (fun o82=>?_)
 refine sp rfl (PE.fA ZN rfl) rfl ?_
 refine ZG (l':=htl h og.fs o82.fs) rfl rfl rfl Zja rfl (by rw [o82.cells.1];first | done | rfl) (by rw [o82.cells.1];simp [o82.cells.2]) (by rw [o82.cells.1];first | done | rfl) (by rw [o82.cells.1];first | done | exact Nat.le_of_ble_eq_true rfl) ?_
 refine sqt 4 rfl ?_
 obtain ⟨sa,sc,he1,hsc,hz1⟩:=og.freezeC
 obtain ⟨sb,sd,he2,hsd,hz2⟩:=(o82.cast (show Z8 h.sights++[ZY sw]=Z8 (h.add sw).sights from by unfold Hse.add;rw [Z2Q];rfl)).freezeC
 rw [show o82.fs=_ from he2,ZE,he1,ZJ]
 refine Sy.heap (fun w h9=>h9.del b81) ?_
 refine Sy.heap (H':=og.G++_) (fun w h9=>hz2 h9) ?_
 refine Sy.heap (H':=_) (fun w h9=>hz1 h9) ?_
 clear he1 he2 hz1 hz2
 refine Z0p b19 ?_
 refine Sy.heap (H':=(b19,cel 27 (htl (h.add sw) ((h.add sw).sg sa sc) ((h.add sw).ss sb sd)))::_) (fun w h9=>h9) ?_
 refine spL rfl rfl (lhA (htl (h.add sw) ((h.add sw).sg sa sc) ((h.add sw).ss sb sd)) ZA rfl rfl rfl) rfl ?_
 refine cl rfl Zaz rfl rfl (Z3f (h.add sw) sa sb sc sd (by show h.gaps.length≤_;omega) (by unfold Hse.add;simp only [List.length_append,List.length_singleton];omega) _ _) ?_
 rintro _ _ R1 ⟨ta,tb,tc,td,rfl,rfl,hR1⟩
 obtain rfl:=hR1.symm
 clear hR1
 refine clV rfl ZaA rfl rfl (Z3e (h.add sw) ta tb tc td (by show h.gaps.length≤_;omega) (by unfold Hse.add;simp only [List.length_append,List.length_singleton];omega) _ _) ?_
 refine pur 1 rfl (sqt 2 rfl (pur 2 rfl ?_))
 refine Z1 rfl ?_ ?_<;>intro hc5<;>try simp only [cS] at hc5
 have hc9:(h.add sw).check≠0:=hc5
 have e5:=Z1S hgo hc9
 refine Sy.heap (R':=RowsA ac 1 (Z3 h.clrR.1)::RowsA aw 1 (Z3 (h.weeksR fr).1)::RowsA ma 1 (Z3 fr)::RowsA xb 3 (Z8 h.sights)::RowsA xa 2 (Z7 h.gaps)::RowsA ob 3 (Z8 h.sights)::RowsA oa 2 (Z7 h.gaps)::R) (fun w h9=>h9.facts (fun g hg=>by simp only [List.mem_cons] at hg ⊢;rcases hg with h8 | h8 | h8 | h8 | h8 | h8 | h8 | h8<;>simp [h8,Hse.add])) ?_
 refine sqr 2 rfl (sp rfl (PE.build (out:=htl ⟨0,[],[]⟩ (.slice none 0 0) (.slice none 0 0)) Z3J Z0V rfl rfl) rfl ?_)
 refine ZG (l':=htl ⟨0,[],[]⟩ (.slice none 0 0) (.slice none 0 0)) rfl rfl rfl Z1i rfl rfl rfl rfl (nl rfl) ?_
 exact ZR ((none,none),0,0) (by dsimp only;rw [hgo];exact sbA) (fun w h9=>by dsimp only;rw [e5];exact St.norows (sz:=3) (St.norows (sz:=2) (((h9.pull b19).pull b20))))
 have hc9:(h.add sw).check=0:=Classical.byContradiction hc5
 have e2:h.seeE sw=0:=hgo.trans hc9
 have e5:=Z2a e2
 refine Z2 ?_
 exact ZR ((sa,sb),sc,sd) (by dsimp only;rw [hgo];exact sbA) (fun w h9=>by dsimp only;rw [e5];exact (((h9.pull b19).pull b20).facts (fun g hg=>by simp only [List.mem_cons] at hg ⊢;rcases hg with h8 | h8 | h8 | h8 | h8 | h8 | h8 | h8 | h8 | h8<;>simp [h8,Hse.add])))
 have e2:=Z74 (s:=sw) hck (by omega)
 have e5:=Z1S e2 (by decide)
 refine Z2 ?_
 exact ZR ((none,none),0,0) (by dsimp only;rw [e2];exact sbA) (fun w h9=>by dsimp only;rw [e5];exact St.norows (sz:=3) (St.norows (sz:=2) (h9)))
 rintro ⟨⟨sa,sb⟩,sc,sd⟩
 dsimp only
 refine sqt 1 rfl (pur 1 rfl (sqt 9 rfl (pur 3 rfl ?_)))
 refine Zj 92 rfl ?_ ?_<;>intro g92
 try simp only [cS] at g92
 refine pur 1 rfl ?_
 refine spG rfl rfl rfl rfl (PE.fA ZT rfl) rfl ?_
 refine Z0m rfl rfl rfl rfl rfl (lh Z2g rfl rfl) rfl ?_
 refine spG rfl rfl rfl rfl (PE.lenSl Z1s rfl) rfl ?_
 refine pur 2 rfl ?_
 refine Z1 rfl ?_ ?_<;>intro hc6<;>try simp only [cS] at hc6
 obtain ⟨i,rfl⟩:∃ i:Nat,n=i:=⟨n.toNat,by omega⟩
 have hil:i<h.gaps.length:=by omega
 have e9:(!inB (i:Int) 0 ((h.gaps.length:Int)-1))=false:=by simp only [inB];rw [Bool.not_eq_false',Bool.and_eq_true,decide_eq_true_eq,decide_eq_true_eq];omega
 obtain ⟨e3,e4⟩:=ZaK hck e9
 rw [Int.toNat_natCast] at e4
 refine sqt 4 rfl (spL rfl rfl (lhA (htl h (h.sg ag cg) (h.ss as_ cs)) ZA rfl rfl rfl) rfl ?_)
 refine cl rfl Z9i rfl rfl (Zfn h ag as_ cg cs (by omega) (by omega) _ _) ?_
 rintro _ _ R1 ⟨oG,oS,rfl,rfl,hR1⟩
 obtain rfl:=hR1.symm
 clear hR1
 have hgl9:(Z7 h.gaps).length=h.gaps.length:=ZJ h.gaps
 obtain ⟨b,cap,junk,hfs,hG,hj,hcap,hmx⟩:=oG.is.resolve_left (fun h9=>by have:=congrArg List.length h9.1;rw [hgl9] at this;simp only [List.length_nil] at this;omega)
 rw [hgl9] at hfs hcap hj
 rw [hfs,hG]
 obtain ⟨zb,zd,he2,hzd,hz2⟩:=oS.freezeC
 rw [ZE] at he2
 rw [he2]
 refine Sy.heap (fun w h9=>hz2 h9) ?_
 refine Sy.heap (H':=(b,cel 34 ((Z7 h.gaps).flatten++junk))::(b20,cel 27 (htl ⟨0,[],[]⟩ (.slice none 0 0) (.slice none 0 0)))::(b19,cel 27 (htl (h.seeH sw) ((h.seeH sw).sg ((sa,sb),sc,sd).1.1 ((sa,sb),sc,sd).2.1) ((h.seeH sw).ss ((sa,sb),sc,sd).1.2 ((sa,sb),sc,sd).2.2)))::(b10,cel 57 (htl h (h.sg xa xc) (h.ss xb xd)))::(b9,cel 27 (htl h (h.sg oa oc) (h.ss ob od)))::(b6,cel 30 (ZY sw))::(b4,cel 27 (htl h (h.sg ag cg) (h.ss as_ cs)))::H) (fun w h9=>h9) ?_
 clear he2 hz2
 refine ZG (l':=htl h (.slice (some ⟨b,0,none⟩) h.gaps.length cap) (.slice zb h.sights.length zd)) rfl rfl rfl Z1i rfl rfl rfl rfl (nl rfl) ?_
 refine pur 1 rfl ?_
 refine Zo [0,1,0,7,0,16,0,64,240,511,1023,2047] (.tk 0 (.ld 1 (tks 2 3 (.ld 5 (tks 6 3 (.big 9 (.tk 10 (.big 11 .done)))))))) ZF (by kernel_rfl) ?_
 refine tk rfl (PE.fA ZT rfl) rfl (ld rfl rfl (lh Z2g rfl rfl) rfl (Zu 1 rfl (tk rfl (PE.slHi (h:=i) Z7U rfl rfl (by omega)) rfl (tk rfl (PE.fA ZT rfl) rfl (ld rfl rfl (lh Z2g rfl rfl) rfl (Zu 1 rfl (tk rfl (PE.add rfl rfl (by omega)) rfl ?_)))))))
 rw [show (i:Int)+1=((i+1:Nat):Int) by omega]
 refine tk rfl (PE.slLoA (l:=i+1) Z7U rfl rfl (by omega)) rfl ?_
 obtain ⟨ax,hax,hsrc⟩:∃ ax:Addr,(if cap=i+1 then some (⟨b,0,none⟩:Addr) else (some (⟨b,0,none⟩:Addr)).map (·.add ((i+1)*2)))=some ax∧∀ j v,(((Z7 h.gaps).drop (i+1)).flatten)[j]?=some v→ax.add j=⟨b,(i+1)*2+j,none⟩:=by
   by_cases h9:cap=i+1
   · refine ⟨_,if_pos h9,fun j v hj=>?_⟩
     have:=(List.getElem?_eq_some_iff.1 hj).1
     rw [Z0y,Z12,List.length_drop] at this;omega
   · exact ⟨_,if_neg h9,fun j v hj=>by show ((⟨b,0,none⟩:Addr).add ((i+1)*2)).add j=_;rw [Z00,Z00];simp⟩
 rw [hax]
 refine apI (((Z7 h.gaps).drop (i+1)).flatten) rfl Z7U rfl rfl (by rw [Z0y,Z12,List.length_drop]) (fun w hs j v hj=>by rw [hsrc j v hj,Z20 (hs.held (b,cel 34 ((Z7 h.gaps).flatten++junk)) (by simp))];simpa using ZbG (junk:=junk) (Z2N h.gaps) (by rw [ZJ];omega) hj) (by rw [Z0y];exact Zbb _) (by omega) (by rw [Z0y,Z12,List.length_drop,List.length_append,Z12];omega) rfl ?_
 rw [Z5x (Z2N h.gaps) (by rw [ZJ];exact hil),ZJ,Z4F,show i+(h.gaps.length-(i+1))=h.gaps.length-1 from by omega]
 have hel:(h.gaps.eraseIdx i).length=h.gaps.length-1:=List.length_eraseIdx_of_lt hil
 rw [← hel]
 refine bgT (tk rfl (PE.fA ZT rfl) rfl ?_)
 refine ZG (l':=htl ⟨h.bins,h.gaps.eraseIdx i,h.sights⟩ (.slice (some ⟨b,0,none⟩) (h.gaps.eraseIdx i).length cap) (.slice zb h.sights.length zd)) rfl rfl rfl Zj9 rfl rfl rfl rfl (nl rfl) ?_
 refine Z0p b ?_
 refine Sy.heap (fun w h9=>St.rows (sz:=2) (rows:=Z7 (h.gaps.eraseIdx i)) h9 (Z2N _)) ?_
 refine bgT ?_
 exact ZR ((aw,cw),(ac,cc),((sa,sb),sc,sd),((some ⟨b,0,none⟩,zb),cap,zd)) (by dsimp only;rw [e3];exact sbA) (fun w h9=>by dsimp only;rw [e4];exact h9.facts (fun g hg=>by simp only [List.mem_cons] at hg ⊢;rcases hg with h8 | h8 | h8 | h8 | h8 | h8 | h8 | h8 | h8 | h8 | h8 | h8<;>simp [h8,Hse.add]))
 have e9:(!inB n 0 ((h.gaps.length:Int)-1))=true:=by simp only [inB];rw [Bool.not_eq_true',Bool.and_eq_false_iff,decide_eq_false_iff_not,decide_eq_false_iff_not];omega
 obtain ⟨e3,e4⟩:=Z7z hck e9
 refine Z2 ?_
 exact ZR ((aw,cw),(ac,cc),((sa,sb),sc,sd),((none,none),0,0)) (by dsimp only;rw [e3];exact sbA) (fun w h9=>by dsimp only;rw [e4];exact St.norows (sz:=3) (St.norows (sz:=2) (h9)))
 try simp only [cS] at g92
 have e9:(!inB n 0 ((h.gaps.length:Int)-1))=true:=by simp only [inB];rw [Bool.not_eq_true',Bool.and_eq_false_iff,decide_eq_false_iff_not,decide_eq_false_iff_not];omega
 obtain ⟨e3,e4⟩:=Z7z hck e9
 refine pur 6 rfl ?_
 refine Zz rfl ?_
 refine Z2 ?_
 exact ZR ((aw,cw),(ac,cc),((sa,sb),sc,sd),((none,none),0,0)) (by dsimp only;rw [e3];exact sbA) (fun w h9=>by dsimp only;rw [e4];exact St.norows (sz:=3) (St.norows (sz:=2) (h9)))
 have hck:h.check≠0:=hc2
 have e1:=ZeH (l:=fr) hck
 have e2:=ZbP (s:=sw) hck
 obtain ⟨e3,e4⟩:=ZaJ (n:=n) hck
 have e5:=Z1S e2 hck
 have e6:=Z99 (l:=fr) (by rw [e1];exact hck)
 have e7:=Zig hck
 have e8:(decide (h.lsE fr=0)&&Z1D h.gaps (msk fr) h.sights)=false:=by rw [e1,dF hck];rfl
 refine Z2 ?_
 exact ZR ((none,0),(none,0),((none,none),0,0),((none,none),0,0)) (by dsimp only;rw [e1,e2,e3,e6,e7,dF hck,Bool.false_and];exact sbA) (fun w h9=>by
   dsimp only
   rw [e4,e5,e6,e7]
   exact St.norows (sz:=3) (St.norows (sz:=2) (St.norows (sz:=3) (St.norows (sz:=2) (St.norows (sz:=1) (St.norows (sz:=1) (h9)))))))
 rintro ⟨⟨aw,cw⟩,⟨ac,cc⟩,⟨⟨sa,sb⟩,sc,sd⟩,⟨⟨za,zb⟩,zc,zd⟩⟩
 dsimp only
 refine sqt 8 rfl ?_
 have hyg:(h.seeH sw).gaps.length≤1000000∧(h.seeH sw).sights.length≤1000000:=by
   unfold Hse.seeH Hse.add
   cases decide (h.seeE sw=0)<;>simp<;>omega
 have hzg:(h.cloH n).gaps.length≤1000000∧(h.cloH n).sights.length≤1000000:=by
   unfold Hse.cloH
   have:=List.length_eraseIdx_le h.gaps n.toNat
   cases decide (h.cloE n=0)<;>simp<;>omega
 obtain ⟨hyg1,hyg2⟩:=hyg
 obtain ⟨hzg1,hzg2⟩:=hzg
 refine spL rfl rfl (lhA (htl h (h.sg oa oc) (h.ss ob od)) ZA rfl rfl rfl) rfl (pur 1 rfl ?_)
 refine cl rfl Zi2 rfl rfl (Zaa h oa ob oc od (by omega) (by omega) fr ma mc (by omega) hmc _ _) ?_
 rintro _ _ R1 ⟨wa,wc,hwc,rfl,rfl,hR1⟩
 obtain rfl:=hR1.symm
 clear hR1
 rw [ZgR]
 refine pur 5 rfl (sqt 8 rfl (spL rfl rfl (lhA (htl h (h.sg oa oc) (h.ss ob od)) ZA rfl rfl rfl) rfl (pur 1 rfl ?_)))
 refine clV rfl Zjz rfl rfl (Z9f h oa ob oc od (by omega) (by omega) fr ma mc (by omega) hmc _ _) ?_
 refine pur 5 rfl (sqt 7 rfl (spL rfl rfl (lhA (htl h (h.sg oa oc) (h.ss ob od)) ZA rfl rfl rfl) rfl ?_))
 refine cl rfl ZjA rfl rfl (Za2 h oa ob oc od (by omega) (by omega) _ _) ?_
 rintro _ _ R1 ⟨ka,kc,hkc,rfl,rfl,hR1⟩
 obtain rfl:=hR1.symm
 clear hR1
 rw [ZjW]
 refine pur 5 rfl (sqt 9 rfl (spL rfl rfl (lhA (htl h (h.sg oa oc) (h.ss ob od)) ZA rfl rfl rfl) rfl (spL rfl rfl (lhA (ZY sw) Z6r rfl rfl rfl) rfl ?_)))
 refine cl rfl ZjB rfl rfl (Zhd h oa ob oc od (by omega) (by omega) sw _ _) ?_
 rintro _ _ R1 ⟨yg,ys,rfl,rfl,hR1⟩
 obtain rfl:=hR1.symm
 clear hR1
 refine pur 3 rfl (alc rfl Z0V rfl (fun b27=>?_))
 refine ZG (l':=htl (h.seeH sw) yg.fs ys.fs) rfl rfl rfl Z1i rfl rfl (by show (htl _ yg.fs ys.fs).all (·.oneCell')=true;simp only [htl,List.all_cons,List.all_nil,yg.cells.2,ys.cells.2,Bool.and_true];rfl) rfl (nl rfl) ?_
 refine pur 1 rfl (sqt 9 rfl (spL rfl rfl (lhA (htl h (h.sg oa oc) (h.ss ob od)) ZA rfl rfl rfl) rfl (pur 1 rfl ?_)))
 refine cl rfl ZjC rfl rfl (ZcD h oa ob oc od (by omega) (by omega) n _ _) ?_
 rintro _ _ R1 ⟨zg,zs,rfl,rfl,hR1⟩
 obtain rfl:=hR1.symm
 clear hR1
 refine pur 3 rfl (alc rfl Z0V rfl (fun b29=>?_))
 refine ZG (l':=htl (h.cloH n) zg.fs zs.fs) rfl rfl rfl Z1i rfl rfl (by show (htl _ zg.fs zs.fs).all (·.oneCell')=true;simp only [htl,List.all_cons,List.all_nil,zg.cells.2,zs.cells.2,Bool.and_true];rfl) rfl (nl rfl) ?_
 refine pur 1 rfl (Z0 (sqt 52 rfl ?_))
 refine Sy.heap (H':=ys.G++(yg.G++(zs.G++(zg.G++((b29,cel 27 (htl (h.cloH n) zg.fs zs.fs))::(b27,cel 27 (htl (h.seeH sw) yg.fs ys.fs))::(b20,cel 27 (htl (h.cloH n) ((h.cloH n).sg za zc) ((h.cloH n).ss zb zd)))::(b19,cel 27 (htl (h.seeH sw) ((h.seeH sw).sg sa sc) ((h.seeH sw).ss sb sd)))::(b10,cel 57 (htl h (h.sg xa xc) (h.ss xb xd)))::(b9,cel 27 (htl h (h.sg oa oc) (h.ss ob od)))::(b6,cel 30 (ZY sw))::(b4,cel 27 (htl h (h.sg ag cg) (h.ss as_ cs)))::H))))) (fun w h9=>h9.perm (pC9 _ _ zs.G zg.G ys.G yg.G _)) ?_
 refine pur 4 rfl ?_
 refine Zj 144 rfl ?_ ?_<;>intro g144
 exact absurd g144 (by simp)
 refine pur 5 rfl ?_
 refine Zj 149 rfl ?_ ?_<;>intro g149
 exact absurd g149 (by simp)
 refine pur 5 rfl ?_
 refine Zj 154 rfl ?_ ?_<;>intro g154
 exact absurd g154 (by simp)
 refine pur 5 rfl ?_
 refine Zj 159 rfl ?_ ?_<;>intro g159
 exact absurd g159 (by simp)
 refine pur 5 rfl ?_
 refine Zj 164 rfl ?_ ?_<;>intro g164
 exact absurd g164 (by simp)
 refine pur 2 rfl ?_
 refine Z0C rfl rfl rfl rfl Z1Y rfl rfl (ZW (h.weeksR fr).1 (h.weeksR fr).1 wa aw wc cw (by have:=Z7c h fr;omega) (by have:=Z7c h fr;omega) _ _) ?_
 refine pur 3 rfl ?_
 refine Zj 170 rfl ?_ ?_<;>intro g170
 exact absurd g170 (by simp)
 refine pur 2 rfl ?_
 refine spG rfl rfl rfl rfl (PE.neqBool ub4 rfl rfl) rfl ?_
 refine pur 2 rfl ?_
 refine Zj 175 rfl ?_ ?_<;>intro g175
 exact absurd g175 (by simp)
 refine pur 2 rfl ?_
 refine Z0C rfl rfl rfl rfl Z1Y rfl rfl (ZW h.clrR.1 h.clrR.1 ka ac kc cc (by have:=Z8l h;omega) (by have:=Z8l h;omega) _ _) ?_
 refine pur 3 rfl ?_
 refine Zj 181 rfl ?_ ?_<;>intro g181
 first | (focus (rw [sameH_iff.2 rfl] at g181;exact absurd g181 (by decide))) | exact absurd g181 (by simp)
 refine Z0m rfl rfl rfl rfl rfl (lhA (htl (h.seeH sw) yg.fs ys.fs) ZA rfl rfl rfl) rfl (Z0m rfl rfl rfl rfl rfl (lhA (htl (h.seeH sw) ((h.seeH sw).sg sa sc) ((h.seeH sw).ss sb sd)) ZA rfl rfl rfl) rfl ?_)
 refine Z0C rfl rfl rfl rfl Z7t rfl rfl (FnV.lendO ys (fun v=>[(h.seeH sw).v yg.fs v,(h.seeH sw).v ((h.seeH sw).sg sa sc) ((h.seeH sw).ss sb sd)]) (fun ay cy _=>by rw [ZE];exact FnV.lendO yg (fun v=>[(h.seeH sw).v v (.slice ay (h.seeH sw).sights.length cy),(h.seeH sw).v ((h.seeH sw).sg sa sc) ((h.seeH sw).ss sb sd)]) (fun ax cx _=>by rw [ZJ];exact Z4y (h.seeH sw) (h.seeH sw) ax ay _ _ cx cy _ _ (by omega) (by omega) (by omega) (by omega) _ _))) ?_
 refine pur 3 rfl ?_
 refine Zj 187 rfl ?_ ?_<;>intro g187
 first | (focus (rw [sameH_iff.2 rfl] at g187;exact absurd g187 (by decide))) | exact absurd g187 (by simp)
 refine Sy.heap (H':=zs.G++(zg.G++(ys.G++(yg.G++((b29,cel 27 (htl (h.cloH n) zg.fs zs.fs))::(b27,cel 27 (htl (h.seeH sw) yg.fs ys.fs))::(b20,cel 27 (htl (h.cloH n) ((h.cloH n).sg za zc) ((h.cloH n).ss zb zd)))::(b19,cel 27 (htl (h.seeH sw) ((h.seeH sw).sg sa sc) ((h.seeH sw).ss sb sd)))::(b10,cel 57 (htl h (h.sg xa xc) (h.ss xb xd)))::(b9,cel 27 (htl h (h.sg oa oc) (h.ss ob od)))::(b6,cel 30 (ZY sw))::(b4,cel 27 (htl h (h.sg ag cg) (h.ss as_ cs)))::H))))) (fun w h9=>h9.perm (pD9 ys.G yg.G zs.G zg.G _)) ?_
 refine Z0m rfl rfl rfl rfl rfl (lhA (htl (h.cloH n) zg.fs zs.fs) ZA rfl rfl rfl) rfl (Z0m rfl rfl rfl rfl rfl (lhA (htl (h.cloH n) ((h.cloH n).sg za zc) ((h.cloH n).ss zb zd)) ZA rfl rfl rfl) rfl ?_)
 refine Z0C rfl rfl rfl rfl Z7t rfl rfl (FnV.lendO zs (fun v=>[(h.cloH n).v zg.fs v,(h.cloH n).v ((h.cloH n).sg za zc) ((h.cloH n).ss zb zd)]) (fun ay cy _=>by rw [ZE];exact FnV.lendO zg (fun v=>[(h.cloH n).v v (.slice ay (h.cloH n).sights.length cy),(h.cloH n).v ((h.cloH n).sg za zc) ((h.cloH n).ss zb zd)]) (fun ax cx _=>by rw [ZJ];exact Z4y (h.cloH n) (h.cloH n) ax ay _ _ cx cy _ _ (by omega) (by omega) (by omega) (by omega) _ _))) ?_
 refine pur 2 rfl ?_
 refine Z1 rfl ?_ ?_<;>intro hc7
 first | (focus (rw [sameH_iff.2 rfl] at hc7;exact absurd hc7 (by decide))) | exact absurd hc7 (by simp)
 refine Z2 (Z0 (sqt 5 rfl (spL rfl rfl (lhA (htl (h.seeH sw) yg.fs ys.fs) ZA rfl rfl rfl) rfl (spL rfl rfl (lhA (htl (h.cloH n) zg.fs zs.fs) ZA rfl rfl rfl) rfl ?_))))
 refine bsl (out:=[_,_,_,_,_,_]) rfl Zkr Z0V rfl rfl rfl rfl rfl rfl (fun b195=>?_)
 refine sp rfl (PE.lenSl Ziw rfl) rfl (pur 1 rfl (Z4 ?_))
 refine Sy.heap (H':=(b195,cel 27 (hoC [(⟨(h.seeH sw),yg,ys⟩:HO),⟨(h.cloH n),zg,zs⟩]))::(hoG [(⟨(h.seeH sw),yg,ys⟩:HO),⟨(h.cloH n),zg,zs⟩]++((b29,cel 27 (htl (h.cloH n) zg.fs zs.fs))::(b27,cel 27 (htl (h.seeH sw) yg.fs ys.fs))::(b20,cel 27 (htl (h.cloH n) ((h.cloH n).sg za zc) ((h.cloH n).ss zb zd)))::(b19,cel 27 (htl (h.seeH sw) ((h.seeH sw).sg sa sc) ((h.seeH sw).ss sb sd)))::(b10,cel 57 (htl h (h.sg xa xc) (h.ss xb xd)))::(b9,cel 27 (htl h (h.sg oa oc) (h.ss ob od)))::(b6,cel 30 (ZY sw))::(b4,cel 27 (htl h (h.sg ag cg) (h.ss as_ cs)))::H))) (fun w h9=>by
   have h8:St ((b195,cel 27 (hoC [(⟨(h.seeH sw),yg,ys⟩:HO),⟨(h.cloH n),zg,zs⟩]))::(zs.G++(zg.G++(ys.G++(yg.G++((b29,cel 27 (htl (h.cloH n) zg.fs zs.fs))::(b27,cel 27 (htl (h.seeH sw) yg.fs ys.fs))::(b20,cel 27 (htl (h.cloH n) ((h.cloH n).sg za zc) ((h.cloH n).ss zb zd)))::(b19,cel 27 (htl (h.seeH sw) ((h.seeH sw).sg sa sc) ((h.seeH sw).ss sb sd)))::(b10,cel 57 (htl h (h.sg xa xc) (h.ss xb xd)))::(b9,cel 27 (htl h (h.sg oa oc) (h.ss ob od)))::(b6,cel 30 (ZY sw))::(b4,cel 27 (htl h (h.sg ag cg) (h.ss as_ cs)))::H)))))) _ w:=h9
   have h7:=h8.perm ((pD9 zs.G zg.G ys.G yg.G ((b29,cel 27 (htl (h.cloH n) zg.fs zs.fs))::(b27,cel 27 (htl (h.seeH sw) yg.fs ys.fs))::(b20,cel 27 (htl (h.cloH n) ((h.cloH n).sg za zc) ((h.cloH n).ss zb zd)))::(b19,cel 27 (htl (h.seeH sw) ((h.seeH sw).sg sa sc) ((h.seeH sw).ss sb sd)))::(b10,cel 57 (htl h (h.sg xa xc) (h.ss xb xd)))::(b9,cel 27 (htl h (h.sg oa oc) (h.ss ob od)))::(b6,cel 30 (ZY sw))::(b4,cel 27 (htl h (h.sg ag cg) (h.ss as_ cs)))::H)).cons (b195,cel 27 (hoC [(⟨(h.seeH sw),yg,ys⟩:HO),⟨(h.cloH n),zg,zs⟩])))
   have e:hoG [(⟨(h.seeH sw),yg,ys⟩:HO),⟨(h.cloH n),zg,zs⟩]++((b29,cel 27 (htl (h.cloH n) zg.fs zs.fs))::(b27,cel 27 (htl (h.seeH sw) yg.fs ys.fs))::(b20,cel 27 (htl (h.cloH n) ((h.cloH n).sg za zc) ((h.cloH n).ss zb zd)))::(b19,cel 27 (htl (h.seeH sw) ((h.seeH sw).sg sa sc) ((h.seeH sw).ss sb sd)))::(b10,cel 57 (htl h (h.sg xa xc) (h.ss xb xd)))::(b9,cel 27 (htl h (h.sg oa oc) (h.ss ob od)))::(b6,cel 30 (ZY sw))::(b4,cel 27 (htl h (h.sg ag cg) (h.ss as_ cs)))::H)=ys.G++(yg.G++(zs.G++(zg.G++((b29,cel 27 (htl (h.cloH n) zg.fs zs.fs))::(b27,cel 27 (htl (h.seeH sw) yg.fs ys.fs))::(b20,cel 27 (htl (h.cloH n) ((h.cloH n).sg za zc) ((h.cloH n).ss zb zd)))::(b19,cel 27 (htl (h.seeH sw) ((h.seeH sw).sg sa sc) ((h.seeH sw).ss sb sd)))::(b10,cel 57 (htl h (h.sg xa xc) (h.ss xb xd)))::(b9,cel 27 (htl h (h.sg oa oc) (h.ss ob od)))::(b6,cel 30 (ZY sw))::(b4,cel 27 (htl h (h.sg ag cg) (h.ss as_ cs)))::H)))):=by unfold hoG HO.G;simp [List.append_assoc]
   rw [e];exact h7) ?_
 obtain ⟨LL,hLL⟩:∃ LL,LL=[(⟨(h.seeH sw),yg,ys⟩:HO),⟨(h.cloH n),zg,zs⟩]:=⟨_,rfl⟩
 have hL2:LL.length=2:=by rw [hLL];rfl
 rw [← hLL]
 clear hLL
 refine Ze (ι:={k:Nat // k≤2}) (fun k=>⟨[(1,.slice af fr.length cf),(4,.pointer (some ⟨b4,0,none⟩)),(9,.pointer (some ⟨b9,0,none⟩)),(11,.slice ma fr.length mc),(195,.slice (some ⟨b195,0,none⟩) 2 2),(196,.int .i64 2),(197,.int .i64 (k.1:Int))],(b195,cel 27 (hoC LL))::(hoG (LL.drop k.1)++((b29,cel 27 (htl (h.cloH n) zg.fs zs.fs))::(b27,cel 27 (htl (h.seeH sw) yg.fs ys.fs))::(b20,cel 27 (htl (h.cloH n) ((h.cloH n).sg za zc) ((h.cloH n).ss zb zd)))::(b19,cel 27 (htl (h.seeH sw) ((h.seeH sw).sg sa sc) ((h.seeH sw).ss sb sd)))::(b10,cel 57 (htl h (h.sg xa xc) (h.ss xb xd)))::(b9,cel 27 (htl h (h.sg oa oc) (h.ss ob od)))::(b6,cel 30 (ZY sw))::(b4,cel 27 (htl h (h.sg ag cg) (h.ss as_ cs)))::H)),RowsA ma 1 (Z3 fr)::RowsA xb 3 (Z8 h.sights)::RowsA xa 2 (Z7 h.gaps)::RowsA ob 3 (Z8 h.sights)::RowsA oa 2 (Z7 h.gaps)::R⟩) (fun k=>2-k.1) ⟨0,by omega⟩ ?_ (fun k=>?_)
 exact Zi (fun w h9=>h9.facts (fun g hg=>by simp only [List.mem_cons] at hg ⊢;rcases hg with h8 | h8 | h8 | h8 | h8 | h8<;>simp [h8,Hse.add]))
 obtain ⟨k,hk⟩:=k
 dsimp only at hk ⊢
 refine sqt 1 rfl (pur 1 rfl (Z0 ?_))
 refine Z1 rfl ?_ ?_<;>intro hc8<;>try simp only [cS] at hc8
 obtain ⟨x,hx⟩:∃ x,LL[k]?=some x:=⟨_,List.getElem?_eq_getElem (by omega)⟩
 refine Sy.heap (H':=x.os.G++(x.og.G++((b195,cel 27 (hoC LL))::(hoG (LL.drop (k+1))++((b29,cel 27 (htl (h.cloH n) zg.fs zs.fs))::(b27,cel 27 (htl (h.seeH sw) yg.fs ys.fs))::(b20,cel 27 (htl (h.cloH n) ((h.cloH n).sg za zc) ((h.cloH n).ss zb zd)))::(b19,cel 27 (htl (h.seeH sw) ((h.seeH sw).sg sa sc) ((h.seeH sw).ss sb sd)))::(b10,cel 57 (htl h (h.sg xa xc) (h.ss xb xd)))::(b9,cel 27 (htl h (h.sg oa oc) (h.ss ob od)))::(b6,cel 30 (ZY sw))::(b4,cel 27 (htl h (h.sg ag cg) (h.ss as_ cs)))::H))))) (fun w h9=>by
   rw [Zdn hx,List.append_assoc,List.append_assoc] at h9
   exact h9.perm (pB9 _ _ _ _)) ?_
 refine Z2 (Z0 (Z4 (sqt 4 rfl (sp rfl (PE.indexAddr Zkp rfl rfl (by omega) (by omega)) rfl (spL rfl rfl (lhA (htl x.h x.og.fs x.os.fs) ZA rfl (rest:=hoC (LL.drop (k+1))) (Zdm hx) rfl) rfl (alc rfl Z0V rfl (fun b32=>?_)))))))
 refine ZG (l':=htl x.h x.og.fs x.os.fs) rfl rfl rfl Z1i rfl rfl (by show (htl _ x.og.fs x.os.fs).all (·.oneCell')=true;simp only [htl,List.all_cons,List.all_nil,x.og.cells.2,x.os.cells.2,Bool.and_true];rfl) rfl (nl rfl) ?_
 refine sqt 3 rfl (sp rfl (PE.fA ZT rfl) rfl (spL rfl rfl (lh Z2g rfl rfl) rfl ?_))
 refine Sy.heap (H':=x.og.G++(x.os.G++((b32,cel 27 (htl x.h x.og.fs x.os.fs))::_))) (fun w h9=>h9.perm (pA9 _ x.os.G x.og.G _)) ?_
 refine Zko x.og rfl rfl Z7U Z51 rfl rfl rfl ?_
 refine sqr 3 rfl (sp rfl (PE.fA ZN rfl) rfl (spL rfl rfl (lh Z1L rfl rfl) rfl ?_))
 refine Zko x.os rfl rfl Z7j Z41 rfl rfl rfl ?_
 refine sqr 2 rfl (sp rfl (PE.add rfl rfl (by omega)) rfl (pur 1 rfl ?_))
 exact Zb ⟨k+1,by omega⟩ (fun w h9=>h9.del b32)
 obtain rfl:k=2:=by omega
 refine Sy.heap (H':=(b29,cel 27 (htl (h.cloH n) zg.fs zs.fs))::(b27,cel 27 (htl (h.seeH sw) yg.fs ys.fs))::(b20,cel 27 (htl (h.cloH n) ((h.cloH n).sg za zc) ((h.cloH n).ss zb zd)))::(b19,cel 27 (htl (h.seeH sw) ((h.seeH sw).sg sa sc) ((h.seeH sw).ss sb sd)))::(b10,cel 57 (htl h (h.sg xa xc) (h.ss xb xd)))::(b9,cel 27 (htl h (h.sg oa oc) (h.ss ob od)))::(b6,cel 30 (ZY sw))::(b4,cel 27 (htl h (h.sg ag cg) (h.ss as_ cs)))::H) (fun w h9=>by rw [List.drop_eq_nil_of_le (by omega)] at h9;exact h9.del b195) ?_
 refine Z9 (Za (Za (Zm (sqt 12 rfl (spL rfl rfl (lhA (htl h (h.sg oa oc) (h.ss ob od)) ZA rfl rfl rfl) rfl (spL rfl rfl (lhA (htl h (h.sg ag cg) (h.ss as_ cs)) ZA rfl rfl rfl) rfl ?_))))))
 refine clV rfl Z7t rfl rfl (Z4y h h oa ob ag as_ oc od cg cs (by omega) (by omega) (by omega) (by omega) _ _) ?_
 refine pur 1 rfl ?_
 refine Zj 209 rfl ?_ ?_<;>intro g209
 refine pur 2 rfl ?_
 refine Z0C rfl rfl rfl rfl Z1Y rfl rfl (ZW fr fr ma af mc cf (by omega) (by omega) _ _) ?_
 refine pur 2 rfl ?_
 refine Zj 214 rfl ?_ ?_<;>intro g214
 refine Z0C rfl rfl rfl rfl Z2U rfl rfl (Z0x _ _) ?_
 refine pur 2 rfl (Z5 ?_)
 exact rtA rfl rfl rfl ⟨rfl,rfl,rfl⟩ (fun w h9=>St.sub ((((((((h9.del b29).del b27).del b20).del b19).del b10).del b9).del b6).del b4))
 exact absurd g214 (by simp)
 rw [sameH_iff.2 rfl] at g209;exact absurd g209 (by decide)
end Go.Proofs.YtclnhdkneegfkaaGreat
namespace Go.Proofs.YtclnhdkneegfkaaGreat
set_option linter.unusedSimpArgs false
set_option linter.unusedVariables false
def Stp1 (gs:List Gp) (K sp m c l n:Nat):Prop:=l&&&c=0∧cnt gs.length l≤sp∧spr gs (c|||l) m&&&K=0∧((spr gs (c|||l) m=m∧n=cnt gs.length l)∨(spr gs (c|||l) m≠m∧∃ k,n=cnt gs.length l+k∧Lst (Pl gs K sp (spr gs (c|||l) m) (c|||l)) k))
def FwQ (gs:List Gp) (K sp m c:Nat) (x:Int):Prop:=(∃ n:Nat,Lst (Pl gs K sp m c) n∧x=n)∨((∀ n,¬ Pl gs K sp m c n)∧x = -1)
structure FwI (gs:List Gp) (K sp m c s:Nat) (x:Int):Prop where
 lo:∀ l,l<s→∀ n,Stp1 gs K sp m c l n→0≤x∧x≤n
 is:x = -1∨∃ l n:Nat,l<s∧Stp1 gs K sp m c l n∧x=n
theorem FwI.start (gs:List Gp) (K sp m c:Nat):FwI gs K sp m c 0 (-1):=⟨fun l hl=>absurd hl (Nat.not_lt_zero _),.inl rfl⟩
theorem FwI.skip {gs:List Gp} {K sp m c s:Nat} {x:Int} (h:FwI gs K sp m c s x) (hn:∀ n,¬ Stp1 gs K sp m c s n):FwI gs K sp m c (s+1) x:=by
 refine ⟨fun l hl n hs=>?_,h.is.imp id fun ⟨l,n,h1,h2⟩=>⟨l,n,by omega,h2⟩⟩
 rcases Nat.lt_or_ge l s with h1 | h1
 · exact h.lo l h1 n hs
 · obtain rfl:l=s:=by omega
   exact absurd hs (hn n)
theorem Stp1.unique {gs:List Gp} {K sp m c l n n':Nat} (h:Stp1 gs K sp m c l n) (h':Stp1 gs K sp m c l n'):n=n':=by
 obtain ⟨_,_,_,h4⟩:=h
 obtain ⟨_,_,_,h5⟩:=h'
 rcases h4 with ⟨h1,h2⟩ | ⟨h1,k,h2,h3⟩<;>rcases h5 with ⟨g1,g2⟩ | ⟨g1,k',g2,g3⟩
 · omega
 · exact absurd h1 g1
 · exact absurd g1 h1
 · rw [h2,g2,h3.unique g3]
theorem FwI.worse {gs:List Gp} {K sp m c s n:Nat} {x:Int} (h:FwI gs K sp m c s x) (hs:Stp1 gs K sp m c s n) (hx:0≤x∧x≤n):FwI gs K sp m c (s+1) x:=by
 refine ⟨fun l hl n' hs'=>?_,h.is.imp id fun ⟨l,n,h1,h2⟩=>⟨l,n,by omega,h2⟩⟩
 rcases Nat.lt_or_ge l s with h1 | h1
 · exact h.lo l h1 n' hs'
 · obtain rfl:l=s:=by omega
   rw [hs'.unique hs];exact hx
theorem FwI.take {gs:List Gp} {K sp m c s n:Nat} {x:Int} (h:FwI gs K sp m c s x) (hs:Stp1 gs K sp m c s n) (hx:x<0∨(n:Int)<x):FwI gs K sp m c (s+1) n:=by
 refine ⟨fun l hl n' hs'=>?_,.inr ⟨s,n,by omega,hs,rfl⟩⟩
 rcases Nat.lt_or_ge l s with h1 | h1
 · have:=h.lo l h1 n' hs'
   omega
 · obtain rfl:l=s:=by omega
   rw [hs'.unique hs];omega
theorem Stp1.pl {gs:List Gp} {K sp m c l n:Nat} (hl:l<2 ^ gs.length) (h:Stp1 gs K sp m c l n):Pl gs K sp m c n:=by
 obtain ⟨h1,h2,h3,h4⟩:=h
 rcases h4 with ⟨h5,rfl⟩ | ⟨h5,k,rfl,h6⟩
 · exact .stay hl h1 h2 h5 (by rw [h5] at h3;exact h3)
 · exact .go hl h1 h2 h5 h3 h6.1
theorem FwI.done {gs:List Gp} {K sp m c:Nat} {x:Int} (h:FwI gs K sp m c (2 ^ gs.length) x):FwQ gs K sp m c x:=by
 have key:∀ n,Pl gs K sp m c n→∃ l n',l<2 ^ gs.length∧n'≤n∧Stp1 gs K sp m c l n':=fun n hp=>by
   obtain ⟨l,h1,h2,h3,h4,h5⟩:=hp.cons_inv
   rcases h5 with ⟨h6,h7⟩ | ⟨h6,k,h7,h8⟩
   · exact ⟨l,n,h1,Nat.le_refl _,h2,h3,h4,.inl ⟨h6,h7⟩⟩
   · obtain ⟨k',h9,h10⟩:=Lst.ex h8
     exact ⟨l,cnt gs.length l+k',h1,by omega,h2,h3,h4,.inr ⟨h6,k',rfl,h9⟩⟩
 rcases h.is with h1 | ⟨l,n,h1,h2,h3⟩
 · refine .inr ⟨fun n hp=>?_,h1⟩
   obtain ⟨l,n',h2,_,h4⟩:=key n hp
   have:=h.lo l h2 n' h4
   omega
 · refine .inl ⟨n,⟨h2.pl h1,fun k hp=>?_⟩,h3⟩
   obtain ⟨l',n',g1,g2,g3⟩:=key k hp
   have:=h.lo l' g1 n' g3
   omega
structure CtI (gs:List Gp) (S K s b:Nat):Prop where
 lo:∀ l,l<s→Shut gs l S K→b≤cnt gs.length l
 is:b=gs.length∨∃ l,l<s∧Shut gs l S K∧cnt gs.length l=b
 le:b≤gs.length
theorem CtI.start (gs:List Gp) (S K:Nat):CtI gs S K 0 gs.length:=⟨fun l hl=>absurd hl (Nat.not_lt_zero _),.inl rfl,Nat.le_refl _⟩
theorem CtI.skip {gs:List Gp} {S K s b:Nat} (h:CtI gs S K s b) (hn:b≤cnt gs.length s∨¬ Shut gs s S K):CtI gs S K (s+1) b:=by
 refine ⟨fun l hl hs=>?_,h.is.imp id fun ⟨l,h1,h2⟩=>⟨l,by omega,h2⟩,h.le⟩
 rcases Nat.lt_or_ge l s with h1 | h1
 · exact h.lo l h1 hs
 · obtain rfl:l=s:=by omega
   exact hn.resolve_right (fun h9=>h9 hs)
theorem CtI.take {gs:List Gp} {S K s b:Nat} (h:CtI gs S K s b) (hb:cnt gs.length s<b) (hs:Shut gs s S K):CtI gs S K (s+1) (cnt gs.length s):=by
 refine ⟨fun l hl hs'=>?_,.inr ⟨s,by omega,hs,rfl⟩,by have:=h.le;omega⟩
 rcases Nat.lt_or_ge l s with h1 | h1
 · have:=h.lo l h1 hs';omega
 · obtain rfl:l=s:=by omega
   exact Nat.le_refl _
theorem CtI.done {gs:List Gp} {S K b:Nat} (ht:Two gs S K) (h:CtI gs S K (2 ^ gs.length) b):Cut gs S K b:=by
 refine ⟨?_,fun n ⟨C,h1,h2,h3⟩=>by rw [← h3];exact h.lo C h1 h2⟩
 rcases h.is with h1 | h1
 · have hp:=Nat.two_pow_pos gs.length
   refine ⟨2 ^ gs.length-1,by omega,Z93 ht,?_⟩
   rw [h1]
   unfold cnt
   rw [List.countP_eq_length.2,List.length_range]
   intro k hk
   rw [Nat.testBit_two_pow_sub_one]
   exact decide_eq_true (List.mem_range.1 hk)
 · obtain ⟨l,g1,g2,g3⟩:=h1
   exact ⟨l,g1,g2,g3⟩
theorem ZgB {gs:List Gp} {c S K:Nat} (hw:Wth gs 7) (hS:S<2 ^ 7) (hK:K<2 ^ 7):Shut gs c S K↔∀ k,K.testBit k=true→wkC gs c S k<0:=by
 constructor
 · intro hs k hk
   unfold wkC
   rcases Z1z gs c S k with ⟨t,_,h2,h3,_⟩ | ⟨h1,_⟩
   · rw [hs t k h3] at hk;cases hk
   · rw [h1,decide_eq_true (Int.le_refl _)];decide
 · intro h t v hv
   cases hk:K.testBit v with
   | false=>rfl
   | true =>
     have h1:=h v hk
     unfold wkC at h1
     have h2:(lv gs c S 6).testBit v=true:=by
       rcases Nat.lt_or_ge t 6 with h3 | h3
       · exact Zbj (by omega) hv
       · rw [Z4I hw hS (t:=6) (by decide) h3] at hv;exact hv
     have h3:=(Z7Y hw hS (t:=6) (by unfold far;decide)).2 h2
     rw [decide_eq_false (by unfold far;omega),cond_false] at h1
     have:=Z6p gs c S v
     omega
open Go
theorem ZcU:cal Tryz.prog 23=true:=by kernel_rfl
theorem Z9m:cal Tryz.prog 79=true:=by kernel_rfl
theorem Z4W {α:Type} {l:List α} {k:Nat} {x:α} (h:l[k]?=some x):l.take (k+1)=l.take k++[x]:=by rw [List.take_add_one,h];rfl
theorem St.blkRows {rows:List (List Value)} {sz bk e:Nat} {junk:List Value} {H:Zf} {R:Z6} {w:World} (hz:∀ r∈rows,r.length=sz) (hs:St ((bk,cel e (rows.flatten++junk))::H) R w) :
   St H (RowsA (some ⟨bk,0,none⟩) sz rows::R) w:=by
 have h1:=(St.freeze hs).also (f:=RowsA (some ⟨bk,0,none⟩) sz rows) (fun w' hw=>by
   have hb:=hw (fun w=>w.heap[bk]?=some (cel e (rows.flatten++junk))) (by simp)
   exact Z2E hb hz)
 exact h1.facts (fun g hg=>by rcases List.mem_cons.1 hg with h3 | h3<;>simp [h3])
theorem Z2n (l:List PL):∀ r∈Zg l,r.length=1:=fun r hr=>by obtain ⟨x,_,rfl⟩:=List.mem_map.1 hr;rfl
theorem Z9v (A B:List PL):Zg (A++B)=Zg A++Zg B:=by simp [Zg]
theorem Z8R (l:List PL):(Zg l).flatten.length=l.length:=by rw [ZX (Z2n l),Zt];omega
def ZeM (ql:List PL) (n:Nat):List Value:=(Zg ql).flatten++(List.replicate n [Value.slice none 0 0]).flatten
theorem ZdI (ql:List PL) (n:Nat):(ZeM ql n).length=ql.length+n:=by
 unfold ZeM
 rw [List.length_append,Z8R,ZX (sz:=1) (fun q hq=>by rw [(List.mem_replicate.1 hq).2];rfl),List.length_replicate];omega
theorem ZdJ (ql:List PL) (n:Nat) (x:PL) {i:Nat} (e:i=ql.length):spl (ZeM ql (n+1)) i [.slice x.a x.l.length x.c]=ZeM (ql++[x]) n:=by
 subst e
 unfold ZeM
 rw [List.replicate_succ,List.flatten_cons,Z9v,List.flatten_append,List.append_assoc]
 have:=ZbV (p:=(Zg ql).flatten) (q:=[Value.slice none 0 0]) (s:=(List.replicate n [Value.slice none 0 0]).flatten) (vs:=[.slice x.a x.l.length x.c]) rfl
 rw [Z8R] at this
 exact this
theorem St.innSnocH {a:Option Addr} {c:Nat} {l0:List Int} {l:List PL} {H:Zf} {R:Z6} {w:World} [m1:MemF (Inn l) R] [m2:MemRows a 1 (Z3 l0) R] (h:St H R w):St H (Inn (l++[⟨a,c,l0⟩])::R) w :=
 h.also fun w' hw x hx=>by
   rcases List.mem_append.1 hx with hx | hx
   · exact hw _ m1.mem x hx
   · obtain rfl:x=⟨a,c,l0⟩:=by simpa using hx
     exact hw _ m2.mem
theorem Z6x (pl:List PL) (ap:Option Addr) (cp:Nat) (hpl:pl.length≤1000000) (hpi:∀ x∈pl,x.l.length≤1000000) (H:Zf) (R:Z6) [hP:MemRows ap 1 (Zg pl) R] [hI:MemF (Inn pl) R] :
    Fn Tryz.prog 20 [.slice ap pl.length cp] H R (fun v H' R'=>∃ (ql:List PL) (aq:Option Addr) (cq:Nat),lls ql=lls pl∧v = .slice aq ql.length cq∧H'=H∧R'=RowsA aq 1 (Zg ql)::Inn ql::R):=by
 refine Zl Tryz.func20 rfl Tryz.ntmps20 rfl ?_
 refine sqt 1 rfl (pur 1 rfl (sqt 4 rfl (pur 1 rfl (sp rfl (PE.lenSl Z0J rfl) rfl ?_))))
 refine mkS rfl Zh6 Z5c rfl rfl (Nat.le_refl _) ⟨by omega,by omega⟩ rfl (fun b8=>?_)
 refine Sy.heap (H':=(b8,cel 22 (ZeM [] pl.length))::H) (R':=Inn []::R) (fun w h=>St.inn0 (by rw [← Z0D] at h;exact h)) ?_
 refine pur 1 rfl (Z0 (sqt 3 rfl (pur 1 rfl (sp rfl (PE.lenSl Z0J rfl) rfl (pur 1 rfl (Z4 ?_))))))
 refine Ze (ι:={q:List PL // q.length≤pl.length∧lls q=(lls pl).take q.length}) (fun q=>⟨[(3,.slice (some ⟨b8,0,none⟩) pl.length pl.length),(9,.slice ap pl.length cp),(10,.int .i64 pl.length),(11,.int .i64 q.1.length)],(b8,cel 22 (ZeM q.1 (pl.length-q.1.length)))::H,Inn q.1::R⟩) (fun q=>pl.length-q.1.length) ⟨[],Nat.zero_le _,rfl⟩ ?_ (fun q=>?_)
 exact Zi idH
 obtain ⟨q,hq,hqe⟩:=q
 dsimp only at hq hqe ⊢
 refine sqt 1 rfl (pur 1 rfl (Z0 ?_))
 refine Z1 rfl ?_ ?_<;>intro hc0<;>try simp only [cS] at hc0
 obtain ⟨x,hx⟩:∃ x,pl[q.length]?=some x:=⟨_,List.getElem?_eq_getElem (by omega)⟩
 have hxm:=List.mem_of_getElem? hx
 have hxl:=hpi x hxm
 refine Zh (a:=ap) (sz:=1) (rows:=Zg pl) (ne0 (by rw [Zt];omega)) (fun ba oa he=>?_)
 subst he
 refine Sy.heap (fun w h=>St.inn (x:=x) h hxm) ?_
 refine Z2 (Z0 (Z4 (sqt 5 rfl (pur 1 rfl (sp rfl (PE.indexAddr Z4A rfl rfl (by omega) (by omega)) rfl (spL rfl rfl (lf0 Z1t (Z0M hx) rfl) rfl (pur 2 rfl (sqr 6 rfl (pur 3 rfl ?_)))))))))
 refine cl rfl Z7s rfl rfl (Z6B x.l x.a x.c hxl _ _) ?_
 rintro _ _ _ ⟨o,rfl,ho,rfl,rfl⟩
 obtain ⟨ax,cx,he,hf⟩:=o.freeze
 rw [he,Z0d]
 refine Sy.heap (fun w h=>hf h) ?_
 clear he hf
 refine sp rfl (PE.indexAddr Z4A rfl rfl (by omega) (by omega)) rfl ?_
 refine ZG (l':=ZeM (q++[⟨ax,cx,x.l⟩]) (pl.length-(q.length+1))) rfl rfl rfl Zer rfl rfl rfl (by rw [show pl.length-q.length=(pl.length-(q.length+1))+1 by omega];exact ZdJ q _ ⟨ax,cx,x.l⟩ (by show 0+((q.length:Nat):Int).toNat*1=_;omega)) (by rw [ZdI];show 0+((q.length:Nat):Int).toNat*1+1≤_;omega) ?_
 refine sqr 2 rfl (sp rfl (PE.add rfl rfl (by omega)) rfl (pur 1 rfl ?_))
 exact Zc ⟨q++[⟨ax,cx,x.l⟩],by rw [List.length_append,List.length_singleton];omega,by rw [List.length_append,List.length_singleton,Z4W (Z1m hx),← hqe];simp [lls]⟩ (by dsimp only;rw [List.length_append,List.length_singleton];omega) (by dsimp only;rw [List.length_append,List.length_singleton];exact sbA) (fun w h=>by dsimp only;rw [List.length_append,List.length_singleton];exact (St.innSnocH (a:=ax) (c:=cx) (l0:=x.l) (l:=q) h).facts (fun g hg=>by rcases List.mem_cons.1 hg with h3 | h3<;>simp [h3]))
 have hql:q.length=pl.length:=by omega
 rw [hql,List.take_of_length_le (by rw [Z04];exact Nat.le_refl _)] at hqe
 refine Sy.heap (H':=(b8,cel 22 ((Zg q).flatten++[]))::H) (fun w h=>by rw [hql,Nat.sub_self] at h;exact h) ?_
 refine Sy.heap (fun w h=>St.blkRows (Z2n q) h) ?_
 refine Z9 (Za (Za (Zm (sqt 2 rfl (pur 2 rfl (Z5 ?_))))))
 exact rtA rfl rfl rfl ⟨q,_,_,hqe,by rw [hql];rfl,rfl,rfl⟩ idH
theorem Z5I (pl:List PL) (ap:Option Addr) (cp:Nat) (hpl:pl.length≤9223372036854775807) (hpi:∀ x∈pl,x.l.length≤9223372036854775807) (ql:List PL) (aq:Option Addr) (cq:Nat) (hql:ql.length≤9223372036854775807) (hqi:∀ x∈ql,x.l.length≤9223372036854775807) (H:Zf) (R:Z6) [hP:MemRows ap 1 (Zg pl) R] [hI:MemF (Inn pl) R] [hQ:MemRows aq 1 (Zg ql) R] [hJ:MemF (Inn ql) R] :
    FnV Tryz.prog 31 [.slice ap pl.length cp,.slice aq ql.length cq] H R (.bool (decide (lls pl=lls ql))):=by
 refine Zl Tryz.func31 rfl Tryz.ntmps31 rfl ?_
 refine sqt 1 rfl (pur 1 rfl (Z0 (sqt 5 rfl (pur 1 rfl (sp rfl (PE.lenSl Z0J rfl) rfl (pur 1 rfl (sp rfl (PE.lenSl Z0J rfl) rfl (pur 1 rfl ?_))))))))
 refine Z1 rfl ?_ ?_<;>intro hc0<;>try simp only [cS] at hc0
 have hne:lls pl≠lls ql:=fun e=>by have:=congrArg List.length e;rw [Z04,Z04] at this;omega
 refine sqt 1 rfl (pur 1 rfl (Z5 ?_))
 exact rtA rfl rfl rfl ⟨by first | (simp only [ZU];rw [dT heq];done) | (simp only [ZU];rw [dF hne]),rfl,rfl⟩ drp
 have hle:pl.length=ql.length:=by omega
 refine Z2 (Z0 (sqt 3 rfl (pur 1 rfl (sp rfl (PE.lenSl Z0J rfl) rfl (pur 1 rfl (Z4 ?_))))))
 refine Ze (ι:={k:Nat // k≤pl.length∧(lls pl).take k=(lls ql).take k}) (fun k=>⟨[(1,.slice aq ql.length cq),(12,.slice ap pl.length cp),(13,.int .i64 pl.length),(14,.int .i64 k.1)],H,R⟩) (fun k=>pl.length-k.1) ⟨0,Nat.zero_le _,rfl⟩ ?_ (fun k=>?_)
 exact Zi idH
 obtain ⟨k,hk,hke⟩:=k
 dsimp only at hk hke ⊢
 refine sqt 1 rfl (pur 1 rfl (Z0 ?_))
 refine Z1 rfl ?_ ?_<;>intro hc1<;>try simp only [cS] at hc1
 obtain ⟨x,hx⟩:∃ x,pl[k]?=some x:=⟨_,List.getElem?_eq_getElem (by omega)⟩
 have hxm:=List.mem_of_getElem? hx
 have hxl:=hpi x hxm
 obtain ⟨z,hz⟩:∃ z,ql[k]?=some z:=⟨_,List.getElem?_eq_getElem (by omega)⟩
 have hzm:=List.mem_of_getElem? hz
 have hzl:=hqi z hzm
 refine Zh (a:=ap) (sz:=1) (rows:=Zg pl) (ne0 (by rw [Zt];omega)) (fun ba oa he=>?_)
 subst he
 refine Zh (a:=aq) (sz:=1) (rows:=Zg ql) (ne0 (by rw [Zt];omega)) (fun bq oq he=>?_)
 subst he
 refine Sy.heap (fun w h=>St.inn (x:=x) h hxm) ?_
 refine Sy.heap (fun w h=>St.inn (x:=z) h hzm) ?_
 refine Z2 (Z0 (Z4 (sqt 5 rfl (pur 1 rfl (sp rfl (PE.indexAddr Z4A rfl rfl (by omega) (by omega)) rfl (spL rfl rfl (lf0 Z1t (Z0M hx) rfl) rfl (pur 2 rfl (sqt 7 rfl (pur 3 rfl (sp rfl (PE.indexAddr Z4A rfl rfl (by omega) (by omega)) rfl (spL rfl rfl (lf0 Z1t (Z0M hz) rfl) rfl ?_)))))))))))
 refine clV rfl Zia rfl rfl (Z8e x.l z.l x.a z.a x.c z.c hxl hzl _ _) ?_
 refine pur 1 rfl ?_
 refine Z1 rfl ?_ ?_<;>intro hc2
 have hne:lls pl≠lls ql:=fun e=>by
   have h1:=Z1m hx;have h2:=Z1m hz
   rw [e,h2] at h1
   have e3:=Option.some.inj h1
   rw [e3] at hc2
   simp at hc2
 refine sqt 1 rfl (pur 1 rfl (Z5 ?_))
 exact rtA rfl rfl rfl ⟨by first | (simp only [ZU];rw [dT heq];done) | (simp only [ZU];rw [dF hne]),rfl,rfl⟩ drp
 have hxz:x.l=z.l:=by simpa using hc2
 refine Z2 (sqr 2 rfl (sp rfl (PE.add rfl rfl (by omega)) rfl (pur 1 rfl ?_)))
 exact Zb ⟨k+1,by omega,by rw [Z4W (Z1m hx),Z4W (Z1m hz),hke,hxz]⟩ (fun w h=>h.ftail.ftail)
 obtain rfl:k=pl.length:=by omega
 have heq:lls pl=lls ql:=by
   rw [List.take_of_length_le (by rw [Z04];exact Nat.le_refl _),List.take_of_length_le (by rw [Z04];omega)] at hke;exact hke
 refine Z9 (Za (Za (Zm (sqt 1 rfl (pur 1 rfl (Z5 ?_))))))
 exact rtA rfl rfl rfl ⟨by first | (simp only [ZU];rw [dT heq];done) | (simp only [ZU];rw [dF hne]),rfl,rfl⟩ drp
theorem Z89 {b e:Nat} {l:List Value} {T:Zf} {R R':Z6} {w:World} (h:St T (Z7f b (cel e l) R::R') w):b∉ids T:=fun hb=>by
 have h0:=(h.now (f:=Z7f b (cel e l) R) (by simp)).1
 have hlt:b<w.heap.size:=(Array.getElem?_eq_some_iff.1 h0).1
 have k1:Keep (ids T) w { w with heap:=w.heap.setIfInBounds b (.deferred (some [])) }:=⟨rfl,rfl,rfl,by simp,fun i hi hn=>by
   show (w.heap.setIfInBounds b _)[i]?=_
   rw [Array.getElem?_setIfInBounds_ne (fun e=>by subst e;exact hn hb)]⟩
 have h1:=(h.fact _ (by simp:Z7f b (cel e l) R∈Z7f b (cel e l) R::R') _ k1).1
 have h2:(w.heap.setIfInBounds b (.deferred (some [])))[b]?=some (cel e l):=h1
 rw [Array.getElem?_setIfInBounds_self_of_lt hlt] at h2
 cases h2
theorem Fn.lendOO {P:Program} {f:FuncId} {q:Value→Zf→Prop} {e sz:Nat} {rows:List (List Value)} (o:OSl e sz rows) (mk:Value→List Value) {T:Zf} {R:Z6}
   (h:∀ (a:Option Addr) (c:Nat) (B:World→Prop),Fn P f (mk (.slice a rows.length c)) T (RowsA a sz rows::B::R) (fun v H' R'=>q v H'∧R'=RowsA a sz rows::B::R)):Fn P f (mk o.fs) (o.G++T) R (fun v H' R'=>∃ T',q v T'∧H'=o.G++T'∧R'=R):=fun w hw=>by
 obtain ⟨fs,G,hl,his⟩:=o
 rcases his with ⟨rfl,rfl,rfl⟩ | ⟨b,cap,junk,rfl,rfl,h1,h2,h3⟩
 · have h3:St T (RowsA none sz []::(fun _=>True)::R) w:=St.also (St.also hw (f:=fun _=>True) (fun _ _=>trivial)) (fun w' _ i row hi=>by simp at hi)
   refine CallsIn.mono (h none 0 _ w h3) ?_
   rintro e' w' ⟨u,H',R',⟨hp,rfl⟩,he,hs'⟩
   exact ⟨u,_,R,⟨H',hp,rfl,rfl⟩,he,hs'.ftail.ftail⟩
 · have hw2:St ((b,cel e (rows.flatten++junk))::T) R w:=hw
   have h5:St T (RowsA (some ⟨b,0,none⟩) sz rows::Z7f b (cel e (rows.flatten++junk)) R::R) w :=
     St.also hw2.lend (fun w' hg=>Z2E (hg (Z7f b (cel e (rows.flatten++junk)) R) (by simp)).1 hl)
   refine CallsIn.mono (h _ _ _ w h5) ?_
   rintro e' w' ⟨u,H',R',⟨hp,rfl⟩,he,hs'⟩
   have h6:St H' (Z7f b (cel e (rows.flatten++junk)) R::R) w':=hs'.ftail
   exact ⟨u,_,R,⟨H',hp,rfl,rfl⟩,he,h6.unlend (Z89 h6)⟩
theorem Zkh {s:Nat} {cz:List Int} (hc:∀ x∈cz,0≤x) (hs:s<2 ^ 10):(Zs s).any (ZH cz)=true↔s&&&msk cz≠0:=by
 rw [List.any_eq_true]
 constructor
 · rintro ⟨x,h1,h2⟩ h3
   obtain ⟨k,_,h4,rfl⟩:=memL_bit.1 h1
   have h5:=and_zero.1 h3 k h4
   rw [Z2k hc] at h2
   rw [h2] at h5;cases h5
 · intro h
   refine Classical.byContradiction fun hn=>h (and_zero.2 fun k hk=>?_)
   cases hb:(msk cz).testBit k with
   | false=>rfl
   | true =>
     have hk10:k<10:=Z0n hs hk
     exact absurd ⟨(k:Int),memL_bit.2 ⟨k,hk10,hk,rfl⟩,by rw [Z2k hc];exact hb⟩ hn
theorem Zj5 {l to_:List Int} {m:Nat} (hl:Lm l m) (ht:∀ x∈to_,0≤x):to_.any (ZH l)=true↔m&&&msk to_≠0:=by
 rw [List.any_eq_true]
 constructor
 · rintro ⟨x,h1,h2⟩ h3
   rw [hl.has (ht x h1)] at h2
   have h5:=and_zero.1 h3 _ h2
   rw [(ZK ht x.toNat).2 (by rw [show ((x.toNat:Nat):Int)=x by have:=ht x h1;omega];exact h1)] at h5;cases h5
 · intro h
   refine Classical.byContradiction fun hn=>h (and_zero.2 fun k hk=>?_)
   cases hb:(msk to_).testBit k with
   | false=>rfl
   | true=>exact absurd ⟨(k:Int),(ZK ht k).1 hb,by rw [hl.has (by omega),Int.toNat_natCast];exact hk⟩ hn
theorem Lm.grow {l l2:List Int} {gs:List Gp} {c m:Nat} (h1:Lm l m) (h2:Lm l2 (spr gs c m)):l.length<l2.length↔spr gs c m≠m:=by
 rw [h1.len,h2.len]
 constructor
 · intro h e;rw [e] at h;exact Nat.lt_irrefl _ h
 · intro h
   have hex:∃ k,(spr gs c m).testBit k=true∧m.testBit k=false:=Classical.byContradiction fun hn=>h (Z0i fun k=>by
     cases hb:m.testBit k with
     | true=>exact Z18 hb
     | false =>
       cases hb2:(spr gs c m).testBit k with
       | false=>rfl
       | true=>exact absurd ⟨k,hb2,hb⟩ hn)
   obtain ⟨k,h3,h4⟩:=hex
   unfold cnt
   exact Z2j (fun x _ hx=>Z18 hx) ⟨k,List.mem_range.2 (Z0n h2.lt h3),h3,h4⟩
theorem Lst.few9 {gs:List Gp} {K sp m c k:Nat} (h:Lst (Pl gs K sp m c) k):k≤gs.length:=by have:=h.1.few;omega
theorem Z7I (s:Nat):(Zs s).Nodup:=by
 unfold Zs
 rw [List.nodup_iff_pairwise_ne,List.pairwise_map]
 exact (List.nodup_iff_pairwise_ne.1 (List.nodup_range.sublist List.filter_sublist)).imp fun h e=>h (by omega)
theorem Z8K {l:List Int} {n:Nat} (h:∀ x∈l,0≤x∧x<(n:Int)) (hn:l.Nodup):l.length≤n:=by rw [← Zii h hn];exact Z1O _ _
def Z9J (gl:Nat) (sp:Int) (pl:List (List Int)):Int:=bif decide (9<pl.length) then 2 else bif decide (plE gl sp pl≠0) then plE gl sp pl else ZM (gl:Int) pl.flatten
theorem Z6W {gl:Nat} {sp:Int} {pl:List (List Int)} (h:9<pl.length):Z9J gl sp pl=2:=by unfold Z9J;rw [decide_eq_true h];rfl
theorem Z6a {gl:Nat} {sp:Int} {pl:List (List Int)} (h:¬ 9<pl.length) (h2:plE gl sp pl≠0):Z9J gl sp pl=plE gl sp pl:=by unfold Z9J;rw [decide_eq_false h,decide_eq_true h2];rfl
theorem Z7M {gl:Nat} {sp:Int} {pl:List (List Int)} (h:¬ 9<pl.length) (h2:plE gl sp pl=0):Z9J gl sp pl=ZM (gl:Int) pl.flatten:=by unfold Z9J;rw [decide_eq_false h,h2];rfl
theorem ZgM {h:Hse} {fr to_:List Int} {sp:Int} {pl:List (List Int)} (h0:h.rcE fr to_ sp=0):h.svE fr to_ sp pl=Z9J h.gaps.length sp pl:=by unfold Hse.svE Z9J;rw [h0];rfl
set_option maxHeartbeats 600000 in
theorem ZcP (h:Hse) (ag as_:Option Addr) (cg cs:Nat) (hgl:h.gaps.length≤10) (now cz:List Int) (an ac:Option Addr) (cn cc:Nat) (hnl:now.length≤1000000) (hcl:cz.length≤1000000) (H:Zf) (R:Z6) [hG:MemRows ag 2 (Z7 h.gaps) R] [hN:MemRows an 1 (Z3 now) R] [hC:MemRows ac 1 (Z3 cz) R] :
    Fn Tryz.prog 80 [h.v (h.sg ag cg) (h.ss as_ cs),.slice an now.length cn,.slice ac cz.length cc] H R (fun v H' R'=>∃ o:OSl 3 1 (Z3 (Z0R h.gaps cz now)),v=o.fs∧H'=o.G++H∧R'=R):=by
 refine Zl Tryz.func80 rfl Tryz.ntmps80 rfl ?_
 refine sqt 2 rfl (bx rfl rfl rfl (fun b3=>pur 1 rfl (sqt 4 rfl ?_)))
 refine Zec rfl Z03 rfl (fun o10 ho10=>?_)
 refine pur 1 rfl ?_
 refine apO (news:=Z3 now) o10 rfl Z1v rfl rfl (Z2o) (irl _) (by simp [ZO,Z3,Value.oneCell']) (by rw [irl];simp only [List.length_nil];omega) rfl (fun o12=>?_)
 refine pur 1 rfl (Z0 (sqt 1 rfl (pur 1 rfl (Z4 ?_))))
 refine Ze (ι:=(i:{i:Nat // i≤h.gaps.length})×OSl 3 1 (Z3 (nxt h.gaps cz now (i.1)))) (fun y=>⟨[(1,.slice an now.length cn),(2,.slice ac cz.length cc),(3,.pointer (some ⟨b3,0,none⟩)),(7,y.2.fs),(8,.int .i64 (y.1.1:Int))],y.2.G++((b3,cel 57 (htl h (h.sg ag cg) (h.ss as_ cs)))::H),R⟩) (fun y=>h.gaps.length-y.1.1) ⟨⟨0,Nat.zero_le _⟩,o12.cast (by simp [nxt,Z3])⟩ ?_ (fun y=>?_)
 exact Zi idH
 obtain ⟨⟨i,hi⟩,o⟩:=y
 dsimp only at hi o ⊢
 have hnx:=Z4K h.gaps cz now i
 have hnx2:=Z4K h.gaps cz now (i+1)
 refine Z0 (sqt 5 rfl (pur 1 rfl (sp rfl (PE.fA Z16 rfl) rfl (spL rfl rfl (lh Z7h rfl rfl) rfl (sp rfl (PE.lenSl Z58 rfl) rfl (pur 1 rfl ?_))))))
 refine Z1 rfl ?_ ?_<;>intro hc0<;>try simp only [cS] at hc0
 obtain ⟨g,hg⟩:∃ g,h.gaps[i]?=some g:=⟨_,List.getElem?_eq_getElem (by omega)⟩
 refine Zh (a:=ag) (sz:=2) (rows:=Z7 h.gaps) (ne0 (by rw [ZJ];omega)) (fun ba oa he=>?_)
 subst he
 refine Z2 (Z0 (Z4 (sqt 7 rfl (sp rfl (PE.fA Z16 rfl) rfl (spL rfl rfl (lh Z7h rfl rfl) rfl (pur 1 rfl (sp rfl (PE.indexAddr Zjb rfl rfl (by omega) (by omega)) rfl (spL rfl rfl (lfA Z9O (row:=grow g) (Z1l hg) rfl) rfl (alc rfl Zcm rfl (fun b9=>?_))))))))))
 refine ZG (l':=grow g) rfl rfl rfl Zd5 rfl rfl rfl rfl (nl rfl) ?_
 refine Z0 (sqt 3 rfl (pur 2 rfl ?_))
 refine clV rfl Z1g rfl rfl (Z0j cz ac cc (i:Int) (by omega) _ _) ?_
 refine Z1 rfl ?_ ?_<;>intro hc1<;>try simp only [cS] at hc1
 refine Z9 (Za (Zm (sqr 3 rfl (pur 1 rfl (sp rfl (PE.add rfl rfl (by omega)) rfl (pur 1 rfl ?_))))))
 exact Zb ⟨⟨i+1,by omega⟩,o.cast (by rw [Z8N hg hc1])⟩ (fun w h9=>h9.del b9)
 have hop:=Z8M (now:=now) hg hc1
 have hx1:(nx1 h.gaps cz now i g).length≤now.length+2*i+1:=by unfold nx1;cases ZH now g.a&&!ZH (nxt h.gaps cz now i) g.b<;>simp<;>omega
 refine Sy.heap (H':=o.G++((b9,cel 129 (grow g))::_)) (fun w h9=>h9.perm (ZI [_] _ _)) ?_
 refine Z2 (Z0 (sqt 11 rfl (pur 1 rfl (sp rfl (PE.fA Z0o rfl) rfl (spL rfl rfl (lh sc3 rfl rfl) rfl ?_)))))
 refine clV rfl Z1g rfl rfl (Z0j now an cn g.a (by omega) _ _) ?_
 refine pur 1 rfl ?_
 refine Zj 32 rfl ?_ ?_<;>intro g32
 refine pur 1 rfl ?_
 refine spG rfl rfl rfl rfl (PE.fA Z0F rfl) rfl ?_
 refine Z0m rfl rfl rfl rfl rfl (lh sc3 rfl rfl) rfl ?_
 refine Z0C rfl rfl rfl rfl Z1g rfl rfl (FnV.lendO o (fun v=>[v,.int .i64 g.b]) (fun a5 c5 _=>by rw [irl];exact Z0j (nxt h.gaps cz now (i)) a5 c5 g.b (by omega) _ _)) ?_
 refine pur 2 rfl ?_
 refine ZL (ι:=OSl 3 1 (Z3 (nx1 h.gaps cz now i g))) (fun o=>⟨[(1,.slice an now.length cn),(2,.slice ac cz.length cc),(3,.pointer (some ⟨b3,0,none⟩)),(7,o.fs),(8,.int .i64 (i:Int)),(9,.pointer (some ⟨b9,0,none⟩))],o.G++((b9,cel 129 (grow g))::(b3,cel 57 (htl h (h.sg (some ⟨ba,oa,none⟩) cg) (h.ss as_ cs)))::H),R⟩) ?_ ?_
 refine Z1 rfl ?_ ?_<;>intro hc2
 refine sqr 6 rfl (pur 1 rfl (sp rfl (PE.fA Z0F rfl) rfl (spL rfl rfl (lh sc3 rfl rfl) rfl ?_)))
 refine bsl (out:=[_]) rfl Z03 zl3 rfl rfl rfl rfl rfl rfl (fun b42=>?_)
 refine apO (o) rfl Z1v rfl rfl (Z02 (row:=[.int .i64 g.b]) rfl) rfl rfl ((by rw [irl];simp only [List.length_singleton];omega)) rfl (fun o43=>?_)
 refine pur 1 rfl ?_
 first | exact Zk (o43.cast (by unfold nx1;simp [Z3, *])) (fun w h9=>h9.del b42) | exact Zk (o.cast (by unfold nx1;simp [Z3, *])) idH
 refine Z2 ?_
 first | exact Zk (o43.cast (by unfold nx1;simp [Z3, *])) (fun w h9=>h9.del b42) | exact Zk (o.cast (by unfold nx1;simp [Z3, *])) idH
 clear hnx2
 intro o
 dsimp only
 refine sqt 11 rfl (pur 1 rfl (sp rfl (PE.fA Z0F rfl) rfl (spL rfl rfl (lh sc3 rfl rfl) rfl ?_)))
 refine clV rfl Z1g rfl rfl (Z0j now an cn g.b (by omega) _ _) ?_
 refine pur 1 rfl ?_
 refine Zj 48 rfl ?_ ?_<;>intro g48
 refine pur 1 rfl ?_
 refine spG rfl rfl rfl rfl (PE.fA Z0o rfl) rfl ?_
 refine Z0m rfl rfl rfl rfl rfl (lh sc3 rfl rfl) rfl ?_
 refine Z0C rfl rfl rfl rfl Z1g rfl rfl (FnV.lendO o (fun v=>[v,.int .i64 g.a]) (fun a5 c5 _=>by rw [irl];exact Z0j (nx1 h.gaps cz now i g) a5 c5 g.a (by omega) _ _)) ?_
 refine pur 2 rfl ?_
 refine Z1 rfl ?_ ?_<;>intro hc3
 refine sqr 6 rfl (pur 1 rfl (sp rfl (PE.fA Z0o rfl) rfl (spL rfl rfl (lh sc3 rfl rfl) rfl ?_)))
 refine bsl (out:=[_]) rfl Z03 zl3 rfl rfl rfl rfl rfl rfl (fun b58=>?_)
 refine apO (o) rfl Z1v rfl rfl (Z02 (row:=[.int .i64 g.a]) rfl) rfl rfl ((by rw [irl];simp only [List.length_singleton];omega)) rfl (fun o59=>?_)
 refine pur 1 rfl (sqr 3 rfl (pur 1 rfl (sp rfl (PE.add rfl rfl (by omega)) rfl (pur 1 rfl ?_))))
 first | exact Zd ⟨⟨i+1,by omega⟩,o59.cast (by rw [hop];simp [Z3, *])⟩ (by dsimp only;omega) (fun w h9=>((h9.del b58).del b9)) | exact Zd ⟨⟨i+1,by omega⟩,o.cast (by rw [hop];simp [Z3, *])⟩ (by dsimp only;omega) (fun w h9=>h9.del b9)
 refine Z2 (sqr 3 rfl (pur 1 rfl (sp rfl (PE.add rfl rfl (by omega)) rfl (pur 1 rfl ?_))))
 first | exact Zd ⟨⟨i+1,by omega⟩,o59.cast (by rw [hop];simp [Z3, *])⟩ (by dsimp only;omega) (fun w h9=>((h9.del b58).del b9)) | exact Zd ⟨⟨i+1,by omega⟩,o.cast (by rw [hop];simp [Z3, *])⟩ (by dsimp only;omega) (fun w h9=>h9.del b9)
 refine pur 6 rfl ?_
 refine Zz rfl ?_
 refine Z2 (sqr 3 rfl (pur 1 rfl (sp rfl (PE.add rfl rfl (by omega)) rfl (pur 1 rfl ?_))))
 first | exact Zd ⟨⟨i+1,by omega⟩,o59.cast (by rw [hop];simp [Z3, *])⟩ (by dsimp only;omega) (fun w h9=>((h9.del b58).del b9)) | exact Zd ⟨⟨i+1,by omega⟩,o.cast (by rw [hop];simp [Z3, *])⟩ (by dsimp only;omega) (fun w h9=>h9.del b9)
 refine pur 6 rfl ?_
 refine ZL (ι:=OSl 3 1 (Z3 (nx1 h.gaps cz now i g))) (fun o=>⟨[(1,.slice an now.length cn),(2,.slice ac cz.length cc),(3,.pointer (some ⟨b3,0,none⟩)),(7,o.fs),(8,.int .i64 (i:Int)),(9,.pointer (some ⟨b9,0,none⟩))],o.G++((b9,cel 129 (grow g))::(b3,cel 57 (htl h (h.sg (some ⟨ba,oa,none⟩) cg) (h.ss as_ cs)))::H),R⟩) ?_ ?_
 refine Zz rfl ?_
 refine Z2 ?_
 first | exact Zk (o43.cast (by unfold nx1;simp [Z3, *])) (fun w h9=>h9.del b42) | exact Zk (o.cast (by unfold nx1;simp [Z3, *])) idH
 clear hnx2
 intro o
 dsimp only
 refine sqt 11 rfl (pur 1 rfl (sp rfl (PE.fA Z0F rfl) rfl (spL rfl rfl (lh sc3 rfl rfl) rfl ?_)))
 refine clV rfl Z1g rfl rfl (Z0j now an cn g.b (by omega) _ _) ?_
 refine pur 1 rfl ?_
 refine Zj 48 rfl ?_ ?_<;>intro g48
 refine pur 1 rfl ?_
 refine spG rfl rfl rfl rfl (PE.fA Z0o rfl) rfl ?_
 refine Z0m rfl rfl rfl rfl rfl (lh sc3 rfl rfl) rfl ?_
 refine Z0C rfl rfl rfl rfl Z1g rfl rfl (FnV.lendO o (fun v=>[v,.int .i64 g.a]) (fun a5 c5 _=>by rw [irl];exact Z0j (nx1 h.gaps cz now i g) a5 c5 g.a (by omega) _ _)) ?_
 refine pur 2 rfl ?_
 refine Z1 rfl ?_ ?_<;>intro hc3
 refine sqr 6 rfl (pur 1 rfl (sp rfl (PE.fA Z0o rfl) rfl (spL rfl rfl (lh sc3 rfl rfl) rfl ?_)))
 refine bsl (out:=[_]) rfl Z03 zl3 rfl rfl rfl rfl rfl rfl (fun b58=>?_)
 refine apO (o) rfl Z1v rfl rfl (Z02 (row:=[.int .i64 g.a]) rfl) rfl rfl ((by rw [irl];simp only [List.length_singleton];omega)) rfl (fun o59=>?_)
 refine pur 1 rfl (sqr 3 rfl (pur 1 rfl (sp rfl (PE.add rfl rfl (by omega)) rfl (pur 1 rfl ?_))))
 first | exact Zd ⟨⟨i+1,by omega⟩,o59.cast (by rw [hop];simp [Z3, *])⟩ (by dsimp only;omega) (fun w h9=>((h9.del b58).del b9)) | exact Zd ⟨⟨i+1,by omega⟩,o.cast (by rw [hop];simp [Z3, *])⟩ (by dsimp only;omega) (fun w h9=>h9.del b9)
 refine Z2 (sqr 3 rfl (pur 1 rfl (sp rfl (PE.add rfl rfl (by omega)) rfl (pur 1 rfl ?_))))
 first | exact Zd ⟨⟨i+1,by omega⟩,o59.cast (by rw [hop];simp [Z3, *])⟩ (by dsimp only;omega) (fun w h9=>((h9.del b58).del b9)) | exact Zd ⟨⟨i+1,by omega⟩,o.cast (by rw [hop];simp [Z3, *])⟩ (by dsimp only;omega) (fun w h9=>h9.del b9)
 refine pur 6 rfl ?_
 refine Zz rfl ?_
 refine Z2 (sqr 3 rfl (pur 1 rfl (sp rfl (PE.add rfl rfl (by omega)) rfl (pur 1 rfl ?_))))
 first | exact Zd ⟨⟨i+1,by omega⟩,o59.cast (by rw [hop];simp [Z3, *])⟩ (by dsimp only;omega) (fun w h9=>((h9.del b58).del b9)) | exact Zd ⟨⟨i+1,by omega⟩,o.cast (by rw [hop];simp [Z3, *])⟩ (by dsimp only;omega) (fun w h9=>h9.del b9)
 obtain rfl:i=h.gaps.length:=by omega
 refine Z9 (Za (Za (Zm (sqt 2 rfl (pur 2 rfl (Z5 ?_))))))
 exact rtA rfl rfl rfl ⟨o.cast (show _=Z3 (Z0R h.gaps cz now) from rfl),rfl,rfl,rfl⟩ (fun w h9=>h9.del b3)
def Zjh (h:Hse) (ag as_:Option Addr) (cg cs:Nat) (hok:h.ok) (to_:List Int) (at_:Option Addr) (ct:Nat) (ht:∀ x∈to_,0≤x∧x<7) (htl9:to_.length≤1000000) (spd:Nat) (hsp:spd≤1000000) (q:Nat):Prop:=∀ (now cz:List Int) (an ac:Option Addr) (cn cc:Nat) (m:Nat) (wk9:Int) (H:Zf) (R:Z6) [hG:MemRows ag 2 (Z7 h.gaps) R] [hT:MemRows at_ 1 (Z3 to_) R] [hN:MemRows an 1 (Z3 now) R] [hC:MemRows ac 1 (Z3 cz) R],Lm now m→(∀ x∈cz,0≤x∧x<h.gaps.length)→cz.Nodup→7≤now.length+q→(0≤wk9∧wk9≤100+now.length)→Fn Tryz.prog 23 [h.v (h.sg ag cg) (h.ss as_ cs),.slice an now.length cn,.slice at_ to_.length ct,.slice ac cz.length cc,.int .i64 (spd:Int),.int .i64 wk9] H R (fun v H' R'=>(∃ x:Int,FwQ h.gaps (msk to_) spd m (msk cz) x∧v = .int .i64 x)∧H'=H∧R'=R)
set_option maxHeartbeats 1000000 in
theorem Z4v (h:Hse) (ag as_:Option Addr) (cg cs:Nat) (hok:h.ok) (to_:List Int) (at_:Option Addr) (ct:Nat) (ht:∀ x∈to_,0≤x∧x<7) (htl9:to_.length≤1000000) (spd:Nat) (hsp:spd≤1000000) (q:Nat) (ih:∀ q9,q=q9+1→Zjh h ag as_ cg cs hok to_ at_ ct ht htl9 spd hsp q9) :
    Zjh h ag as_ cg cs hok to_ at_ ct ht htl9 spd hsp q:=by
 intro now cz an ac cn cc m wk9 H R hG hT hN hC hnl hcz hczn hq hwk
 refine Zl Tryz.func23 rfl Tryz.ntmps23 rfl ?_
 refine sqt 2 rfl ?_
 have hgl:=hok.gl
 have hbn:=hok.bins
 have hw7:Wth h.gaps 7:=fun g hg=>by have:=hok.gaps g hg;omega
 have hg7:∀ g∈h.gaps,(0≤g.a∧g.a<7)∧0≤g.b∧g.b<7:=fun g hg=>by have:=hok.gaps g hg;omega
 have hn7:=hnl.few
 have hczl:cz.length≤h.gaps.length:=Z8K hcz hczn
 have hcz0:∀ x∈cz,0≤x:=fun x hx=>(hcz x hx).1
 have hp10:=Nat.pow_le_pow_right (show 0<2 by decide) hgl
 have h10:(2:Nat) ^ 10=1024:=rfl
 refine bx rfl rfl rfl (fun b6=>pur 1 rfl (sqt 1 rfl (pur 1 rfl (Z0 (sqt 1 rfl (pur 1 rfl (Z4 ?_)))))))
 refine Ze (ι:={y:Nat×Int // y.1≤2 ^ h.gaps.length∧FwI h.gaps (msk to_) spd m (msk cz) y.1 y.2}) (fun y=>⟨[(1,.slice an now.length cn),(2,.slice at_ to_.length ct),(3,.slice ac cz.length cc),(4,.int .i64 (spd:Int)),(5,.int .i64 wk9),(6,.pointer (some ⟨b6,0,none⟩)),(13,.int .i64 y.1.2),(14,.int .i64 (y.1.1:Int))],(b6,cel 57 (htl h (h.sg ag cg) (h.ss as_ cs)))::H,R⟩) (fun y=>2 ^ h.gaps.length-y.1.1) ⟨(0,-1),Nat.zero_le _,FwI.start _ _ _ _ _⟩ ?_ (fun y=>?_)
 exact Zi idH
 obtain ⟨⟨s,x⟩,hs,hfw⟩:=y
 dsimp only at hs hfw ⊢
 refine Z0 (sqt 6 rfl (pur 1 rfl (sp rfl (PE.fA Z16 rfl) rfl (spL rfl rfl (lh Z7h rfl rfl) rfl (sp rfl (PE.lenSl Z58 rfl) rfl ?_)))))
 refine clV rfl Z7y rfl rfl (Z2T h.gaps.length (by omega) _ _) ?_
 refine pur 1 rfl ?_
 refine Z1 rfl ?_ ?_<;>intro hc0<;>try simp only [cS] at hc0
 have hsl:s<2 ^ h.gaps.length:=by omega
 have hs10:s<2 ^ 10:=by omega
 have hcnt:(Zs s).length=cnt h.gaps.length s:=Z2C hsl hgl
 have hml:=Z22 s
 refine Z2 (Z0 (Z4 (sqt 3 rfl (pur 1 rfl ?_))))
 refine cl rfl Z9m rfl rfl (Z3y s hs10 _ _) ?_
 rintro _ _ R1 ⟨o33,rfl,rfl,hR1⟩
 obtain rfl:=hR1.symm
 clear hR1
 obtain ⟨al,cl9,he,hcl9,hzz⟩:=o33.freezeC
 rw [irl] at hcl9
 rw [he,irl]
 refine Sy.heap (H':=_) (fun w h9=>hzz h9) ?_
 clear he hzz
 refine pur 1 rfl (Z0 (sqt 4 rfl (pur 1 rfl (sp rfl (PE.lenSl Zy rfl) rfl (pur 2 rfl ?_)))))
 refine Z1 rfl ?_ ?_<;>intro hc1<;>try simp only [cS] at hc1
 refine Z9 (Za (Zm (sqr 3 rfl (pur 1 rfl (sp rfl (PE.add rfl rfl (by omega)) rfl (pur 1 rfl ?_))))))
 exact Zb ⟨(s+1,x),by dsimp only;omega,hfw.skip (fun n hn=>by have:=hn.2.1;omega)⟩ (fun w h9=>h9.ftail)
 have hcs:cnt h.gaps.length s≤spd:=by omega
 refine Z2 (sqt 1 rfl (pur 1 rfl (Z0 (sqt 1 rfl (pur 1 rfl (Z4 ?_))))))
 refine Ze (ι:={i:Nat // i≤(Zs s).length}) (fun i=>⟨[(1,.slice an now.length cn),(2,.slice at_ to_.length ct),(3,.slice ac cz.length cc),(4,.int .i64 (spd:Int)),(5,.int .i64 wk9),(6,.pointer (some ⟨b6,0,none⟩)),(13,.int .i64 x),(14,.int .i64 (s:Int)),(15,.slice al (Zs s).length cl9),(16,.bool (((Zs s).take i.1).any (ZH cz))),(17,.int .i64 (i.1:Int))],(b6,cel 57 (htl h (h.sg ag cg) (h.ss as_ cs)))::H,RowsA al 1 (Z3 (Zs s))::R⟩) (fun i=>(Zs s).length-i.1) ⟨0,Nat.zero_le _⟩ ?_ (fun i=>?_)
 exact Zi idH
 obtain ⟨i,hi⟩:=i
 dsimp only at hi ⊢
 refine Z0 (sqt 4 rfl (pur 2 rfl (sp rfl (PE.lenSl Zy rfl) rfl (pur 1 rfl ?_))))
 refine Z1 rfl ?_ ?_<;>intro hc2<;>try simp only [cS] at hc2
 obtain ⟨u,hu⟩:∃ u,(Zs s)[i]?=some u:=⟨_,List.getElem?_eq_getElem (by omega)⟩
 have has1:((Zs s).take (i+1)).any (ZH cz)=(((Zs s).take i).any (ZH cz)||ZH cz u):=Z2v hu
 refine Zh (a:=al) (sz:=1) (rows:=Z3 (Zs s)) (ne0 (by rw [irl];omega)) (fun ba bo he=>?_)
 subst he
 refine Z2 (Z0 (Z4 (sqr 10 rfl (pur 2 rfl ?_))))
 refine Zj 45 rfl ?_ ?_<;>intro g45
 refine pur 8 rfl (sqr 3 rfl (pur 1 rfl (sp rfl (PE.add rfl rfl (by omega)) rfl (pur 1 rfl ?_))))
 first
   | (have f1:((Zs s).take (i+1)).any (ZH cz)=true:=by rw [has1,g45];rfl
      exact Zc ⟨i+1,by omega⟩ (by dsimp only;omega) (by rw [f1];exact sbA) idH)
   | (have f1:((Zs s).take (i+1)).any (ZH cz)=ZH cz u:=by rw [has1,g45];rfl
      exact Zc ⟨i+1,by omega⟩ (by dsimp only;omega) (by rw [f1];exact sbA) idH)
 refine pur 3 rfl ?_
 refine spG rfl rfl rfl rfl (PE.indexAddr Z0c rfl rfl (by omega) (by omega)) rfl ?_
 refine Z0m rfl rfl rfl rfl rfl (lf0 sc3 (ZB hu) rfl) rfl ?_
 refine Z0C rfl rfl rfl rfl Z1g rfl rfl (Z0j cz ac cc u (by omega) _ _) ?_
 refine pur 2 rfl (sqr 3 rfl (pur 1 rfl (sp rfl (PE.add rfl rfl (by omega)) rfl (pur 1 rfl ?_))))
 first
   | (have f1:((Zs s).take (i+1)).any (ZH cz)=true:=by rw [has1,g45];rfl
      exact Zc ⟨i+1,by omega⟩ (by dsimp only;omega) (by rw [f1];exact sbA) idH)
   | (have f1:((Zs s).take (i+1)).any (ZH cz)=ZH cz u:=by rw [has1,g45];rfl
      exact Zc ⟨i+1,by omega⟩ (by dsimp only;omega) (by rw [f1];exact sbA) idH)
 obtain rfl:i=(Zs s).length:=by omega
 rw [List.take_length]
 refine Z9 (Za (Za (Zm (Z0 (sqt 1 rfl (pur 1 rfl ?_))))))
 refine Z1 rfl ?_ ?_<;>intro hc3
 have hac:=(Zkh hcz0 hs10).1 hc3
 refine Z9 (Za (Zm (sqr 3 rfl (pur 1 rfl (sp rfl (PE.add rfl rfl (by omega)) rfl (pur 1 rfl ?_))))))
 exact Zb ⟨(s+1,x),by dsimp only;omega,hfw.skip (fun n hn=>hac hn.1)⟩ (fun w h9=>h9.ftail)
 have hac:s&&&msk cz=0:=Classical.byContradiction fun e=>by rw [(Zkh hcz0 hs10).2 e] at hc3;cases hc3
 have hmsk:msk (cz++Zs s)=(msk cz|||s):=by rw [Z5q,Z1x hs10]
 have hall0:∀ x∈(cz++Zs s),0≤x∧x<(h.gaps.length:Int):=fun x hx=>(List.mem_append.1 hx).elim (hcz x) (fun h=>by obtain ⟨j,_,h2,rfl⟩:=memL_bit.1 h;have:=Z0n hsl h2;omega)
 have halln:(cz++Zs s).Nodup:=List.nodup_append.2 ⟨hczn,Z7I s,fun a ha b hb e=>by
   subst e
   obtain ⟨j,_,h2,rfl⟩:=memL_bit.1 hb
   have h3:=and_zero.1 hac j h2
   rw [← Z2k hcz0] at h3
   rw [hasI_iff.2 ha] at h3;cases h3⟩
 have hall9:=Z8K hall0 halln
 refine Z2 (sqt 6 rfl ?_)
 refine Zec rfl Z03 rfl (fun o54 ho54=>?_)
 refine pur 1 rfl ?_
 refine apO (news:=Z3 cz) o54 rfl Z1v rfl rfl (Z2o) (irl _) (by simp [ZO,Z3,Value.oneCell']) (by rw [irl];simp only [List.length_nil];omega) rfl (fun o56=>?_)
 refine pur 1 rfl ?_
 refine apO (news:=Z3 (Zs s)) o56 rfl Z1v rfl rfl (Z2o) (irl _) (by simp [ZO,Z3,Value.oneCell']) (by rw [irl,List.length_append,irl];simp only [List.length_nil];omega) rfl (fun o58=>?_)
 refine pur 1 rfl (sqt 5 rfl ?_)
 obtain ⟨aa,ca,he,hca,hzz⟩:=(o58.cast (show _=Z3 (cz++Zs s) by simp [Z3])).freezeC
 rw [irl] at hca
 rw [show o58.fs=_ from he,irl]
 refine Sy.heap (H':=_) (fun w h9=>hzz h9) ?_
 clear he hzz
 refine spL rfl rfl (lhA (htl h (h.sg ag cg) (h.ss as_ cs)) Z1q rfl rfl rfl) rfl (pur 2 rfl ?_)
 refine cl rfl ZfJ rfl rfl (Zas h ag as_ cg cs hgl now (cz++Zs s) an aa cn ca (by omega) (by omega) _ _) ?_
 rintro _ _ R1 ⟨a9,c9,rfl,hc9,rfl,hR1⟩
 obtain rfl:=hR1.symm
 clear hR1
 have hth:Lm (Z0R h.gaps (cz++Zs s) now) (spr h.gaps (msk cz|||s) m):=Z7K hg7 (fun i=>by rw [Z2k (fun x hx=>(hall0 x hx).1),hmsk]) hnl
 have hth7:=hth.few
 refine pur 1 rfl (sqt 1 rfl (pur 1 rfl (Z0 (sqt 1 rfl (pur 1 rfl (Z4 ?_))))))
 refine Ze (ι:={i:Nat // i≤to_.length}) (fun i=>⟨[(1,.slice an now.length cn),(2,.slice at_ to_.length ct),(3,.slice ac cz.length cc),(4,.int .i64 (spd:Int)),(5,.int .i64 wk9),(6,.pointer (some ⟨b6,0,none⟩)),(13,.int .i64 x),(14,.int .i64 (s:Int)),(15,.slice al (Zs s).length cl9),(18,.slice aa (cz++Zs s).length ca),(19,.slice a9 (Z0R h.gaps (cz++Zs s) now).length c9),(20,.bool ((to_.take i.1).any (ZH (Z0R h.gaps (cz++Zs s) now)))),(21,.int .i64 (i.1:Int))],(b6,cel 57 (htl h (h.sg ag cg) (h.ss as_ cs)))::H,RowsA a9 1 (Z3 (Z0R h.gaps (cz++Zs s) now))::RowsA aa 1 (Z3 (cz++Zs s))::RowsA al 1 (Z3 (Zs s))::R⟩) (fun i=>to_.length-i.1) ⟨0,Nat.zero_le _⟩ ?_ (fun i=>?_)
 exact Zi idH
 obtain ⟨i,hi⟩:=i
 dsimp only at hi ⊢
 refine Z0 (sqt 4 rfl (pur 2 rfl (sp rfl (PE.lenSl Zy rfl) rfl (pur 1 rfl ?_))))
 refine Z1 rfl ?_ ?_<;>intro hc4<;>try simp only [cS] at hc4
 obtain ⟨u,hu⟩:∃ u,to_[i]?=some u:=⟨_,List.getElem?_eq_getElem (by omega)⟩
 have has1:(to_.take (i+1)).any (ZH (Z0R h.gaps (cz++Zs s) now))=((to_.take i).any (ZH (Z0R h.gaps (cz++Zs s) now))||ZH (Z0R h.gaps (cz++Zs s) now) u):=Z2v hu
 refine Zh (a:=at_) (sz:=1) (rows:=Z3 to_) (ne0 (by rw [irl];omega)) (fun ba bo he=>?_)
 subst he
 refine Z2 (Z0 (Z4 (sqr 10 rfl (pur 2 rfl ?_))))
 refine Zj 70 rfl ?_ ?_<;>intro g70
 refine pur 8 rfl (sqr 3 rfl (pur 1 rfl (sp rfl (PE.add rfl rfl (by omega)) rfl (pur 1 rfl ?_))))
 first
   | (have f1:(to_.take (i+1)).any (ZH (Z0R h.gaps (cz++Zs s) now))=true:=by rw [has1,g70];rfl
      exact Zc ⟨i+1,by omega⟩ (by dsimp only;omega) (by rw [f1];exact sbA) idH)
   | (have f1:(to_.take (i+1)).any (ZH (Z0R h.gaps (cz++Zs s) now))=ZH (Z0R h.gaps (cz++Zs s) now) u:=by rw [has1,g70];rfl
      exact Zc ⟨i+1,by omega⟩ (by dsimp only;omega) (by rw [f1];exact sbA) idH)
 refine pur 3 rfl ?_
 refine spG rfl rfl rfl rfl (PE.indexAddr Z0c rfl rfl (by omega) (by omega)) rfl ?_
 refine Z0m rfl rfl rfl rfl rfl (lf0 sc3 (ZB hu) rfl) rfl ?_
 refine Z0C rfl rfl rfl rfl Z1g rfl rfl (Z0j (Z0R h.gaps (cz++Zs s) now) a9 c9 u (by omega) _ _) ?_
 refine pur 2 rfl (sqr 3 rfl (pur 1 rfl (sp rfl (PE.add rfl rfl (by omega)) rfl (pur 1 rfl ?_))))
 first
   | (have f1:(to_.take (i+1)).any (ZH (Z0R h.gaps (cz++Zs s) now))=true:=by rw [has1,g70];rfl
      exact Zc ⟨i+1,by omega⟩ (by dsimp only;omega) (by rw [f1];exact sbA) idH)
   | (have f1:(to_.take (i+1)).any (ZH (Z0R h.gaps (cz++Zs s) now))=ZH (Z0R h.gaps (cz++Zs s) now) u:=by rw [has1,g70];rfl
      exact Zc ⟨i+1,by omega⟩ (by dsimp only;omega) (by rw [f1];exact sbA) idH)
 obtain rfl:i=to_.length:=by omega
 rw [List.take_length]
 refine Z9 (Za (Za (Zm (Z0 (sqt 1 rfl (pur 1 rfl ?_))))))
 refine Z1 rfl ?_ ?_<;>intro hc5
 have hlost:=(Zj5 hth (fun x hx=>(ht x hx).1)).1 hc5
 refine Z9 (Za (Zm (sqr 3 rfl (pur 1 rfl (sp rfl (PE.add rfl rfl (by omega)) rfl (pur 1 rfl ?_))))))
 exact Zb ⟨(s+1,x),by dsimp only;omega,hfw.skip (fun n hn=>hlost hn.2.2.1)⟩ (fun w h9=>h9.ftail.ftail.ftail)
 have hsafe:(spr h.gaps (msk cz|||s) m)&&&msk to_=0:=Classical.byContradiction fun e=>by rw [(Zj5 hth (fun x hx=>(ht x hx).1)).2 e] at hc5;cases hc5
 have hgr:=Lm.grow hnl hth
 refine Z2 (sqt 3 rfl (pur 1 rfl (sp rfl (PE.lenSl Zy rfl) rfl (pur 1 rfl (Z0 (sqt 5 rfl (pur 1 rfl (sp rfl (PE.lenSl Zy rfl) rfl (pur 1 rfl (sp rfl (PE.lenSl Zy rfl) rfl (pur 1 rfl ?_)))))))))))
 refine ZL (ι:={n:Nat // Stp1 h.gaps (msk to_) spd m (msk cz) s n∧n≤20}) (fun n=>⟨[(1,.slice an now.length cn),(2,.slice at_ to_.length ct),(3,.slice ac cz.length cc),(4,.int .i64 (spd:Int)),(5,.int .i64 wk9),(6,.pointer (some ⟨b6,0,none⟩)),(13,.int .i64 x),(14,.int .i64 (s:Int)),(22,.int .i64 (n.1:Int))],(b6,cel 57 (htl h (h.sg ag cg) (h.ss as_ cs)))::H,RowsA a9 1 (Z3 (Z0R h.gaps (cz++Zs s) now))::RowsA aa 1 (Z3 (cz++Zs s))::RowsA al 1 (Z3 (Zs s))::R⟩) ?_ ?_
 refine Z1 rfl ?_ ?_<;>intro hc6<;>try simp only [cS] at hc6
 have hst:(spr h.gaps (msk cz|||s) m)≠m:=hgr.1 (by omega)
 obtain ⟨q9,rfl⟩:∃ q9,q=q9+1:=⟨q-1,by omega⟩
 refine sqt 9 rfl (spL rfl rfl (lhA (htl h (h.sg ag cg) (h.ss as_ cs)) Z1q rfl rfl rfl) rfl (pur 5 rfl (sp rfl (PE.add rfl rfl (by omega)) rfl ?_)))
 refine cl rfl ZcU rfl rfl (ih q9 rfl (Z0R h.gaps (cz++Zs s) now) (cz++Zs s) a9 aa c9 ca (spr h.gaps (msk cz|||s) m) (wk9+1) _ _ hth hall0 halln (by omega) (by omega)) ?_
 rintro _ _ R1 ⟨⟨mo,hmo,rfl⟩,rfl,hR1⟩
 obtain rfl:=hR1.symm
 clear hR1
 rw [hmsk] at hmo
 refine pur 1 rfl (Z0 (sqt 2 rfl (pur 2 rfl ?_)))
 refine Z1 rfl ?_ ?_<;>intro hc7<;>try simp only [cS] at hc7
 refine Z9 (Za ?_)
 refine ZiX ?_
 refine Za (Zm (sqr 3 rfl (pur 1 rfl (sp rfl (PE.add rfl rfl (by omega)) rfl (pur 1 rfl ?_)))))
 exact Zc ⟨(s+1,x),by dsimp only;omega,hfw.skip (fun n hn=>by
   rcases hn.2.2.2 with ⟨h1,_⟩ | ⟨_,k,_,h3⟩
   · exact hst h1
   · rcases hmo with ⟨n',h4,h5⟩ | ⟨h4,_⟩
     · omega
     · exact h4 k h3.1)⟩ (by dsimp only;omega) sbA (fun w h9=>h9.ftail.ftail.ftail)
 obtain ⟨k,hk,rfl⟩:∃ k:Nat,Lst (Pl h.gaps (msk to_) spd (spr h.gaps (msk cz|||s) m) (msk cz|||s)) k∧mo=k:=by
   rcases hmo with ⟨n',h4,h5⟩ | ⟨_,h4⟩
   · exact ⟨n',h4,h5⟩
   · omega
 have hkf:=hk.few9
 have hcl:=Z1O h.gaps.length s
 refine Z2 (sqr 4 rfl (pur 2 rfl (sp rfl (PE.add rfl rfl (by omega)) rfl ?_)))
 rw [show (((Zs s).length:Nat):Int)+(k:Int)=((cnt h.gaps.length s+k:Nat):Int) by omega]
 refine pur 1 rfl ?_
 exact Zk ⟨cnt h.gaps.length s+k,⟨hac,hcs,hsafe,.inr ⟨hst,k,rfl,hk⟩⟩,by omega⟩ idH
 have hst:(spr h.gaps (msk cz|||s) m)=m:=Classical.byContradiction fun e=>by have:=hgr.2 e;omega
 have hcl:=Z1O h.gaps.length s
 refine Z2 ?_
 exact ZR ⟨cnt h.gaps.length s,⟨hac,hcs,hsafe,.inl ⟨hst,rfl⟩⟩,by omega⟩ (by dsimp only;rw [← hcnt];exact sbA) idH
 rintro ⟨n,hn,hn20⟩
 dsimp only
 refine sqt 7 rfl (pur 3 rfl ?_)
 refine Zj 101 rfl ?_ ?_<;>intro g101
 try simp only [cS] at g101
 refine pur 4 rfl ?_
 refine ZP rfl ?_
 refine sqr 2 rfl (pur 2 rfl (sqr 3 rfl (pur 1 rfl (sp rfl (PE.add rfl rfl (by omega)) rfl (pur 1 rfl ?_)))))
 first
   | exact Zd ⟨(s+1,(n:Int)),by dsimp only;omega,hfw.take hn (.inl (by omega))⟩ (by dsimp only;omega) (fun w h9=>h9.ftail.ftail.ftail)
   | exact Zd ⟨(s+1,(n:Int)),by dsimp only;omega,hfw.take hn (.inr (by omega))⟩ (by dsimp only;omega) (fun w h9=>h9.ftail.ftail.ftail)
   | exact Zd ⟨(s+1,x),by dsimp only;omega,hfw.worse hn (by omega)⟩ (by dsimp only;omega) (fun w h9=>h9.ftail.ftail.ftail)
 try simp only [cS] at g101
 refine pur 4 rfl ?_
 refine Z1 rfl ?_ ?_<;>intro hc8<;>try simp only [cS] at hc8
 refine sqr 2 rfl (pur 2 rfl (sqr 3 rfl (pur 1 rfl (sp rfl (PE.add rfl rfl (by omega)) rfl (pur 1 rfl ?_)))))
 first
   | exact Zd ⟨(s+1,(n:Int)),by dsimp only;omega,hfw.take hn (.inl (by omega))⟩ (by dsimp only;omega) (fun w h9=>h9.ftail.ftail.ftail)
   | exact Zd ⟨(s+1,(n:Int)),by dsimp only;omega,hfw.take hn (.inr (by omega))⟩ (by dsimp only;omega) (fun w h9=>h9.ftail.ftail.ftail)
   | exact Zd ⟨(s+1,x),by dsimp only;omega,hfw.worse hn (by omega)⟩ (by dsimp only;omega) (fun w h9=>h9.ftail.ftail.ftail)
 refine Z2 (sqr 3 rfl (pur 1 rfl (sp rfl (PE.add rfl rfl (by omega)) rfl (pur 1 rfl ?_))))
 first
   | exact Zd ⟨(s+1,(n:Int)),by dsimp only;omega,hfw.take hn (.inl (by omega))⟩ (by dsimp only;omega) (fun w h9=>h9.ftail.ftail.ftail)
   | exact Zd ⟨(s+1,(n:Int)),by dsimp only;omega,hfw.take hn (.inr (by omega))⟩ (by dsimp only;omega) (fun w h9=>h9.ftail.ftail.ftail)
   | exact Zd ⟨(s+1,x),by dsimp only;omega,hfw.worse hn (by omega)⟩ (by dsimp only;omega) (fun w h9=>h9.ftail.ftail.ftail)
 obtain rfl:s=2 ^ h.gaps.length:=by omega
 have hfq:=hfw.done
 refine Z9 (Za (Za (Zm (sqt 2 rfl (pur 2 rfl (Z5 ?_))))))
 exact rtA rfl rfl rfl ⟨⟨x,hfq,rfl⟩,rfl,rfl⟩ (fun w h9=>h9.del b6)
theorem Z8f (h:Hse) (ag as_:Option Addr) (cg cs:Nat) (hok:h.ok) (to_:List Int) (at_:Option Addr) (ct:Nat) (ht:∀ x∈to_,0≤x∧x<7) (htl9:to_.length≤1000000) (spd:Nat) (hsp:spd≤1000000):∀ q,Zjh h ag as_ cg cs hok to_ at_ ct ht htl9 spd hsp q
 | 0=>Z4v h ag as_ cg cs hok to_ at_ ct ht htl9 spd hsp 0 (fun q9 h=>by cases h)
 | q+1=>Z4v h ag as_ cg cs hok to_ at_ ct ht htl9 spd hsp (q+1) (fun q9 e9=>(Nat.succ.inj e9)▸Z8f h ag as_ cg cs hok to_ at_ ct ht htl9 spd hsp q)
theorem Zf8 {gl:Nat} {l:List Int} (h:∀ x∈l.take l.length,inB x 0 ((gl:Int)-1)=true):(!(l.all fun k=>inB k 0 ((gl:Int)-1)))=false:=by
 rw [List.take_length] at h
 rw [Bool.not_eq_false',List.all_eq_true];exact h
theorem Zcw {gl:Nat} {l:List Int} {x:Int} (hx:x∈l) (h:inB x 0 ((gl:Int)-1)=false):(!(l.all fun k=>inB k 0 ((gl:Int)-1)))=true:=by
 rw [Bool.not_eq_true']
 exact List.all_eq_false.2 ⟨x,hx,by rw [h];decide⟩
theorem Z4a (pl:List PL):Z2h pl pl.length=(lls pl).flatten:=by unfold Z2h lls;rw [List.take_length]
set_option maxHeartbeats 600000 in
theorem Z3z (h:Hse) (ag as_:Option Addr) (cg cs:Nat) (hgl9:h.gaps.length≤1000000) (spd:Int) (pl:List PL) (ap:Option Addr) (cp:Nat) (hpl:pl.length≤1000000) (htot:(lls pl).flatten.length≤1000000) (H:Zf) (R:Z6) [hG:MemRows ag 2 (Z7 h.gaps) R] [hP:MemRows ap 1 (Zg pl) R] [hI:MemF (Inn pl) R] :
    FnV Tryz.prog 24 [h.v (h.sg ag cg) (h.ss as_ cs),.int .i64 spd,.slice ap pl.length cp] H R (.int .i64 (Z9J h.gaps.length spd (lls pl))):=by
 refine Zl Tryz.func24 rfl Tryz.ntmps24 rfl ?_
 refine sqt 2 rfl ?_
 have hll:=Z04 pl
 have hxl:∀ x∈pl,x.l.length≤1000000:=fun x hx=>by
   have hm:x.l∈lls pl:=List.mem_map.2 ⟨x,hx,rfl⟩
   have:=List.Sublist.length_le (List.sublist_flatten_of_mem hm)
   omega
 refine bx rfl rfl rfl (fun b3=>pur 1 rfl (Z0 (sqt 3 rfl (pur 1 rfl (sp rfl (PE.lenSl Z0J rfl) rfl (pur 1 rfl ?_))))))
 refine Z1 rfl ?_ ?_<;>intro hc0<;>try simp only [cS] at hc0
 refine sqt 1 rfl (pur 1 rfl (Z5 ?_))
 exact rtA rfl rfl rfl ⟨congrArg (Value.int .i64) (Z6W (by omega)).symm,rfl,rfl⟩ (fun w h9=>h9.del b3)
 refine Z2 (sqt 1 rfl (pur 1 rfl (Z0 (sqt 1 rfl (pur 1 rfl (Z4 ?_))))))
 refine Ze (ι:=(k:{k:Nat // k≤pl.length∧plE h.gaps.length spd ((lls pl).take k)=0})×OSl 3 1 (Z3 (Z2h pl k.1))) (fun y=>⟨[(1,.int .i64 spd),(2,.slice ap pl.length cp),(3,.pointer (some ⟨b3,0,none⟩)),(7,y.2.fs),(8,.int .i64 (y.1.1:Int))],y.2.G++((b3,cel 57 (htl h (h.sg ag cg) (h.ss as_ cs)))::H),R⟩) (fun y=>pl.length-y.1.1) ⟨⟨0,Nat.zero_le _,rfl⟩,OSl.nil _ _⟩ ?_ (fun y=>?_)
 exact Zi idH
 obtain ⟨⟨k,hk,hpe⟩,o⟩:=y
 dsimp only at hk hpe o ⊢
 have hct:=Z0B pl k
 have hct2:=Z0B pl (k+1)
 refine Z0 (sqt 4 rfl (pur 2 rfl (sp rfl (PE.lenSl Z0J rfl) rfl (pur 1 rfl ?_))))
 refine Z1 rfl ?_ ?_<;>intro hc1<;>try simp only [cS] at hc1
 obtain ⟨x,hx⟩:∃ x,pl[k]?=some x:=⟨_,List.getElem?_eq_getElem (by omega)⟩
 have hx9:=hxl x (List.mem_of_getElem? hx)
 have hgx:=Z1m hx
 have hst:=Z1h hx
 have hsl:=congrArg List.length hst
 rw [List.length_append] at hsl
 refine Sy.heap (fun w h9=>St.inn (x:=x) h9 (List.mem_of_getElem? hx)) ?_
 refine Zh (a:=ap) (sz:=1) (rows:=Zg pl) (ne0 (by rw [Zt];omega)) (fun ba oa he=>?_)
 subst he
 refine Z2 (Z0 (Z4 (sqt 5 rfl (pur 2 rfl (sp rfl (PE.indexAddr Z4A rfl rfl (by omega) (by omega)) rfl (spL rfl rfl (lf0 Z1t (Z0M hx) rfl) rfl (pur 1 rfl (Z0 (sqt 1 rfl (pur 1 rfl (Z4 ?_)))))))))))
 refine Ze (ι:={i:Nat // i≤x.l.length∧∀ y∈x.l.take i,inB y 0 ((h.gaps.length:Int)-1)=true}) (fun i=>⟨[(1,.int .i64 spd),(2,.slice (some ⟨ba,oa,none⟩) pl.length cp),(3,.pointer (some ⟨b3,0,none⟩)),(7,o.fs),(8,.int .i64 (k:Int)),(9,.slice x.a x.l.length x.c),(10,.int .i64 (i.1:Int))],o.G++((b3,cel 57 (htl h (h.sg ag cg) (h.ss as_ cs)))::H),RowsA x.a 1 (Z3 x.l)::R⟩) (fun i=>x.l.length-i.1) ⟨0,Nat.zero_le _,by simp⟩ ?_ (fun i=>?_)
 exact Zi idH
 obtain ⟨i,hi,hia⟩:=i
 dsimp only at hi hia ⊢
 refine Z0 (sqt 4 rfl (pur 2 rfl (sp rfl (PE.lenSl Zy rfl) rfl (pur 1 rfl ?_))))
 refine Z1 rfl ?_ ?_<;>intro hc2<;>try simp only [cS] at hc2
 obtain ⟨u,hu⟩:∃ u,x.l[i]?=some u:=⟨_,List.getElem?_eq_getElem (by omega)⟩
 refine Zh (a:=x.a) (sz:=1) (rows:=Z3 x.l) (ne0 (by rw [irl];omega)) (fun bx9 ox9 hxa=>?_)
 rw [hxa]
 refine Z2 (Z0 (Z4 (Z0 ?_)))
 refine Zo [0,0,3,7,0,16,48,112,255] (tks 0 3 (.ld 3 (.tk 4 (.ld 5 (.tk 6 (.tk 7 (.big 8 .done))))))) ZF (by kernel_rfl) ?_
 refine Zu 2 rfl (tk rfl (PE.indexAddr Z0c rfl rfl (by omega) (by omega)) rfl (ld rfl rfl (lf0 sc3 (ZB hu) rfl) rfl (tk rfl (PE.fA Z16 rfl) rfl (ld rfl rfl (lh Z7h rfl rfl) rfl (tk rfl (PE.lenSl Z58 rfl) rfl (tk rfl (PE.sub rfl rfl (by omega)) rfl ?_))))))
 refine clV rfl Z7x rfl rfl (Z4w _ _ _ _ _) ?_
 refine bgT ?_
 refine Z1 rfl ?_ ?_<;>intro hc3
 have hc9:inB u 0 ((h.gaps.length:Int)-1)=false:=by rw [← Bool.not_eq_true'];exact hc3
 have hle:lE h.gaps.length spd x.l=1:=ZeF (Zcw (List.mem_of_getElem? hu) hc9)
 have hpl9:=Z5r hpe hgx (by rw [hle];decide)
 rw [hle] at hpl9
 have hse:=Z6a (gl:=h.gaps.length) (sp:=spd) (pl:=lls pl) (by omega) (by rw [hpl9];decide)
 rw [hpl9] at hse
 refine sqt 1 rfl (pur 1 rfl (Z5 ?_))
 exact rtA rfl rfl rfl ⟨congrArg (Value.int .i64) (hse.symm),rfl,rfl⟩ (fun w h9=>St.sub ((St.drop (G:=o.G) h9).del b3))
 have hc9:inB u 0 ((h.gaps.length:Int)-1)=true:=by rw [← Bool.not_eq_false'];exact hc3
 refine Z2 (sqr 3 rfl (pur 1 rfl (sp rfl (PE.add rfl rfl (by omega)) rfl (pur 1 rfl ?_))))
 exact Zc ⟨i+1,by omega,fun y hy=>by
   rw [List.take_add_one,hu] at hy
   rcases List.mem_append.1 hy with h1 | h1
   · exact hia y h1
   · rw [List.mem_singleton.1 h1];exact hc9⟩ (by dsimp only;omega) (by first | exact sbA | (rw [← hxa];exact sbA)) (by first | exact idH | (rw [← hxa];exact idH))
 obtain rfl:i=x.l.length:=by omega
 have hin9:=Zf8 (gl:=h.gaps.length) hia
 refine Z9 (Za (Za (Zm (Z0 (sqt 1 rfl (pur 1 rfl (Z4 ?_)))))))
 refine Ze (ι:={i:Nat // (1≤i∧i≤x.l.length+1)∧∀ j,j+1<i→j+1<x.l.length→na x.l j<na x.l (j+1)}) (fun i=>⟨[(1,.int .i64 spd),(2,.slice (some ⟨ba,oa,none⟩) pl.length cp),(3,.pointer (some ⟨b3,0,none⟩)),(7,o.fs),(8,.int .i64 (k:Int)),(9,.slice x.a x.l.length x.c),(11,.int .i64 (i.1:Int))],o.G++((b3,cel 57 (htl h (h.sg ag cg) (h.ss as_ cs)))::H),RowsA x.a 1 (Z3 x.l)::R⟩) (fun i=>x.l.length+1-i.1) ⟨1,⟨by omega,by omega⟩,fun j h1=>by omega⟩ ?_ (fun i=>?_)
 exact Zi idH
 obtain ⟨i,⟨hi1,hi2⟩,hia⟩:=i
 dsimp only at hi1 hi2 hia ⊢
 refine Z0 (sqt 4 rfl (pur 2 rfl (sp rfl (PE.lenSl Zy rfl) rfl (pur 1 rfl ?_))))
 refine Z1 rfl ?_ ?_<;>intro hc4<;>try simp only [cS] at hc4
 obtain ⟨u,hu⟩:∃ u,x.l[i]?=some u:=⟨_,List.getElem?_eq_getElem (by omega)⟩
 obtain ⟨v,hv⟩:∃ v,x.l[i-1]?=some v:=⟨_,List.getElem?_eq_getElem (by omega)⟩
 refine Zh (a:=x.a) (sz:=1) (rows:=Z3 x.l) (ne0 (by rw [irl];omega)) (fun bx9 ox9 hxa=>?_)
 rw [hxa]
 refine Z2 (Z0 (Z4 (Z0 ?_)))
 refine Zo [0,0,3,7,0,0,32,112,240,511] (tks 0 3 (.ld 3 (tks 4 4 (.ld 8 (.tk 9 .done))))) ZF (by kernel_rfl) ?_
 refine Zu 2 rfl (tk rfl (PE.indexAddr Z0c rfl rfl (by omega) (by omega)) rfl (ld rfl rfl (lf0 sc3 (ZB hu) rfl) rfl (Zu 2 rfl (tk rfl (PE.sub rfl rfl (by omega)) rfl ?_))))
 rw [show (i:Int)-1=((i-1:Nat):Int) from by omega]
 refine tk rfl (PE.indexAddr Z0c rfl rfl (by omega) (by omega)) rfl (ld rfl rfl (lf0 sc3 (ZB hv) rfl) rfl (Zu 1 rfl ?_))
 refine Z1 rfl ?_ ?_<;>intro hc5<;>try simp only [cS] at hc5
 have hle:lE h.gaps.length spd x.l=4:=ZeE hin9 (Zea (i:=i-1) (by omega) (by rw [show i-1+1=i by omega,Z1n hu,Z1n hv];exact hc5))
 have hpl9:=Z5r hpe hgx (by rw [hle];decide)
 rw [hle] at hpl9
 have hse:=Z6a (gl:=h.gaps.length) (sp:=spd) (pl:=lls pl) (by omega) (by rw [hpl9];decide)
 rw [hpl9] at hse
 refine sqt 1 rfl (pur 1 rfl (Z5 ?_))
 exact rtA rfl rfl rfl ⟨congrArg (Value.int .i64) (hse.symm),rfl,rfl⟩ (fun w h9=>St.sub ((St.drop (G:=o.G) h9).del b3))
 refine Z2 (sqr 3 rfl (pur 1 rfl (sp rfl (PE.add rfl rfl (by omega)) rfl (pur 1 rfl ?_))))
 exact Zc ⟨i+1,⟨by omega,by omega⟩,fun j h1 h2=>by
   rcases Nat.lt_or_ge (j+1) i with h3 | h3
   · exact hia j h3 h2
   · obtain rfl:i=j+1:=by omega
     have h4:=Z1n hu
     have h5:=Z1n hv
     rw [Nat.add_sub_cancel] at h5
     omega⟩ (by dsimp only;omega) (by first | exact sbA | (rw [← hxa];exact sbA)) (by first | exact idH | (rw [← hxa];exact idH))
 have hasc:Z9I x.l=true:=Z7m fun j hj=>hia j (by omega) hj
 have hle9:lE h.gaps.length spd x.l=_:=Z7E hin9 hasc
 refine Z9 (Za (Za (Zm (Z0 (sqt 4 rfl (pur 1 rfl (sp rfl (PE.lenSl Zy rfl) rfl (pur 2 rfl ?_))))))))
 refine Z1 rfl ?_ ?_<;>intro hc6<;>try simp only [cS] at hc6
 rw [dT (show spd<(x.l.length:Int) by omega),cond_true] at hle9
 have hle:lE h.gaps.length spd x.l=9:=hle9
 have hpl9:=Z5r hpe hgx (by rw [hle];decide)
 rw [hle] at hpl9
 have hse:=Z6a (gl:=h.gaps.length) (sp:=spd) (pl:=lls pl) (by omega) (by rw [hpl9];decide)
 rw [hpl9] at hse
 refine sqt 1 rfl (pur 1 rfl (Z5 ?_))
 exact rtA rfl rfl rfl ⟨congrArg (Value.int .i64) (hse.symm),rfl,rfl⟩ (fun w h9=>St.sub ((St.drop (G:=o.G) h9).del b3))
 rw [dF (show ¬ spd<(x.l.length:Int) by omega),cond_false] at hle9
 refine Z2 (sqr 4 rfl (pur 2 rfl ?_))
 refine apO (news:=Z3 x.l) o rfl Z1v rfl rfl (Z2o) (irl _) (by simp [ZO,Z3,Value.oneCell']) (by rw [irl,irl];omega) rfl (fun o62=>?_)
 refine pur 1 rfl (sqr 3 rfl (pur 1 rfl (sp rfl (PE.add rfl rfl (by omega)) rfl (pur 1 rfl ?_))))
 exact Zb ⟨⟨k+1,by omega,ZeO hpe hgx hle9⟩,o62.cast (by rw [hst];simp [Z3])⟩ (fun w h9=>h9.ftail)
 obtain rfl:k=pl.length:=by omega
 rw [List.take_of_length_le (by omega)] at hpe
 have hse:=Z7M (gl:=h.gaps.length) (sp:=spd) (pl:=lls pl) (by omega) hpe
 obtain ⟨a9,c9,he,hc9,hzz⟩:=(o.cast (show _=Z3 (lls pl).flatten by rw [Z4a])).freezeC
 rw [irl] at hc9
 rw [show o.fs=_ from he,irl]
 refine Sy.heap (H':=_) (fun w h9=>hzz h9) ?_
 clear he hzz
 refine Z9 (Za (Za (Zm (sqt 6 rfl (pur 1 rfl (sp rfl (PE.fA Z16 rfl) rfl (spL rfl rfl (lh Z7h rfl rfl) rfl (sp rfl (PE.lenSl Z58 rfl) rfl ?_))))))))
 refine clV rfl Z7v rfl rfl (Z1f (lls pl).flatten a9 c9 (h.gaps.length:Int) (by omega) (by omega) hc9 _ _) ?_
 refine pur 1 rfl (Z5 ?_)
 exact rtA rfl rfl rfl ⟨congrArg (Value.int .i64) hse.symm,rfl,rfl⟩ (fun w h9=>St.sub (h9.del b3))
set_option maxHeartbeats 600000 in
theorem Z5M (h:Hse) (ag as_:Option Addr) (cg cs:Nat) (hok:h.ok) (fr to_:List Int) (af at_:Option Addr) (cf ct:Nat) (hlf:fr.length≤1000000) (hlt:to_.length≤1000000) (hfc:fr.length≤cf) (htc:to_.length≤ct) (hbe:h.botE fr to_=0) (pl:List PL) (ap:Option Addr) (cp:Nat) (hpl:pl.length≤9) (htot:(lls pl).flatten.length≤1000000) (hpx:∀ x∈(lls pl).flatten,0≤x) (H:Zf) (R:Z6) [hG:MemRows ag 2 (Z7 h.gaps) R] [hF:MemRows af 1 (Z3 fr) R] [hT:MemRows at_ 1 (Z3 to_) R] [hP:MemRows ap 1 (Zg pl) R] [hI:MemF (Inn pl) R] :
    FnV Tryz.prog 25 [h.v (h.sg ag cg) (h.ss as_ cs),.slice af fr.length cf,.slice at_ to_.length ct,.slice ap pl.length cp] H R (.bool (h.svB fr to_ (lls pl))):=by
 refine Zl Tryz.func25 rfl Tryz.ntmps25 rfl ?_
 refine sqt 2 rfl ?_
 have hb:=Z0A hbe
 obtain ⟨q1,q2,q3,q4,q5,q6⟩:=ZV hb
 have hgl:=hok.gl
 have hbn:=hok.bins
 have hlm:Lm fr (msk fr):=Lm.of (n:=h.bins) (by omega) hb.el
 have hg7:∀ g∈h.gaps,(0≤g.a∧g.a<7)∧0≤g.b∧g.b<7:=fun g hg=>by have:=hok.gaps g hg;omega
 have hsv:=(Zc6 hok (to_:=to_) (fun x hx=>(ZQ hb.el).1 x hx) (pl:=pl) hpl).2
 have hnf:=hlm.few
 refine bx rfl rfl rfl (fun b4=>pur 1 rfl (sqt 2 rfl (pur 2 rfl (sqt 1 rfl (pur 1 rfl (Z0 (sqt 1 rfl (pur 1 rfl (Z4 ?_)))))))))
 refine Sy.heap (fun w h9=>h9.also (f:=RowsA af 1 (Z3 fr)) (fun w' hg=>hg _ hF.mem)) ?_
 refine Ze (ι:=(y:{y:Nat×List Int×Option Addr×Nat // y.1≤20∧Lm y.2.1 (lvp h.gaps (clP pl) (msk fr) (y.1))})×OSl 3 1 (Z3 (Z2h pl y.1.1))) (fun y=>⟨[(2,.slice at_ to_.length ct),(3,.slice ap pl.length cp),(4,.pointer (some ⟨b4,0,none⟩)),(9,.slice y.1.1.2.2.1 y.1.1.2.1.length y.1.1.2.2.2),(10,y.2.fs),(11,.int .i64 (y.1.1.1:Int))],y.2.G++((b4,cel 57 (htl h (h.sg ag cg) (h.ss as_ cs)))::H),RowsA y.1.1.2.2.1 1 (Z3 y.1.1.2.1)::R⟩) (fun y=>20-y.1.1.1) ⟨⟨(0,fr,af,cf),by dsimp only;omega,hlm⟩,OSl.nil _ _⟩ ?_ (fun y=>?_)
 exact Zi idH
 obtain ⟨⟨⟨w,now,an,cn⟩,hw,hnl⟩,oc⟩:=y
 dsimp only at hw hnl oc ⊢
 have hn7:=hnl.few
 have hct:=Z0B pl w
 have hct2:=Z0B pl (w+1)
 refine Z0 (sqt 2 rfl (pur 2 rfl ?_))
 refine Z1 rfl ?_ ?_<;>intro hc0<;>try simp only [cS] at hc0
 refine Z2 (Z0 (Z4 (Z0 (sqt 4 rfl (pur 2 rfl (sp rfl (PE.lenSl Z0J rfl) rfl (pur 1 rfl ?_)))))))
 refine ZL (ι:=OSl 3 1 (Z3 (Z2h pl (w+1)))) (fun oc=>⟨[(2,.slice at_ to_.length ct),(3,.slice ap pl.length cp),(4,.pointer (some ⟨b4,0,none⟩)),(9,.slice an now.length cn),(10,oc.fs),(11,.int .i64 (w:Int))],oc.G++((b4,cel 57 (htl h (h.sg ag cg) (h.ss as_ cs)))::H),RowsA an 1 (Z3 now)::R⟩) ?_ ?_
 refine Z1 rfl ?_ ?_<;>intro hc1<;>try simp only [cS] at hc1
 obtain ⟨x,hx⟩:∃ x,pl[w]?=some x:=⟨_,List.getElem?_eq_getElem (by omega)⟩
 have hst:=Z1h hx
 have hsl:=congrArg List.length hst
 rw [List.length_append] at hsl
 refine Sy.heap (fun w h9=>St.inn (x:=x) h9 (List.mem_of_getElem? hx)) ?_
 refine Zh (a:=ap) (sz:=1) (rows:=Zg pl) (ne0 (by rw [Zt];omega)) (fun ba oa he=>?_)
 subst he
 refine sqr 7 rfl (pur 3 rfl (sp rfl (PE.indexAddr Z4A rfl rfl (by omega) (by omega)) rfl (spL rfl rfl (lf0 Z1t (Z0M hx) rfl) rfl ?_)))
 refine apO (news:=Z3 x.l) oc rfl Z1v rfl rfl (Z2o) (irl _) (by simp [ZO,Z3,Value.oneCell']) (by rw [irl,irl];omega) rfl (fun o27=>?_)
 refine pur 1 rfl ?_
 first | exact Zk (o27.cast (by rw [hst];simp [Z3])) (fun w h9=>h9.ftail) | exact Zk (oc.cast (by rw [Z8j (by omega)])) idH
 refine Z2 ?_
 first | exact Zk (o27.cast (by rw [hst];simp [Z3])) (fun w h9=>h9.ftail) | exact Zk (oc.cast (by rw [Z8j (by omega)])) idH
 intro oc
 dsimp only
 refine sqr 5 rfl (spL rfl rfl (lhA (htl h (h.sg ag cg) (h.ss as_ cs)) Z1q rfl rfl rfl) rfl (pur 2 rfl ?_))
 refine cl rfl ZfJ rfl rfl (Fn.lendOO (q:=fun v T'=>∃ o':OSl 3 1 (Z3 (Z0R h.gaps (Z2h pl (w+1)) now)),v=o'.fs∧T'=o'.G++((b4,cel 57 (htl h (h.sg ag cg) (h.ss as_ cs)))::H)) oc (fun v=>[h.v (h.sg ag cg) (h.ss as_ cs),.slice an now.length cn,v]) (fun a c B=>by rw [irl];exact Fn.mono (ZcP h ag as_ cg cs hgl now (Z2h pl (w+1)) an a cn c (by omega) (by omega) _ _) (by rintro v H' R' ⟨o',rfl,rfl,rfl⟩;exact ⟨⟨o',rfl,rfl⟩,rfl⟩))) ?_
 rintro _ _ R1 ⟨T',⟨o',rfl,rfl⟩,rfl,hR1⟩
 obtain rfl:=hR1.symm
 clear hR1
 have hth:Lm (Z0R h.gaps (Z2h pl (w+1)) now) (lvp h.gaps (clP pl) (msk fr) (w+1)):=Z7K hg7 (fun i=>by rw [Z2k (fun x hx=>hpx x (Zd0 hx))];rfl) hnl
 obtain ⟨a9,c9,he,hc9,hzz⟩:=o'.freezeC
 rw [irl] at hc9
 rw [he,irl]
 refine Sy.heap (H':=oc.G++((b4,cel 57 (htl h (h.sg ag cg) (h.ss as_ cs)))::H)) (fun w h9=>hzz (h9.perm (List.perm_append_comm_assoc _ _ _))) ?_
 clear he hzz
 refine pur 1 rfl (sqr 3 rfl (pur 1 rfl (sp rfl (PE.add rfl rfl (by omega)) rfl (pur 1 rfl ?_))))
 exact Zb ⟨⟨(w+1,(Z0R h.gaps (Z2h pl (w+1)) now),a9,c9),by dsimp only;omega,hth⟩,oc⟩ (fun w h9=>h9.facts (fun g hg=>by simp only [List.mem_cons] at hg ⊢;rcases hg with h8 | h8<;>simp [h8]))
 obtain rfl:w=20:=by omega
 refine Sy.heap (fun w h9=>St.drop (G:=oc.G) h9) ?_
 refine Z9 (Za (Za (Zm (Z0 (sqt 1 rfl (pur 1 rfl (Z4 ?_)))))))
 refine Ze (ι:={k:Nat // k≤to_.length∧∀ x∈to_.take k,ZH now x=false}) (fun k=>⟨[(2,.slice at_ to_.length ct),(9,.slice an now.length cn),(12,.int .i64 (k.1:Int))],(b4,cel 57 (htl h (h.sg ag cg) (h.ss as_ cs)))::H,RowsA an 1 (Z3 now)::R⟩) (fun k=>to_.length-k.1) ⟨0,Nat.zero_le _,by simp⟩ ?_ (fun k=>?_)
 exact Zi idH
 obtain ⟨k,hk,hn⟩:=k
 dsimp only at hk hn ⊢
 refine Z0 (sqt 4 rfl (pur 2 rfl (sp rfl (PE.lenSl Zy rfl) rfl (pur 1 rfl ?_))))
 refine Z1 rfl ?_ ?_<;>intro hc2<;>try simp only [cS] at hc2
 obtain ⟨x,hx⟩:∃ x,to_[k]?=some x:=⟨_,List.getElem?_eq_getElem (by omega)⟩
 refine Zh (a:=at_) (sz:=1) (rows:=Z3 to_) (ne0 (by rw [irl];omega)) (fun bt9 ot9 he=>?_)
 subst he
 refine Z2 (Z0 (Z4 (sqt 6 rfl (pur 3 rfl (sp rfl (PE.indexAddr Z0c rfl rfl (by omega) (by omega)) rfl (spL rfl rfl (lf0 sc3 (ZB hx) rfl) rfl ?_))))))
 refine clV rfl Z1g rfl rfl (Z0j now an cn x (by omega) _ _) ?_
 refine Z1 rfl ?_ ?_<;>intro hc3<;>try simp only [cS] at hc3
 have hany:to_.any (ZH now)=true:=List.any_eq_true.2 ⟨x,List.mem_of_getElem? hx,hc3⟩
 have hne:=(Zj5 hnl (fun x hx=>(q2 x hx).1)).1 hany
 have hsf:h.svB fr to_ (lls pl)=false:=by
   cases hb9:h.svB fr to_ (lls pl) with
   | false=>rfl
   | true=>exact absurd (hsv.1 hb9) hne
 refine sqt 1 rfl (pur 1 rfl (Z5 ?_))
 exact rtA rfl rfl rfl ⟨by simp only [ZU];rw [hsf],rfl,rfl⟩ (fun w h9=>St.sub (h9.del b4))
 refine Z2 (sqr 3 rfl (pur 1 rfl (sp rfl (PE.add rfl rfl (by omega)) rfl (pur 1 rfl ?_))))
 exact Zc ⟨k+1,by omega,fun y hy=>by
   rw [List.take_add_one,hx] at hy
   rcases List.mem_append.1 hy with h1 | h1
   · exact hn y h1
   · rw [List.mem_singleton.1 h1];exact hc3⟩ (by dsimp only;omega) sbA idH
 obtain rfl:k=to_.length:=by omega
 rw [List.take_length] at hn
 have hsf:h.svB fr to_ (lls pl)=true:=hsv.2 (Classical.byContradiction fun e=>by
   obtain ⟨x,h1,h2⟩:=List.any_eq_true.1 ((Zj5 hnl (fun x hx=>(q2 x hx).1)).2 e)
   rw [hn x h1] at h2;cases h2)
 refine Z9 (Za (Za (Zm (sqt 1 rfl (pur 1 rfl (Z5 ?_))))))
 exact rtA rfl rfl rfl ⟨by simp only [ZU];rw [hsf],rfl,rfl⟩ (fun w h9=>St.sub (h9.del b4))
theorem Zjs:cal Tryz.prog 15=true:=by kernel_rfl
theorem ZhS:cal Tryz.prog 20=true:=by kernel_rfl
theorem ZhT:cal Tryz.prog 22=true:=by kernel_rfl
theorem ZfF:cal Tryz.prog 24=true:=by kernel_rfl
theorem ZfG:cal Tryz.prog 25=true:=by kernel_rfl
theorem Zjt:cal Tryz.prog 27=true:=by kernel_rfl
theorem ZfH:cal Tryz.prog 31=true:=by kernel_rfl
def wdB (h:Hse):Bool:=Zco h||(decide (6<h.gaps.length)&&decide (h.gaps.length≤10))
theorem ZaX:∀ {l:List (List Int)},(∀ x∈l,x.length≤14)→l.flatten.length≤14*l.length
 | [],_=>Nat.zero_le _
 | x::l,h=>by
   have h1:=ZaX (l:=l) (fun y hy=>h y (by simp [hy]))
   have h2:=h x (by simp)
   rw [List.flatten_cons,List.length_append,List.length_cons];omega
theorem Z8E {l:List (List Int)} (h:Zdt l=false):(∀ x∈l,x.length≤14)∧l.length≤14:=by
 unfold Zdt at h
 rw [Bool.or_eq_false_iff] at h
 refine ⟨fun x hx=>?_,by simpa using h.2⟩
 have:=List.any_eq_false.1 h.1 x hx
 simpa using this
theorem ZbR {gs:List Gp} {K sp:Nat}:∀ {ls:List Nat} {m c m' c':Nat},Seg gs K sp m c ls m' c'→m'=Z2O gs m c ls∧c'=Z1B c ls
 | [],_,_,_,_,⟨h1,h2⟩=>⟨h1,h2⟩
 | l::ls,_,_,_,_,⟨_,h2⟩=>ZbR (ls:=ls) h2
theorem ZeS {gs:List Gp} {K sp:Nat} (hg:gs.length≤10):∀ {ls:List Nat} {m c m' c':Nat},Seg gs K sp m c ls m' c'→((ls.map Zs).flatten).Nodup∧(∀ x∈(ls.map Zs).flatten,c.testBit x.toNat=false)∧∀ l∈ls,l<2 ^ gs.length∧cnt gs.length l≤sp
 | [],_,_,_,_,_=>⟨List.nodup_nil,by simp,by simp⟩
 | l::ls,m,c,m',c',⟨⟨h1,h2,h3,_⟩,h4⟩=>by
   obtain ⟨i1,i2,i3⟩:=ZeS hg (ls:=ls) h4
   rw [List.map_cons,List.flatten_cons]
   have key:∀ x∈Zs l,∃ k:Nat,x=k∧l.testBit k=true:=fun x hx=>by
     obtain ⟨k,_,h6,rfl⟩:=memL_bit.1 hx;exact ⟨k,rfl,h6⟩
   refine ⟨List.nodup_append.2 ⟨Z7I l,i1,fun a ha b hb e=>?_⟩,fun x hx=>?_,fun x hx=>?_⟩
   · subst e
     obtain ⟨k,rfl,h6⟩:=key a ha
     have h7:=i2 _ hb
     rw [Int.toNat_natCast,Nat.testBit_or,h6,Bool.or_true] at h7;cases h7
   · rcases List.mem_append.1 hx with h5 | h5
     · obtain ⟨k,rfl,h6⟩:=key x h5
       rw [Int.toNat_natCast]
       exact and_zero.1 h2 k h6
     · have h7:=i2 x h5
       rw [Nat.testBit_or,Bool.or_eq_false_iff] at h7;exact h7.1
   · rcases List.mem_cons.1 hx with rfl | h5
     · exact ⟨h1,h3⟩
     · exact i3 x h5
theorem Zdv (s:Nat):Z9I (Zs s)=true:=by
 obtain ⟨y,h1,h2,_⟩:=Z23 s
 rw [h1]
 refine Z7m fun i hi=>?_
 rw [List.length_map] at hi
 have h3:=List.pairwise_iff_getElem.1 h2 i (i+1) (by omega) hi (by omega)
 rw [Z1n (x:=(y[i]:Int)) (by rw [List.getElem?_map,List.getElem?_eq_getElem (by omega)];rfl),Z1n (x:=(y[i+1]:Int)) (by rw [List.getElem?_map,List.getElem?_eq_getElem hi];rfl)]
 omega
structure SvP (h:Hse) (fr to_:List Int) (sp ls:Int) (pl:List PL):Prop where
 pln:Z9J h.gaps.length sp (lls pl)=0
 sv:h.svB fr to_ (lls pl)=true
 len:((lls pl).flatten.length:Int)=ls
 few:pl.length≤8
 nn:∀ x∈(lls pl).flatten,0≤x
 tot:(lls pl).flatten.length≤1000
theorem ZiW {h:Hse} {fr to_:List Int} {sp:Int} {ls:List Nat} {pl:List PL} (hre:h.rcE fr to_ sp=0) (hll:lls pl=ls.map Zs) (hpl:pl.length≤8) (hlt:∀ l∈ls,l<2 ^ h.gaps.length) (hr:RunP h.gaps (msk to_) sp.toNat (msk fr) 0 ls):SvP h fr to_ sp (Z9L h.gaps ls) pl:=by
 obtain ⟨hb,hs0,hs1⟩:=ZdO hre
 have hk:=hb.ok
 have hgl:=hk.gl
 obtain ⟨m',c',hseg,hsh⟩:=hr
 obtain ⟨n1,n2,n3⟩:=ZeS hgl hseg
 obtain ⟨r1,r2⟩:=ZbR hseg
 have hmm:(lls pl).map msk=ls:=by
   rw [hll,List.map_map]
   exact (List.map_congr_left (g:=id) fun t ht=>Z1x (Nat.lt_of_lt_of_le (hlt t ht) (Nat.pow_le_pow_right (by decide) hgl))).trans (List.map_id _)
 have hrg:∀ l∈ls,∀ x∈Zs l,0≤x∧x<(h.gaps.length:Int):=fun l hl x hx=>by
   obtain ⟨k,_,h6,rfl⟩:=memL_bit.1 hx
   have:=Z0n (hlt l hl) h6;omega
 have hfl:(lls pl).flatten.length=Z9L h.gaps ls:=by rw [hll];exact Z6l hgl hlt
 have hnn:∀ x∈(lls pl).flatten,0≤x∧x<(h.gaps.length:Int):=fun x hx=>by
   rw [hll] at hx
   obtain ⟨l,h1,h2⟩:=List.mem_flatten.1 hx
   obtain ⟨t,ht,rfl⟩:=List.mem_map.1 h1
   exact hrg t ht x h2
 have hpe:plE h.gaps.length sp (lls pl)=0:=plE_zero.2 fun l hl=>by
   rw [hll] at hl
   obtain ⟨t,ht,rfl⟩:=List.mem_map.1 hl
   have h1:(!((Zs t).all fun k=>inB k 0 ((h.gaps.length:Int)-1)))=false:=by
     rw [Bool.not_eq_false',List.all_eq_true]
     intro x hx
     have:=hrg t ht x hx
     simp [inB];omega
   rw [Z7E h1 (Zdv t),Z2C (hlt t ht) hgl,decide_eq_false (by have:=(n3 t ht).2;omega)];rfl
 refine ⟨?_,?_,by rw [hfl],hpl,fun x hx=>(hnn x hx).1,?_⟩
 · rw [Z7M (by rw [Z04];omega) hpe]
   exact Z2B hnn (by rw [hll];exact n1)
 · refine (Zc6 hk (to_:=to_) (fun x hx=>(ZQ hb.el).1 x hx) (pl:=pl) (by omega)).1.2 ?_
   rw [hmm,← r1,← r2];exact hsh
 · have h1:=Z8K hnn (by rw [hll];exact n1)
   omega
def SvU (h:Hse) (fr to_:List Int) (sp u ls:Int):Prop:=(h.rcE fr to_ sp≠0∧u=h.rcE fr to_ sp∧ls=0)∨(h.rcE fr to_ sp=0∧(∀ n,¬ Pl h.gaps (msk to_) sp.toNat (msk fr) 0 n)∧u=6∧ls=0)∨(h.rcE fr to_ sp=0∧u=0∧∃ n:Nat,Lst (Pl h.gaps (msk to_) sp.toNat (msk fr) 0) n∧ls=n)
def SvS (h:Hse) (fr to_:List Int) (sl:Int):Prop:=(h.botE fr to_≠0∧sl=0)∨(h.botE fr to_=0∧∃ s:Nat,sl=s∧(∃ n,Pl h.gaps (msk to_) s (msk fr) 0 n)∧∀ s',s'<s→∀ n,¬ Pl h.gaps (msk to_) s' (msk fr) 0 n)
theorem ZbE {h:Hse} {fr to_:List Int} {sp:Int} (hb:h.botE fr to_≠0):h.rcE fr to_ sp=h.botE fr to_:=by unfold Hse.rcE;rw [decide_eq_true hb];rfl
theorem ZeP {h:Hse} {fr to_:List Int} {sp:Int} (hb:h.botE fr to_=0) (hs:¬ (0≤sp∧sp≤10)):h.rcE fr to_ sp=3:=by
 have:inB sp 0 10=false:=by
   cases h1:inB sp 0 10 with
   | false=>rfl
   | true=>exact absurd (by simpa [inB] using h1) hs
 unfold Hse.rcE;rw [hb,this];rfl
theorem ZgN {h:Hse} {fr to_:List Int} {sp:Int} {pl:List (List Int)} (h0:h.rcE fr to_ sp≠0):h.svR fr to_ sp pl=(false,h.rcE fr to_ sp):=Z40 (ZeW h0) h0
theorem ZbB {gl:Nat} {sp:Int} {pl:List (List Int)} (h:Z9J gl sp pl=0):pl.length≤9∧∀ x∈pl.flatten,0≤x:=by
 by_cases h1:9<pl.length
 · rw [Z6W h1] at h;cases h
 · by_cases h2:plE gl sp pl=0
   · rw [Z7M h1 h2] at h
     exact ⟨by omega,fun x hx=>((ZQ h).1 x hx).1⟩
   · rw [Z6a h1 h2] at h;exact absurd h h2
theorem ZkL {h:Hse} {fr to_:List Int} {spd:Nat} {x:Int} (h0:h.rcE fr to_ (spd:Int)=0) (hx:FwQ h.gaps (msk to_) spd (msk fr) 0 x):(x<0→SvU h fr to_ (spd:Int) 6 0)∧(¬ x<0→SvU h fr to_ (spd:Int) 0 x):=by
 rcases hx with ⟨n,h1,rfl⟩ | ⟨h1,rfl⟩
 · exact ⟨fun h9=>by omega,fun _=>.inr (.inr ⟨h0,rfl,n,by rw [Int.toNat_natCast];exact h1,rfl⟩)⟩
 · exact ⟨fun _=>.inr (.inl ⟨h0,by rw [Int.toNat_natCast];exact h1,rfl,rfl⟩),fun h9=>absurd (by decide) h9⟩
theorem Zfp (h:Hse) (ag as_:Option Addr) (cg cs:Nat) (hlg:h.gaps.length≤1000000) (hls:h.sights.length≤1000000) (fr to_:List Int) (af at_:Option Addr) (cf ct:Nat) (hlf:fr.length≤1000000) (hlt:to_.length≤1000000) (hfc:fr.length≤cf) (htc:to_.length≤ct) (sp u ls:Int) (hU:SvU h fr to_ sp u ls) (H:Zf) (R:Z6) [hG:MemRows ag 2 (Z7 h.gaps) R] [hS:MemRows as_ 3 (Z8 h.sights) R] [hF:MemRows af 1 (Z3 fr) R] [hT:MemRows at_ 1 (Z3 to_) R]:Fn Tryz.prog 9 [h.v (h.sg ag cg) (h.ss as_ cs),.slice af fr.length cf,.slice at_ to_.length ct,.int .i64 sp] H R (fun v H' R'=>∃ (pl:List PL) (a:Option Addr) (c:Nat),(u≠0→pl.length=0)∧(u=0→SvP h fr to_ sp ls pl)∧pl.length≤8∧pl.length≤c∧v = .tuple #[.slice a pl.length c,.int .i64 u]∧H'=H∧R'=RowsA a 1 (Zg pl)::Inn pl::R):=fun w hw=>by
 refine CallsIn.mono (Z8c h ag as_ cg cs (by omega) (by omega) fr to_ af at_ cf ct hlf hlt hfc htc sp H R w hw) ?_
 rintro e' w' ⟨v,H',R',⟨rfl,hq⟩,he,hs'⟩
 rcases hq with ⟨h1,rfl,rfl⟩ | ⟨h1,h2,rfl,rfl⟩ | ⟨h1,ls9,pl,a,c,h2,h3,h4,h5,h6,h7,rfl,rfl⟩
 · rcases hU with ⟨_,rfl,rfl⟩ | ⟨g1,_⟩ | ⟨g1,_⟩
   · exact ⟨_,_,_,⟨[],none,0,fun _=>rfl,fun h9=>absurd h9 h1,Nat.zero_le _,Nat.le_refl _,rfl,rfl,rfl⟩,he,St.norows (sz:=1) (St.inn0 hs')⟩
   · exact absurd g1 h1
   · exact absurd g1 h1
 · rcases hU with ⟨g1,_⟩ | ⟨_,_,rfl,rfl⟩ | ⟨_,_,n,g2,_⟩
   · exact absurd h1 g1
   · exact ⟨_,_,_,⟨[],none,0,fun _=>rfl,fun h9=>absurd h9 (by decide),Nat.zero_le _,Nat.le_refl _,rfl,rfl,rfl⟩,he,St.norows (sz:=1) (St.inn0 hs')⟩
   · exact absurd g2.1 (h2 n)
 · rcases hU with ⟨g1,_⟩ | ⟨_,g1,_⟩ | ⟨_,rfl,n,g2,rfl⟩
   · exact absurd h1 g1
   · exact absurd h7.1 (g1 _)
   · obtain rfl:=g2.unique h7
     exact ⟨_,_,_,⟨pl,a,c,fun h9=>absurd rfl h9,fun _=>ZiW h1 h2 h3 h5 h6,h3,h4,rfl,rfl,rfl⟩,he,hs'⟩
theorem Za3 (h:Hse) (ag as_:Option Addr) (cg cs:Nat) (hlg:h.gaps.length≤1000000) (hls:h.sights.length≤1000000) (fr to_:List Int) (af at_:Option Addr) (cf ct:Nat) (hlf:fr.length≤1000000) (hlt:to_.length≤1000000) (hfc:fr.length≤cf) (htc:to_.length≤ct) (sp u ls:Int) (hU:SvU h fr to_ sp u ls) (H:Zf) (R:Z6) [hG:MemRows ag 2 (Z7 h.gaps) R] [hS:MemRows as_ 3 (Z8 h.sights) R] [hF:MemRows af 1 (Z3 fr) R] [hT:MemRows at_ 1 (Z3 to_) R]:Fn Tryz.prog 26 [h.v (h.sg ag cg) (h.ss as_ cs),.slice af fr.length cf,.slice at_ to_.length ct,.int .i64 sp] H R (fun v H' R'=>v = .tuple #[.int .i64 ls,.int .i64 u]∧H'=H∧R'=R):=fun w hw=>by
 refine CallsIn.mono (Z8a h ag as_ cg cs (by omega) (by omega) fr to_ af at_ cf ct hlf hlt hfc htc sp H R w hw) ?_
 rintro e' w' ⟨v,H',R',⟨rfl,hq⟩,he,hs'⟩
 obtain ⟨rfl,hq⟩:=hq
 rcases hq with ⟨h1,rfl⟩ | ⟨h1,h2,rfl⟩ | ⟨h1,n9,_,h7,rfl⟩
 · rcases hU with ⟨_,rfl,rfl⟩ | ⟨g1,_⟩ | ⟨g1,_⟩
   · exact ⟨_,_,_,⟨rfl,rfl,rfl⟩,he,hs'⟩
   · exact absurd g1 h1
   · exact absurd g1 h1
 · rcases hU with ⟨g1,_⟩ | ⟨_,_,rfl,rfl⟩ | ⟨_,_,n,g2,_⟩
   · exact absurd h1 g1
   · exact ⟨_,_,_,⟨rfl,rfl,rfl⟩,he,hs'⟩
   · exact absurd g2.1 (h2 n)
 · rcases hU with ⟨g1,_⟩ | ⟨_,g1,_⟩ | ⟨_,rfl,n,g2,rfl⟩
   · exact absurd h1 g1
   · exact absurd h7.1 (g1 _)
   · obtain rfl:=g2.unique h7
     exact ⟨_,_,_,⟨rfl,rfl,rfl⟩,he,hs'⟩
theorem ZcH (h:Hse) (ag as_:Option Addr) (cg cs:Nat) (hlg:h.gaps.length≤1000000) (hls:h.sights.length≤1000000) (fr to_:List Int) (af at_:Option Addr) (cf ct:Nat) (hlf:fr.length≤1000000) (hlt:to_.length≤1000000) (hfc:fr.length≤cf) (htc:to_.length≤ct) (sl:Int) (hS9:SvS h fr to_ sl) (H:Zf) (R:Z6) [hG:MemRows ag 2 (Z7 h.gaps) R] [hS:MemRows as_ 3 (Z8 h.sights) R] [hF:MemRows af 1 (Z3 fr) R] [hT:MemRows at_ 1 (Z3 to_) R]:Fn Tryz.prog 28 [h.v (h.sg ag cg) (h.ss as_ cs),.slice af fr.length cf,.slice at_ to_.length ct] H R (fun v H' R'=>v = .tuple #[.int .i64 sl,.int .i64 (h.botE fr to_)]∧H'=H∧R'=R):=fun w hw=>by
 refine CallsIn.mono (Za8 h ag as_ cg cs (by omega) (by omega) fr to_ af at_ cf ct hlf hlt hfc htc H R w hw) ?_
 rintro e' w' ⟨v,H',R',⟨rfl,hq⟩,he,hs'⟩
 obtain ⟨rfl,hq⟩:=hq
 rcases hq with ⟨h1,rfl⟩ | ⟨h1,s,_,h3,h4,rfl⟩
 · rcases hS9 with ⟨_,rfl⟩ | ⟨g1,_⟩
   · exact ⟨_,_,_,⟨rfl,rfl,rfl⟩,he,hs'⟩
   · exact absurd g1 h1
 · rcases hS9 with ⟨g1,_⟩ | ⟨_,s9,rfl,g2,g3⟩
   · exact absurd h1 g1
   · have e:s9=s:=by
       rcases Nat.lt_trichotomy s9 s with h5 | h5 | h5
       · obtain ⟨n,hn⟩:=g2;exact absurd hn (h4 s9 h5 n)
       · exact h5
       · obtain ⟨n,hn⟩:=h3;exact absurd hn (g3 s h5 n)
     subst e
     exact ⟨_,_,_,⟨by rw [h1],rfl,rfl⟩,he,hs'⟩
theorem Zhp (h:Hse) (ag as_:Option Addr) (cg cs:Nat) (hlg:h.gaps.length≤9223372036854775807) (hls:h.sights.length≤9223372036854775807) (H:Zf) (R:Z6) :
    FnV Tryz.prog 15 [h.v (h.sg ag cg) (h.ss as_ cs)] H R (.bool (wdB h)):=by
 refine Zl Tryz.func15 rfl Tryz.ntmps15 rfl ?_
 refine sqt 2 rfl (bx rfl rfl rfl (fun b1=>pur 1 rfl (sqt 15 rfl (spL rfl rfl (lhA (htl h (h.sg ag cg) (h.ss as_ cs)) ZA rfl rfl rfl) rfl ?_))))
 refine clV rfl ZcX rfl rfl (Z5L h ag as_ cg cs (by omega) (by omega) _ _) ?_
 refine pur 1 rfl ?_
 refine Zj 5 rfl ?_ ?_<;>intro g5
 refine pur 5 rfl ?_
 repeat refine spU rfl rfl rfl rfl rfl rfl rfl ?_
 refine pur 3 rfl (Z5 ?_)
 exact rtA rfl rfl rfl ⟨congrArg Value.bool (show true=wdB h by unfold wdB;rw [g5];rfl),rfl,rfl⟩ (fun w h9=>h9.del b1)
 refine spG rfl rfl rfl rfl (PE.fA ZT rfl) rfl ?_
 refine Z0m rfl rfl rfl rfl rfl (lh Z2g rfl rfl) rfl ?_
 refine spG rfl rfl rfl rfl (PE.lenSl Z1s rfl) rfl ?_
 refine pur 2 rfl ?_
 refine Zj 10 rfl ?_ ?_<;>intro g10
 refine spG rfl rfl rfl rfl (PE.fA ZT rfl) rfl ?_
 refine Z0m rfl rfl rfl rfl rfl (lh Z2g rfl rfl) rfl ?_
 refine spG rfl rfl rfl rfl (PE.lenSl Z1s rfl) rfl ?_
 refine pur 4 rfl (Z5 ?_)
 exact rtA rfl rfl rfl ⟨congrArg Value.bool (show _=wdB h by have:=of_decide_eq_true g10;unfold wdB;rw [g5,dT (show 6<h.gaps.length by omega),Bool.false_or,Bool.true_and];exact decide_eq_decide.2 (by omega)),rfl,rfl⟩ (fun w h9=>h9.del b1)
 refine pur 7 rfl (Z5 ?_)
 exact rtA rfl rfl rfl ⟨congrArg Value.bool (show false=wdB h by have:=of_decide_eq_false g10;unfold wdB;rw [g5,dF (show ¬ 6<h.gaps.length by omega)];rfl),rfl,rfl⟩ (fun w h9=>h9.del b1)
set_option maxHeartbeats 1000000 in
theorem Z3c (h:Hse) (ag as_:Option Addr) (cg cs:Nat) (hlg:h.gaps.length≤9223372036854775807) (hls:h.sights.length≤9223372036854775807) (fr to_:List Int) (af at_:Option Addr) (cf ct:Nat) (hlf:fr.length≤9223372036854775807) (hlt:to_.length≤9223372036854775807) (hfc:fr.length≤cf) (htc:to_.length≤ct) (sq:Int) (pl:List PL) (ap:Option Addr) (cp:Nat) (hpl:pl.length≤9223372036854775807) (hpi:∀ x∈pl,x.l.length≤9223372036854775807) (H:Zf) (R:Z6) [hG:MemRows ag 2 (Z7 h.gaps) R] [hS:MemRows as_ 3 (Z8 h.sights) R] [hF:MemRows af 1 (Z3 fr) R] [hT:MemRows at_ 1 (Z3 to_) R] [hP:MemRows ap 1 (Zg pl) R] [hI:MemF (Inn pl) R] :
    Fn Tryz.prog 6 [h.v (h.sg ag cg) (h.ss as_ cs),.slice af fr.length cf,.slice at_ to_.length ct,.int .i64 sq,.slice ap pl.length cp] H R (fun v H' R'=>v = .bool true∧H'=H∧R'=R):=by
 refine Zl Tryz.func6 rfl Tryz.ntmps6 rfl ?_
 refine sqt 2 rfl (bx rfl rfl rfl (fun b5=>pur 1 rfl (Z0 (sqt 12 rfl (spL rfl rfl (lhA (htl h (h.sg ag cg) (h.ss as_ cs)) ZA rfl rfl rfl) rfl ?_)))))
 refine clV rfl Zjs rfl rfl (Zhp h ag as_ cg cs hlg hls _ _) ?_
 refine pur 1 rfl ?_
 refine Zj 34 rfl ?_ ?_<;>intro g34
 refine pur 9 rfl ?_
 refine ZP rfl ?_
 refine sqt 2 rfl ?_
 refine clV rfl Z2U rfl rfl (Z0x _ _) ?_
 refine pur 1 rfl (Z5 ?_)
 exact rtA rfl rfl rfl ⟨rfl,rfl,rfl⟩ (fun w h9=>St.sub (h9.del b5))
 refine pur 2 rfl ?_
 refine Za0 (out:=[_,_]) rfl rfl rfl rfl Z7T Z5c rfl rfl rfl rfl rfl rfl (fun b37=>?_)
 refine Sy.heap (fun w h9=>St.rows (sz:=1) (rows:=Zg [⟨af,cf,fr⟩,⟨at_,ct,to_⟩]) (rest:=[]) (h9.pull b37) (by simp [Zg,Z3j])) ?_
 refine Z0C rfl rfl rfl rfl Zay rfl rfl (Z6D [⟨af,cf,fr⟩,⟨at_,ct,to_⟩] (some ⟨b37,0,none⟩) 2 (by simp) (by simp;omega) _ _) ?_
 refine pur 2 rfl ?_
 refine Zj 40 rfl ?_ ?_<;>intro g40
 refine pur 3 rfl ?_
 refine ZP rfl ?_
 refine sqt 2 rfl ?_
 refine clV rfl Z2U rfl rfl (Z0x _ _) ?_
 refine pur 1 rfl (Z5 ?_)
 exact rtA rfl rfl rfl ⟨rfl,rfl,rfl⟩ (fun w h9=>St.sub (h9.del b5))
 refine Sy.heap (fun w h9=>h9.ftail) ?_
 refine pur 1 rfl ?_
 refine Z0C rfl rfl rfl rfl Zay rfl rfl (Z6D pl ap cp hpl hpi _ _) ?_
 refine pur 1 rfl ?_
 refine Z1 rfl ?_ ?_<;>intro hc0
 refine sqt 2 rfl ?_
 refine clV rfl Z2U rfl rfl (Z0x _ _) ?_
 refine pur 1 rfl (Z5 ?_)
 exact rtA rfl rfl rfl ⟨rfl,rfl,rfl⟩ (fun w h9=>St.sub (h9.del b5))
 have hsm:h.gaps.length≤14∧h.sights.length≤12:=by
   unfold wdB Zco at g34
   rw [Bool.or_eq_false_iff,Bool.or_eq_false_iff] at g34
   have:=of_decide_eq_false g34.1.1;have:=of_decide_eq_false g34.1.2;omega
 obtain ⟨hsg14,hss12⟩:=hsm
 obtain ⟨hx2,_⟩:=Z8E g40
 have hfs:fr.length≤14:=hx2 fr (by simp [lls])
 have hts:to_.length≤14:=hx2 to_ (by simp [lls])
 obtain ⟨hpx,hpm⟩:=Z8E hc0
 have hll:=Z04 pl
 have hpf:=ZaX hpx
 have hpi9:∀ x∈pl,x.l.length≤14:=fun x hx=>hpx x.l (List.mem_map.2 ⟨x,hx,rfl⟩)
 refine Z2 (Z0 ?_)
 refine Z6m [0,1,0,7,0,0,63,127] [0,1,2,3,4,5,6,7] ZF (by kernel_rfl) rfl (fun s L H1 R1=>∃ (oa:Option Addr) (ob:Option Addr) (oc:Nat) (od:Nat) (xa:Option Addr) (xb:Option Addr) (xc:Nat) (xd:Nat) (b11:Nat) (x11:List Value) (b12:Nat) (x12:List Value),Sub [(1,.slice af fr.length cf),(2,.slice at_ to_.length ct),(3,.int .i64 sq),(4,.slice ap pl.length cp),(5,.pointer (some ⟨b5,0,none⟩))] L∧(∀ f∈(R:Z6),f∈R1)∧(s 0=true→lk L 45=some (h.v (h.sg ag cg) (h.ss as_ cs)))∧(s 1=true→lk L 46=some (h.v (h.sg oa oc) (h.ss ob od))∧(RowsA ob 3 (Z8 h.sights))∈R1∧(RowsA oa 2 (Z7 h.gaps))∈R1)∧(s 2=true→lk L 47=some (h.v (h.sg ag cg) (h.ss as_ cs)))∧(s 3=true→lk L 48=some (h.v (h.sg xa xc) (h.ss xb xd))∧(RowsA xb 3 (Z8 h.sights))∈R1∧(RowsA xa 2 (Z7 h.gaps))∈R1)∧(s 4=true→lk L 11=some (.pointer (some ⟨b11,0,none⟩))∧(s 6=false→x11=[.int .i64 0,.slice none 0 0,.slice none 0 0]))∧(s 5=true→lk L 12=some (.pointer (some ⟨b12,0,none⟩))∧(s 7=false→x12=[.int .i64 0,.slice none 0 0,.slice none 0 0]))∧(s 6=true→x11=htl h (h.sg oa oc) (h.ss ob od))∧(s 7=true→x12=htl h (h.sg xa xc) (h.ss xb xd))∧∀ w,St H1 R1 w→St ((bif s 5 then [(b12,cel 57 x12)] else [])++((bif s 4 then [(b11,cel 27 x11)] else [])++((b5,cel 27 (htl h (h.sg ag cg) (h.ss as_ cs)))::H))) R1 w) ?_ ?_ ?_
 exact ⟨none,none,0,0,none,none,0,0,0,[],0,[],sbA,fun _ hf=>hf,ff,ff,ff,ff,ff,ff,ff,ff,fun w y9=>y9⟩
 refine ⟨?_,?_,?_,?_,?_,?_,?_,?_,trivial⟩
 intro s Lz Hz Rz hdn hs hpre hI K hK
 obtain ⟨oa,ob,oc,od,xa,xb,xc,xd,b11,x11,b12,x12,hL0,hR0,q0,q1,q2,q3,q4,q5,q6,q7,hH⟩:=hI
 refine Sy.heap hH ?_
 refine spL rfl (Sub.lk hL0 _ _ rfl) ((lhA (htl h (h.sg ag cg) (h.ss as_ cs)) ZA rfl rfl rfl)) rfl ?_
 exact hK _ _ _ ⟨oa,ob,oc,od,xa,xb,xc,xd,b11,x11,b12,x12,ZD rfl hL0,hR0,fun _=>ZS,lm2 q1,lm1 q2,lm2 q3,lm2 q4,lm2 q5,q6,q7,fun w y9=>y9⟩
 intro s Lz Hz Rz hdn hs hpre hI K hK
 obtain ⟨oa,ob,oc,od,xa,xb,xc,xd,b11,x11,b12,x12,hL0,hR0,q0,q1,q2,q3,q4,q5,q6,q7,hH⟩:=hI
 have h0:s 0=true:=hpre 0 rfl
 refine Sy.heap hH ?_
 haveI m0:MemRows ag 2 (Z7 h.gaps) Rz:=⟨hR0 _ (inferInstance:MemRows ag 2 (Z7 h.gaps) (R)).mem⟩
 haveI m1:MemRows as_ 3 (Z8 h.sights) Rz:=⟨hR0 _ (inferInstance:MemRows as_ 3 (Z8 h.sights) (R)).mem⟩
 refine cl rfl Z9i rfl (by simp only [evs,show ev Lz (.tmp 45)=_ from (q0 h0)]) (Z8b h ag as_ cg cs (by omega) (by omega) _ _) ?_
 rintro _ _ R1 ⟨oa,ob,oc,od,rfl,rfl,hR1⟩
 obtain rfl:=hR1.symm
 clear hR1
 exact hK _ _ _ ⟨oa,ob,oc,od,xa,xb,xc,xd,b11,x11,b12,x12,ZD rfl hL0,Z07 (Z07 (hR0)),fun h=>Zr rfl (q0 h),fun _=>⟨ZS,(by simp),(by simp)⟩,fun h=>Zr rfl (q2 h),fun h=>⟨Zr rfl (q3 h).1,List.mem_cons_of_mem _ (List.mem_cons_of_mem _ ((q3 h).2.1)),List.mem_cons_of_mem _ (List.mem_cons_of_mem _ ((q3 h).2.2))⟩,fun h=>⟨Zr rfl (q4 h).1,(q4 h).2⟩,fun h=>⟨Zr rfl (q5 h).1,(q5 h).2⟩,nof hdn hs 6,q7,fun w y9=>y9⟩
 intro s Lz Hz Rz hdn hs hpre hI K hK
 obtain ⟨oa,ob,oc,od,xa,xb,xc,xd,b11,x11,b12,x12,hL0,hR0,q0,q1,q2,q3,q4,q5,q6,q7,hH⟩:=hI
 refine Sy.heap hH ?_
 refine spL rfl (Sub.lk hL0 _ _ rfl) ((lhA (htl h (h.sg ag cg) (h.ss as_ cs)) ZA rfl rfl rfl)) rfl ?_
 exact hK _ _ _ ⟨oa,ob,oc,od,xa,xb,xc,xd,b11,x11,b12,x12,ZD rfl hL0,hR0,lm1 q0,lm2 q1,fun _=>ZS,lm2 q3,lm2 q4,lm2 q5,q6,q7,fun w y9=>y9⟩
 intro s Lz Hz Rz hdn hs hpre hI K hK
 obtain ⟨oa,ob,oc,od,xa,xb,xc,xd,b11,x11,b12,x12,hL0,hR0,q0,q1,q2,q3,q4,q5,q6,q7,hH⟩:=hI
 obtain ⟨h0,h1,h2⟩:s 0=true∧s 1=true∧s 2=true:=⟨hpre 0 rfl,hpre 1 rfl,hpre 2 rfl⟩
 refine Sy.heap hH ?_
 haveI m0:MemRows ag 2 (Z7 h.gaps) Rz:=⟨hR0 _ (inferInstance:MemRows ag 2 (Z7 h.gaps) (R)).mem⟩
 haveI m1:MemRows as_ 3 (Z8 h.sights) Rz:=⟨hR0 _ (inferInstance:MemRows as_ 3 (Z8 h.sights) (R)).mem⟩
 refine cl rfl Zaz rfl (by simp only [evs,show ev Lz (.tmp 47)=_ from (q2 h2)]) (Z3f h ag as_ cg cs (by omega) (by omega) _ _) ?_
 rintro _ _ R1 ⟨xa,xb,xc,xd,rfl,rfl,hR1⟩
 obtain rfl:=hR1.symm
 clear hR1
 exact hK _ _ _ ⟨oa,ob,oc,od,xa,xb,xc,xd,b11,x11,b12,x12,ZD rfl hL0,Z07 (Z07 (hR0)),fun h=>Zr rfl (q0 h),fun h=>⟨Zr rfl (q1 h).1,List.mem_cons_of_mem _ (List.mem_cons_of_mem _ ((q1 h).2.1)),List.mem_cons_of_mem _ (List.mem_cons_of_mem _ ((q1 h).2.2))⟩,fun h=>Zr rfl (q2 h),fun _=>⟨ZS,(by simp),(by simp)⟩,fun h=>⟨Zr rfl (q4 h).1,(q4 h).2⟩,fun h=>⟨Zr rfl (q5 h).1,(q5 h).2⟩,q6,nof hdn hs 7,fun w y9=>y9⟩
 intro s Lz Hz Rz hdn hs hpre hI K hK
 obtain ⟨oa,ob,oc,od,xa,xb,xc,xd,b11,x11,b12,x12,hL0,hR0,q0,q1,q2,q3,q4,q5,q6,q7,hH⟩:=hI
 refine Sy.heap hH ?_
 refine alc rfl Z0V rfl (fun b11=>?_)
 exact hK _ _ _ ⟨oa,ob,oc,od,xa,xb,xc,xd,b11,[.int .i64 0,.slice none 0 0,.slice none 0 0],b12,x12,ZD rfl hL0,hR0,lm1 q0,lm2 q1,lm1 q2,lm2 q3,fun _=>⟨ZS,fun _=>rfl⟩,lm2 q5,nof hdn hs 6,q7,fun w y9=>by rw [hs] at y9;exact y9.perm (List.perm_middle.symm.trans (List.Perm.append_left _ (.refl _)))⟩
 intro s Lz Hz Rz hdn hs hpre hI K hK
 obtain ⟨oa,ob,oc,od,xa,xb,xc,xd,b11,x11,b12,x12,hL0,hR0,q0,q1,q2,q3,q4,q5,q6,q7,hH⟩:=hI
 refine Sy.heap hH ?_
 refine alc rfl ZgT rfl (fun b12=>?_)
 exact hK _ _ _ ⟨oa,ob,oc,od,xa,xb,xc,xd,b11,x11,b12,[.int .i64 0,.slice none 0 0,.slice none 0 0],ZD rfl hL0,hR0,lm1 q0,lm2 q1,lm1 q2,lm2 q3,lm2 q4,fun _=>⟨ZS,fun _=>rfl⟩,q6,nof hdn hs 7,fun w y9=>by rw [hs] at y9;exact y9.perm (.refl _)⟩
 intro s Lz Hz Rz hdn hs hpre hI K hK
 obtain ⟨oa,ob,oc,od,xa,xb,xc,xd,b11,x11,b12,x12,hL0,hR0,q0,q1,q2,q3,q4,q5,q6,q7,hH⟩:=hI
 obtain ⟨h0,h1,h2,h3,h4,h5⟩:s 0=true∧s 1=true∧s 2=true∧s 3=true∧s 4=true∧s 5=true:=⟨hpre 0 rfl,hpre 1 rfl,hpre 2 rfl,hpre 3 rfl,hpre 4 rfl,hpre 5 rfl⟩
 refine Sy.heap hH ?_
 obtain rfl:=(q4 h4).2 hs
 refine Sy.heap (H':=(bif s 5 then [(b12,cel 57 x12)] else [])++((b11,cel 27 [.int .i64 0,.slice none 0 0,.slice none 0 0])::((b5,cel 27 (htl h (h.sg ag cg) (h.ss as_ cs)))::H))) (fun w y9=>by rw [h4] at y9;exact y9) ?_
 refine ZG (l':=htl h (h.sg oa oc) (h.ss ob od)) rfl (q4 h4).1 (q1 h1).1 Z1i rfl rfl rfl rfl (Nat.le_refl _) ?_
 exact hK _ _ _ ⟨oa,ob,oc,od,xa,xb,xc,xd,b11,htl h (h.sg oa oc) (h.ss ob od),b12,x12,hL0,hR0,q0,q1,q2,q3,fun h=>⟨(q4 h).1,fun h=>by cases (show true=false from h)⟩,q5,fun _=>rfl,q7,fun w y9=>by show St ((bif s 5 then [(b12,cel 57 x12)] else [])++((bif s 4 then [(b11,cel 27 (htl h (h.sg oa oc) (h.ss ob od)))] else [])++((b5,cel 27 (htl h (h.sg ag cg) (h.ss as_ cs)))::H))) Rz w;rw [h4];exact y9⟩
 intro s Lz Hz Rz hdn hs hpre hI K hK
 obtain ⟨oa,ob,oc,od,xa,xb,xc,xd,b11,x11,b12,x12,hL0,hR0,q0,q1,q2,q3,q4,q5,q6,q7,hH⟩:=hI
 obtain ⟨h0,h1,h2,h3,h4,h5,h6⟩:s 0=true∧s 1=true∧s 2=true∧s 3=true∧s 4=true∧s 5=true∧s 6=true:=⟨hpre 0 rfl,hpre 1 rfl,hpre 2 rfl,hpre 3 rfl,hpre 4 rfl,hpre 5 rfl,hpre 6 rfl⟩
 refine Sy.heap hH ?_
 obtain rfl:=(q5 h5).2 hs
 refine Sy.heap (H':=(b12,cel 57 [.int .i64 0,.slice none 0 0,.slice none 0 0])::((bif s 4 then [(b11,cel 27 x11)] else [])++((b5,cel 27 (htl h (h.sg ag cg) (h.ss as_ cs)))::H))) (fun w y9=>by rw [h5] at y9;exact y9) ?_
 refine ZG (l':=htl h (h.sg xa xc) (h.ss xb xd)) rfl (q5 h5).1 (q3 h3).1 ZgY rfl rfl rfl rfl (Nat.le_refl _) ?_
 exact hK _ _ _ ⟨oa,ob,oc,od,xa,xb,xc,xd,b11,x11,b12,htl h (h.sg xa xc) (h.ss xb xd),hL0,hR0,q0,q1,q2,q3,q4,fun h=>⟨(q5 h).1,fun h=>by cases (show true=false from h)⟩,q6,fun _=>rfl,fun w y9=>by show St ((bif s 5 then [(b12,cel 57 (htl h (h.sg xa xc) (h.ss xb xd)))] else [])++((bif s 4 then [(b11,cel 27 x11)] else [])++((b5,cel 27 (htl h (h.sg ag cg) (h.ss as_ cs)))::H))) Rz w;rw [h5];exact y9⟩
 intro Lz Hz Rz hI
 obtain ⟨oa,ob,oc,od,xa,xb,xc,xd,b11,x11,b12,x12,hL0,hR0,q0,q1,q2,q3,q4,q5,q6,q7,hH⟩:=hI
 obtain rfl:=q7 rfl
 obtain rfl:=q6 rfl
 refine Sy.weak (L':=[(12,.pointer (some ⟨b12,0,none⟩)),(11,.pointer (some ⟨b11,0,none⟩)),(1,.slice af fr.length cf),(2,.slice at_ to_.length ct),(3,.int .i64 sq),(4,.slice ap pl.length cp),(5,.pointer (some ⟨b5,0,none⟩))]) (H':=(b12,cel 57 (htl h (h.sg xa xc) (h.ss xb xd)))::(b11,cel 27 (htl h (h.sg oa oc) (h.ss ob od)))::(b5,cel 27 (htl h (h.sg ag cg) (h.ss as_ cs)))::H) (R':=RowsA xb 3 (Z8 h.sights)::RowsA xa 2 (Z7 h.gaps)::RowsA ob 3 (Z8 h.sights)::RowsA oa 2 (Z7 h.gaps)::R) ?_ (Sub.cons (q5 rfl).1 (Sub.cons (q4 rfl).1 hL0)).lk (fun w h=>St.facts (hH w h) (Z06 (q3 rfl).2.1 (Z06 (q3 rfl).2.2 (Z06 (q1 rfl).2.1 (Z06 (q1 rfl).2.2 hR0)))))
 refine sqt 9 rfl (pur 1 rfl ?_)
 refine cl rfl Z7s rfl rfl (Z5g fr af cf (by omega) _ _) ?_
 rintro _ _ R1 ⟨la,lc,hlc,rfl,rfl,hR1⟩
 obtain rfl:=hR1.symm
 clear hR1
 refine pur 1 rfl ?_
 refine cl rfl Z7s rfl rfl (Z5g to_ at_ ct (by omega) _ _) ?_
 rintro _ _ R1 ⟨ka,kc,hkc,rfl,rfl,hR1⟩
 obtain rfl:=hR1.symm
 clear hR1
 refine pur 1 rfl ?_
 refine cl rfl ZhS rfl rfl (Z6x pl ap cp (by omega) (fun x hx=>by have:=hpi9 x hx;omega) _ _) ?_
 rintro _ _ R1 ⟨ql,qa,qc,hqe,rfl,rfl,hR1⟩
 obtain rfl:=hR1.symm
 clear hR1
 have hqi:∀ x∈ql,x.l.length≤1000000:=fun x hx=>by
   have h1:x.l∈lls pl:=hqe▸List.mem_map.2 ⟨x,hx,rfl⟩
   have:=hpx x.l h1;omega
 have hql:ql.length=pl.length:=by have:=congrArg List.length hqe;rwa [Z04,Z04] at this
 refine pur 3 rfl (sqt 3 rfl (spL rfl rfl (lhA (htl h (h.sg xa xc) (h.ss xb xd)) Z1q rfl rfl rfl) rfl ?_))
 refine clV rfl ZaA rfl rfl (Z3e h xa xb xc xd (by omega) (by omega) _ _) ?_
 refine pur 1 rfl (Z0 (sqt 2 rfl (pur 2 rfl ?_)))
 refine ZL (ι:=Unit) (fun _=>⟨[(1,.slice af fr.length cf),(2,.slice at_ to_.length ct),(3,.int .i64 sq),(4,.slice ap pl.length cp),(5,.pointer (some ⟨b5,0,none⟩)),(11,.pointer (some ⟨b11,0,none⟩)),(12,.pointer (some ⟨b12,0,none⟩)),(13,.slice la fr.length lc),(14,.slice ka to_.length kc),(15,.slice qa ql.length qc),(16,.int .i64 (h.botE fr to_))],(b12,cel 57 (htl h (h.sg xa xc) (h.ss xb xd)))::(b11,cel 27 (htl h (h.sg oa oc) (h.ss ob od)))::(b5,cel 27 (htl h (h.sg ag cg) (h.ss as_ cs)))::H,RowsA qa 1 (Zg ql)::Inn ql::RowsA ka 1 (Z3 to_)::RowsA la 1 (Z3 fr)::RowsA xb 3 (Z8 h.sights)::RowsA xa 2 (Z7 h.gaps)::RowsA ob 3 (Z8 h.sights)::RowsA oa 2 (Z7 h.gaps)::R⟩) ?_ ?_
 refine Z1 rfl ?_ ?_<;>intro hc1<;>try simp only [cS] at hc1
 have hok:=hse_ok.1 hc1
 refine sqr 5 rfl (spL rfl rfl (lhA (htl h (h.sg xa xc) (h.ss xb xd)) Z1q rfl rfl rfl) rfl (pur 2 rfl ?_))
 refine clV rfl ZhT rfl rfl (Zar h xa xb xc xd hok fr to_ af at_ cf ct (by omega) (by omega) hfc htc _ _) ?_
 refine pur 1 rfl ?_
 exact Zk () idH
 have hbe:h.botE fr to_=h.check:=by unfold Hse.botE;rw [dT hc1];rfl
 refine Z2 ?_
 exact ZR () (by rw [hbe];exact sbA) idH
 rintro ⟨⟩
 dsimp only
 refine sqt 7 rfl (pur 7 rfl (Z0 (sqt 2 rfl (pur 2 rfl ?_))))
 refine ZL (ι:={y:Int×Int×Int // SvU h fr to_ sq y.1 y.2.1∧SvS h fr to_ y.2.2}) (fun y=>⟨[(1,.slice af fr.length cf),(2,.slice at_ to_.length ct),(3,.int .i64 sq),(4,.slice ap pl.length cp),(5,.pointer (some ⟨b5,0,none⟩)),(11,.pointer (some ⟨b11,0,none⟩)),(12,.pointer (some ⟨b12,0,none⟩)),(13,.slice la fr.length lc),(14,.slice ka to_.length kc),(15,.slice qa ql.length qc),(16,.int .i64 (h.botE fr to_)),(17,.int .i64 (y.1.1)),(18,.int .i64 (h.svR fr to_ sq (lls pl)).2),(19,.bool (h.svR fr to_ sq (lls pl)).1),(20,.int .i64 (y.1.2.1)),(21,.int .i64 (y.1.2.2))],(b12,cel 57 (htl h (h.sg xa xc) (h.ss xb xd)))::(b11,cel 27 (htl h (h.sg oa oc) (h.ss ob od)))::(b5,cel 27 (htl h (h.sg ag cg) (h.ss as_ cs)))::H,RowsA qa 1 (Zg ql)::Inn ql::RowsA ka 1 (Z3 to_)::RowsA la 1 (Z3 fr)::RowsA xb 3 (Z8 h.sights)::RowsA xa 2 (Z7 h.gaps)::RowsA ob 3 (Z8 h.sights)::RowsA oa 2 (Z7 h.gaps)::R⟩) ?_ ?_
 refine Z1 rfl ?_ ?_<;>intro hc2<;>try simp only [cS] at hc2
 have hb:=Z0A hc2
 have hok:=hb.ok
 obtain ⟨q1,q2,q3,q4,q5,q6⟩:=ZV hb
 have hgl:=hok.gl
 have hbn:=hok.bins
 have hlm:Lm fr (msk fr):=Lm.of (n:=h.bins) (by omega) hb.el
 have hm0:msk []=0:=rfl
 refine Sy.heap (fun w h9=>St.norows (sz:=1) h9) ?_
 refine Z0 (sqt 2 rfl (pur 2 rfl (sqt 6 rfl (pur 3 rfl ?_))))
 refine Zj 69 rfl ?_ ?_<;>intro g69
 try simp only [cS] at g69
 refine pur 3 rfl ?_
 refine ZL (ι:={y:Int×Int // SvU h fr to_ sq y.1 y.2}) (fun y=>⟨[(1,.slice af fr.length cf),(2,.slice at_ to_.length ct),(3,.int .i64 sq),(4,.slice ap pl.length cp),(5,.pointer (some ⟨b5,0,none⟩)),(11,.pointer (some ⟨b11,0,none⟩)),(12,.pointer (some ⟨b12,0,none⟩)),(13,.slice la fr.length lc),(14,.slice ka to_.length kc),(15,.slice qa ql.length qc),(16,.int .i64 (h.botE fr to_)),(17,.int .i64 (y.1.1)),(18,.int .i64 (h.svR fr to_ sq (lls pl)).2),(19,.bool (h.svR fr to_ sq (lls pl)).1),(20,.int .i64 (y.1.2)),(21,.int .i64 (0))],(b12,cel 57 (htl h (h.sg xa xc) (h.ss xb xd)))::(b11,cel 27 (htl h (h.sg oa oc) (h.ss ob od)))::(b5,cel 27 (htl h (h.sg ag cg) (h.ss as_ cs)))::H,RowsA none 1 (Z3 [])::RowsA qa 1 (Zg ql)::Inn ql::RowsA ka 1 (Z3 to_)::RowsA la 1 (Z3 fr)::RowsA xb 3 (Z8 h.sights)::RowsA xa 2 (Z7 h.gaps)::RowsA ob 3 (Z8 h.sights)::RowsA oa 2 (Z7 h.gaps)::R⟩) ?_ ?_
 refine Z1 rfl ?_ ?_<;>intro hc3<;>try simp only [cS] at hc3
 obtain ⟨spd,rfl⟩:∃ n:Nat,sq=n:=⟨sq.toNat,by omega⟩
 have hrc:=ZbF hc2 (show spd≤10 by omega)
 have hsp:=ZgM (pl:=lls pl) hrc
 refine sqt 1 rfl (pur 1 rfl (Z0 (sqt 6 rfl (spL rfl rfl (lhA (htl h (h.sg xa xc) (h.ss xb xd)) Z1q rfl rfl rfl) rfl (pur 3 rfl ?_)))))
 refine cl rfl ZcU rfl rfl (Z8f h xa xb xc xd hok to_ at_ ct q2 (by omega) spd (by omega) 7 fr [] af none cf 0 (msk fr) 0 _ _ hlm (fun x hx=>by cases hx) List.nodup_nil (by omega) (by omega)) ?_
 rintro _ _ R1 ⟨⟨x,hx,rfl⟩,rfl,hR1⟩
 obtain rfl:=hR1.symm
 clear hR1
 rw [hm0] at hx
 obtain ⟨hu1,hu2⟩:=ZkL hrc hx
 refine pur 1 rfl (sqt 2 rfl (pur 2 rfl ?_))
 refine ZL (ι:={y:Int×Int // SvU h fr to_ (spd:Int) y.1 y.2}) (fun y=>⟨[(1,.slice af fr.length cf),(2,.slice at_ to_.length ct),(3,.int .i64 (spd:Int)),(4,.slice ap pl.length cp),(5,.pointer (some ⟨b5,0,none⟩)),(11,.pointer (some ⟨b11,0,none⟩)),(12,.pointer (some ⟨b12,0,none⟩)),(13,.slice la fr.length lc),(14,.slice ka to_.length kc),(15,.slice qa ql.length qc),(16,.int .i64 (h.botE fr to_)),(17,.int .i64 y.1.1),(19,.bool false),(20,.int .i64 y.1.2),(21,.int .i64 0)],(b12,cel 57 (htl h (h.sg xa xc) (h.ss xb xd)))::(b11,cel 27 (htl h (h.sg oa oc) (h.ss ob od)))::(b5,cel 27 (htl h (h.sg ag cg) (h.ss as_ cs)))::H,RowsA none 1 (Z3 [])::RowsA qa 1 (Zg ql)::Inn ql::RowsA ka 1 (Z3 to_)::RowsA la 1 (Z3 fr)::RowsA xb 3 (Z8 h.sights)::RowsA xa 2 (Z7 h.gaps)::RowsA ob 3 (Z8 h.sights)::RowsA oa 2 (Z7 h.gaps)::R⟩) ?_ ?_
 refine Z1 rfl ?_ ?_<;>intro hc4<;>try simp only [cS] at hc4
 refine sqr 2 rfl (pur 2 rfl ?_)
 exact Zk ⟨(6,0),hu1 hc4⟩ idH
 refine Z2 ?_
 exact Zk ⟨(0,x),hu2 (by omega)⟩ idH
 rintro ⟨⟨u,lst⟩,hU⟩
 dsimp only at hU ⊢
 refine sqt 5 rfl (spL rfl rfl (lhA (htl h (h.sg xa xc) (h.ss xb xd)) Z1q rfl rfl rfl) rfl (pur 2 rfl ?_))
 refine clV rfl ZfF rfl rfl (Z3z h xa xb xc xd (by omega) (spd:Int) pl ap cp (by omega) (by omega) _ _) ?_
 refine pur 1 rfl (sqt 2 rfl (pur 2 rfl ?_))
 refine Z1 rfl ?_ ?_<;>intro hc5<;>try simp only [cS] at hc5
 have hpz:=ZbB hc5
 have hsv:h.svR fr to_ (spd:Int) (lls pl)=(h.svB fr to_ (lls pl),0):=ZeX (hsp.trans hc5)
 refine sqr 6 rfl (spL rfl rfl (lhA (htl h (h.sg xa xc) (h.ss xb xd)) Z1q rfl rfl rfl) rfl (pur 3 rfl ?_))
 refine clV rfl ZfG rfl rfl (Z5M h xa xb xc xd hok fr to_ af at_ cf ct (by omega) (by omega) hfc htc hc2 pl ap cp (by have:=hpz.1;omega) (by omega) hpz.2 _ _) ?_
 refine pur 1 rfl ?_
 exact ZR ⟨(u,lst),hU⟩ (by dsimp only;rw [hsv,hc5];exact sbA) idH
 have hsv:h.svR fr to_ (spd:Int) (lls pl)=(false,Z9J h.gaps.length (spd:Int) (lls pl)):=Z40 hsp hc5
 refine Z2 ?_
 exact ZR ⟨(u,lst),hU⟩ (by dsimp only;rw [hsv];exact sbA) idH
 have hrc:=ZeP (sp:=sq) hc2 (by omega)
 have hsr:=ZgN (pl:=lls pl) (show h.rcE fr to_ sq≠0 by rw [hrc];decide)
 refine Z2 ?_
 exact ZR ⟨(3,0),.inl ⟨by rw [hrc];decide,hrc.symm,rfl⟩⟩ (by dsimp only;rw [hsr,hrc];exact sbA) idH
 rintro ⟨⟨u,lst⟩,hU⟩
 dsimp only at hU ⊢
 refine Z4 ?_
 obtain ⟨np,hnp⟩:=Z5F hb
 refine Ze (ι:={s:Nat // s≤10∧∀ s',s'<s→∀ n,¬ Pl h.gaps (msk to_) s' (msk fr) 0 n}) (fun s=>⟨[(1,.slice af fr.length cf),(2,.slice at_ to_.length ct),(3,.int .i64 sq),(4,.slice ap pl.length cp),(5,.pointer (some ⟨b5,0,none⟩)),(11,.pointer (some ⟨b11,0,none⟩)),(12,.pointer (some ⟨b12,0,none⟩)),(13,.slice la fr.length lc),(14,.slice ka to_.length kc),(15,.slice qa ql.length qc),(16,.int .i64 (h.botE fr to_)),(17,.int .i64 (u)),(18,.int .i64 (h.svR fr to_ sq (lls pl)).2),(19,.bool (h.svR fr to_ sq (lls pl)).1),(20,.int .i64 (lst)),(21,.int .i64 ((s.1:Int)))],(b12,cel 57 (htl h (h.sg xa xc) (h.ss xb xd)))::(b11,cel 27 (htl h (h.sg oa oc) (h.ss ob od)))::(b5,cel 27 (htl h (h.sg ag cg) (h.ss as_ cs)))::H,RowsA none 1 (Z3 [])::RowsA qa 1 (Zg ql)::Inn ql::RowsA ka 1 (Z3 to_)::RowsA la 1 (Z3 fr)::RowsA xb 3 (Z8 h.sights)::RowsA xa 2 (Z7 h.gaps)::RowsA ob 3 (Z8 h.sights)::RowsA oa 2 (Z7 h.gaps)::R⟩) (fun s=>11-s.1) ⟨0,Nat.zero_le _,fun s' h9=>absurd h9 (Nat.not_lt_zero _)⟩ ?_ (fun s=>?_)
 exact Zi idH
 obtain ⟨s,hs,hno⟩:=s
 dsimp only at hs hno ⊢
 refine Z0 (sqt 6 rfl (spL rfl rfl (lhA (htl h (h.sg xa xc) (h.ss xb xd)) Z1q rfl rfl rfl) rfl (pur 3 rfl ?_)))
 refine cl rfl ZcU rfl rfl (Z8f h xa xb xc xd hok to_ at_ ct q2 (by omega) s (by omega) 7 fr [] af none cf 0 (msk fr) 0 _ _ hlm (fun x hx=>by cases hx) List.nodup_nil (by omega) (by omega)) ?_
 rintro _ _ R1 ⟨⟨x,hx,rfl⟩,rfl,hR1⟩
 obtain rfl:=hR1.symm
 clear hR1
 rw [hm0] at hx
 refine pur 1 rfl ?_
 refine Z1 rfl ?_ ?_<;>intro hc6<;>try simp only [cS] at hc6
 have hno2:∀ n,¬ Pl h.gaps (msk to_) s (msk fr) 0 n:=by
   rcases hx with ⟨n',h4,h5⟩ | ⟨h4,_⟩
   · omega
   · exact h4
 have hs10:s≠10:=fun e=>hno2 np (by rw [e];exact hnp)
 refine Z2 (Z4 (sqr 3 rfl (pur 1 rfl (sp rfl (PE.add rfl rfl (by omega)) rfl (pur 1 rfl ?_)))))
 exact Zb ⟨s+1,by omega,fun s' h9=>(Nat.lt_succ_iff_lt_or_eq.1 h9).elim (hno s') (fun e=>by subst e;exact hno2)⟩ idH
 have hex:∃ n,Pl h.gaps (msk to_) s (msk fr) 0 n:=by
   rcases hx with ⟨n',h4,_⟩ | ⟨_,h4⟩
   · exact ⟨n',h4.1⟩
   · omega
 refine Z9 (Za (Za (Zm ?_)))
 exact Zk ⟨(u,lst,(s:Int)),hU,.inr ⟨hc2,s,rfl,hex,hno⟩⟩ (fun w h9=>h9.ftail)
 try simp only [cS] at g69
 have hrc:=ZeP (sp:=sq) hc2 (by omega)
 have hsr:=ZgN (pl:=lls pl) (show h.rcE fr to_ sq≠0 by rw [hrc];decide)
 refine pur 3 rfl ?_
 refine ZL (ι:={y:Int×Int // SvU h fr to_ sq y.1 y.2}) (fun y=>⟨[(1,.slice af fr.length cf),(2,.slice at_ to_.length ct),(3,.int .i64 sq),(4,.slice ap pl.length cp),(5,.pointer (some ⟨b5,0,none⟩)),(11,.pointer (some ⟨b11,0,none⟩)),(12,.pointer (some ⟨b12,0,none⟩)),(13,.slice la fr.length lc),(14,.slice ka to_.length kc),(15,.slice qa ql.length qc),(16,.int .i64 (h.botE fr to_)),(17,.int .i64 (y.1.1)),(18,.int .i64 (h.svR fr to_ sq (lls pl)).2),(19,.bool (h.svR fr to_ sq (lls pl)).1),(20,.int .i64 (y.1.2)),(21,.int .i64 (0))],(b12,cel 57 (htl h (h.sg xa xc) (h.ss xb xd)))::(b11,cel 27 (htl h (h.sg oa oc) (h.ss ob od)))::(b5,cel 27 (htl h (h.sg ag cg) (h.ss as_ cs)))::H,RowsA none 1 (Z3 [])::RowsA qa 1 (Zg ql)::Inn ql::RowsA ka 1 (Z3 to_)::RowsA la 1 (Z3 fr)::RowsA xb 3 (Z8 h.sights)::RowsA xa 2 (Z7 h.gaps)::RowsA ob 3 (Z8 h.sights)::RowsA oa 2 (Z7 h.gaps)::R⟩) ?_ ?_
 refine Zz rfl ?_
 refine Z2 ?_
 exact ZR ⟨(3,0),.inl ⟨by rw [hrc];decide,hrc.symm,rfl⟩⟩ (by dsimp only;rw [hsr,hrc];exact sbA) idH
 rintro ⟨⟨u,lst⟩,hU⟩
 dsimp only at hU ⊢
 refine Z4 ?_
 obtain ⟨np,hnp⟩:=Z5F hb
 refine Ze (ι:={s:Nat // s≤10∧∀ s',s'<s→∀ n,¬ Pl h.gaps (msk to_) s' (msk fr) 0 n}) (fun s=>⟨[(1,.slice af fr.length cf),(2,.slice at_ to_.length ct),(3,.int .i64 sq),(4,.slice ap pl.length cp),(5,.pointer (some ⟨b5,0,none⟩)),(11,.pointer (some ⟨b11,0,none⟩)),(12,.pointer (some ⟨b12,0,none⟩)),(13,.slice la fr.length lc),(14,.slice ka to_.length kc),(15,.slice qa ql.length qc),(16,.int .i64 (h.botE fr to_)),(17,.int .i64 (u)),(18,.int .i64 (h.svR fr to_ sq (lls pl)).2),(19,.bool (h.svR fr to_ sq (lls pl)).1),(20,.int .i64 (lst)),(21,.int .i64 ((s.1:Int)))],(b12,cel 57 (htl h (h.sg xa xc) (h.ss xb xd)))::(b11,cel 27 (htl h (h.sg oa oc) (h.ss ob od)))::(b5,cel 27 (htl h (h.sg ag cg) (h.ss as_ cs)))::H,RowsA none 1 (Z3 [])::RowsA qa 1 (Zg ql)::Inn ql::RowsA ka 1 (Z3 to_)::RowsA la 1 (Z3 fr)::RowsA xb 3 (Z8 h.sights)::RowsA xa 2 (Z7 h.gaps)::RowsA ob 3 (Z8 h.sights)::RowsA oa 2 (Z7 h.gaps)::R⟩) (fun s=>11-s.1) ⟨0,Nat.zero_le _,fun s' h9=>absurd h9 (Nat.not_lt_zero _)⟩ ?_ (fun s=>?_)
 exact Zi idH
 obtain ⟨s,hs,hno⟩:=s
 dsimp only at hs hno ⊢
 refine Z0 (sqt 6 rfl (spL rfl rfl (lhA (htl h (h.sg xa xc) (h.ss xb xd)) Z1q rfl rfl rfl) rfl (pur 3 rfl ?_)))
 refine cl rfl ZcU rfl rfl (Z8f h xa xb xc xd hok to_ at_ ct q2 (by omega) s (by omega) 7 fr [] af none cf 0 (msk fr) 0 _ _ hlm (fun x hx=>by cases hx) List.nodup_nil (by omega) (by omega)) ?_
 rintro _ _ R1 ⟨⟨x,hx,rfl⟩,rfl,hR1⟩
 obtain rfl:=hR1.symm
 clear hR1
 rw [hm0] at hx
 refine pur 1 rfl ?_
 refine Z1 rfl ?_ ?_<;>intro hc6<;>try simp only [cS] at hc6
 have hno2:∀ n,¬ Pl h.gaps (msk to_) s (msk fr) 0 n:=by
   rcases hx with ⟨n',h4,h5⟩ | ⟨h4,_⟩
   · omega
   · exact h4
 have hs10:s≠10:=fun e=>hno2 np (by rw [e];exact hnp)
 refine Z2 (Z4 (sqr 3 rfl (pur 1 rfl (sp rfl (PE.add rfl rfl (by omega)) rfl (pur 1 rfl ?_)))))
 exact Zb ⟨s+1,by omega,fun s' h9=>(Nat.lt_succ_iff_lt_or_eq.1 h9).elim (hno s') (fun e=>by subst e;exact hno2)⟩ idH
 have hex:∃ n,Pl h.gaps (msk to_) s (msk fr) 0 n:=by
   rcases hx with ⟨n',h4,_⟩ | ⟨_,h4⟩
   · exact ⟨n',h4.1⟩
   · omega
 refine Z9 (Za (Za (Zm ?_)))
 exact Zk ⟨(u,lst,(s:Int)),hU,.inr ⟨hc2,s,rfl,hex,hno⟩⟩ (fun w h9=>h9.ftail)
 have hrc:=ZbE (sp:=sq) hc2
 have hsr:=ZgN (pl:=lls pl) (show h.rcE fr to_ sq≠0 by rw [hrc];exact hc2)
 refine Z2 ?_
 exact ZR ⟨((h.botE fr to_),0,0),.inl ⟨by rw [hrc];exact hc2,hrc.symm,rfl⟩,.inl ⟨hc2,rfl⟩⟩ (by dsimp only;rw [hsr,hrc];exact sbA) idH
 rintro ⟨⟨u,lst,sl⟩,hU,hSl⟩
 dsimp only at hU hSl ⊢
 refine sqt 10 rfl (spL rfl rfl (lhA (htl h (h.sg oa oc) (h.ss ob od)) ZA rfl rfl rfl) rfl (pur 3 rfl ?_))
 refine cl rfl Zj7 rfl rfl (Zfp h oa ob oc od (by omega) (by omega) fr to_ la ka lc kc (by omega) (by omega) hlc hkc sq u lst hU _ _) ?_
 rintro _ _ R1 ⟨pv,va,vc,hpv0,hpv1,hpv8,hpvc,rfl,rfl,hR1⟩
 obtain rfl:=hR1.symm
 clear hR1
 refine pur 5 rfl (sqt 10 rfl (spL rfl rfl (lhA (htl h (h.sg oa oc) (h.ss ob od)) ZA rfl rfl rfl) rfl (pur 3 rfl ?_)))
 refine clV rfl ZhU rfl rfl (Za3 h oa ob oc od (by omega) (by omega) fr to_ la ka lc kc (by omega) (by omega) hlc hkc sq u lst hU _ _) ?_
 refine pur 5 rfl (sqt 11 rfl (spL rfl rfl (lhA (htl h (h.sg oa oc) (h.ss ob od)) ZA rfl rfl rfl) rfl (pur 4 rfl ?_)))
 refine cl rfl Zjt rfl rfl (Zfq h oa ob oc od (by omega) (by omega) fr to_ la ka lc kc (by omega) (by omega) hlc hkc sq ql qa qc (by omega) (by rw [hqe];omega) _ _) ?_
 rintro _ _ R1 ⟨rfl,rfl,hR1⟩
 obtain rfl:=hR1.symm
 clear hR1
 rw [hqe]
 refine pur 5 rfl (sqt 9 rfl (spL rfl rfl (lhA (htl h (h.sg oa oc) (h.ss ob od)) ZA rfl rfl rfl) rfl (pur 2 rfl ?_)))
 refine clV rfl ZhV rfl rfl (ZcH h oa ob oc od (by omega) (by omega) fr to_ la ka lc kc (by omega) (by omega) hlc hkc sl hSl _ _) ?_
 refine pur 5 rfl (Z0 (sqt 42 rfl (pur 4 rfl ?_)))
 refine Zj 134 rfl ?_ ?_<;>intro g134
 exact absurd g134 (by simp)
 refine pur 5 rfl ?_
 refine Zj 139 rfl ?_ ?_<;>intro g139
 exact absurd g139 (by simp)
 refine pur 5 rfl ?_
 refine Zj 144 rfl ?_ ?_<;>intro g144
 exact absurd g144 (by simp)
 refine pur 5 rfl ?_
 refine Zj 149 rfl ?_ ?_<;>intro g149
 exact absurd g149 (by simp)
 refine pur 5 rfl ?_
 refine Zj 154 rfl ?_ ?_<;>intro g154
 exact absurd g154 (by simp)
 refine pur 2 rfl ?_
 refine spG rfl rfl rfl rfl (PE.neqBool ub4 rfl rfl) rfl ?_
 refine pur 2 rfl ?_
 refine Zj 159 rfl ?_ ?_<;>intro g159
 exact absurd g159 (by simp)
 refine pur 5 rfl ?_
 refine Zj 164 rfl ?_ ?_<;>intro g164
 exact absurd g164 (by simp)
 refine pur 3 rfl ?_
 refine Zj 167 rfl ?_ ?_<;>intro g167
 have hp0:=hpv0 (of_decide_eq_true g167)
 refine pur 1 rfl ?_
 refine spG rfl rfl rfl rfl (PE.lenSl Z0J rfl) rfl ?_
 refine pur 3 rfl ?_
 refine Z1 rfl ?_ ?_<;>intro hc7
 first | (focus (rw [hp0] at hc7;exact absurd hc7 (by decide))) | exact absurd hc7 (by simp)
 refine Z2 (Z0 (sqt 2 rfl (pur 2 rfl ?_)))
 refine ZL (ι:=Unit) (fun _=>⟨[(1,.slice af fr.length cf),(2,.slice at_ to_.length ct),(3,.int .i64 sq),(4,.slice ap pl.length cp),(5,.pointer (some ⟨b5,0,none⟩)),(11,.pointer (some ⟨b11,0,none⟩)),(12,.pointer (some ⟨b12,0,none⟩)),(13,.slice la fr.length lc),(14,.slice ka to_.length kc),(15,.slice qa ql.length qc)],(b12,cel 57 (htl h (h.sg xa xc) (h.ss xb xd)))::(b11,cel 27 (htl h (h.sg oa oc) (h.ss ob od)))::(b5,cel 27 (htl h (h.sg ag cg) (h.ss as_ cs)))::H,RowsA qa 1 (Zg ql)::Inn ql::RowsA ka 1 (Z3 to_)::RowsA la 1 (Z3 fr)::RowsA xb 3 (Z8 h.sights)::RowsA xa 2 (Z7 h.gaps)::RowsA ob 3 (Z8 h.sights)::RowsA oa 2 (Z7 h.gaps)::R⟩) ?_ ?_
 refine Z1 rfl ?_ ?_<;>intro hc8<;>try simp only [cS] at hc8
 have hvp:=hpv1 hc8
 have hbz:h.botE fr to_=0:=by
   rcases hU with ⟨g1,g2,_⟩ | ⟨_,_,g2,_⟩ | ⟨g1,_⟩
   · exact absurd (g2.symm.trans hc8) g1
   · rw [g2] at hc8;cases hc8
   · exact Classical.byContradiction fun e=>e ((ZbE (sp:=sq) e).symm.trans g1)
 have hok:=(Z0A hbz).ok
 have hgl:=hok.gl
 have hvt:=hvp.tot
 have hvl:=hvp.len
 refine Z0 (sqt 13 rfl (spL rfl rfl (lhA (htl h (h.sg xa xc) (h.ss xb xd)) Z1q rfl rfl rfl) rfl (pur 2 rfl ?_)))
 refine cl rfl ZfF rfl rfl (Z3z h xa xb xc xd (by omega) sq pv va vc (by omega) (by omega) _ _) ?_
 rintro _ _ R1 ⟨rfl,rfl,hR1⟩
 obtain rfl:=hR1.symm
 clear hR1
 rw [hvp.pln]
 refine pur 2 rfl ?_
 refine Zj 180 rfl ?_ ?_<;>intro g180
 exact absurd g180 (by simp)
 refine Z0m rfl rfl rfl rfl rfl (lhA (htl h (h.sg xa xc) (h.ss xb xd)) Z1q rfl rfl rfl) rfl (pur 3 rfl ?_)
 refine clG rfl rfl rfl rfl ZfG rfl rfl (Z5M h xa xb xc xd hok fr to_ af at_ cf ct (by omega) (by omega) hfc htc hbz pv va vc (by omega) (by omega) hvp.nn _ _) ?_
 rintro _ _ R1 ⟨rfl,rfl,hR1⟩
 obtain rfl:=hR1.symm
 clear hR1
 rw [hvp.sv]
 refine pur 2 rfl ?_
 refine Z1 rfl ?_ ?_<;>intro hc9
 exact absurd hc9 (by simp)
 refine Z2 (Z0 (sqt 3 rfl (pur 1 rfl (sp rfl (PE.lenSl Z0J rfl) rfl (pur 1 rfl (Z4 ?_))))))
 refine Ze (ι:={k:Nat // k≤pv.length}) (fun k=>⟨[(1,.slice af fr.length cf),(2,.slice at_ to_.length ct),(3,.int .i64 sq),(4,.slice ap pl.length cp),(5,.pointer (some ⟨b5,0,none⟩)),(11,.pointer (some ⟨b11,0,none⟩)),(12,.pointer (some ⟨b12,0,none⟩)),(13,.slice la fr.length lc),(14,.slice ka to_.length kc),(15,.slice qa ql.length qc),(24,.int .i64 (lst-((Z2h pv k.1).length:Nat))),(188,.slice va pv.length vc),(189,.int .i64 pv.length),(190,.int .i64 (k.1:Int))],(b12,cel 57 (htl h (h.sg xa xc) (h.ss xb xd)))::(b11,cel 27 (htl h (h.sg oa oc) (h.ss ob od)))::(b5,cel 27 (htl h (h.sg ag cg) (h.ss as_ cs)))::H,RowsA va 1 (Zg pv)::Inn pv::RowsA qa 1 (Zg ql)::Inn ql::RowsA ka 1 (Z3 to_)::RowsA la 1 (Z3 fr)::RowsA xb 3 (Z8 h.sights)::RowsA xa 2 (Z7 h.gaps)::RowsA ob 3 (Z8 h.sights)::RowsA oa 2 (Z7 h.gaps)::R⟩) (fun k=>pv.length-k.1) ⟨0,Nat.zero_le _⟩ ?_ (fun k=>?_)
 exact Ze2 (by rw [show Z2h pv 0=[] from rfl,List.length_nil,show lst-((0:Nat):Int)=lst by omega];exact sbA) idH
 obtain ⟨k,hk⟩:=k
 dsimp only at hk ⊢
 have hct:=Z0B pv k
 have hct2:=Z0B pv (k+1)
 refine sqt 1 rfl (pur 1 rfl (Z0 ?_))
 refine Z1 rfl ?_ ?_<;>intro hc10<;>try simp only [cS] at hc10
 obtain ⟨x,hx⟩:∃ x,pv[k]?=some x:=⟨_,List.getElem?_eq_getElem (by omega)⟩
 have hst:=Z1h hx
 have hsl:=congrArg List.length hst
 rw [List.length_append] at hsl
 refine Zh (a:=va) (sz:=1) (rows:=Zg pv) (ne0 (by rw [Zt];omega)) (fun ba oa9 he=>?_)
 subst he
 refine Z2 (Z0 (Z4 (sqt 3 rfl (sp rfl (PE.indexAddr Z4A rfl rfl (by omega) (by omega)) rfl (spL rfl rfl (lf0 Z1t (Z0M hx) rfl) rfl (pur 1 rfl (sqr 5 rfl (pur 2 rfl (sp rfl (PE.lenSl Zy rfl) rfl (sp rfl (PE.sub rfl rfl (by omega)) rfl (pur 1 rfl (sqr 2 rfl (sp rfl (PE.add rfl rfl (by omega)) rfl (pur 1 rfl ?_))))))))))))))
 rw [show lst-((Z2h pv k).length:Int)-(x.l.length:Int)=lst-((Z2h pv (k+1)).length:Nat) by omega]
 exact Zb ⟨k+1,by omega⟩ idH
 obtain rfl:k=pv.length:=by omega
 have hca:=congrArg List.length (Z4a pv)
 refine Z9 (Za (Za (Zm (sqt 2 rfl (pur 2 rfl ?_)))))
 refine Z1 rfl ?_ ?_<;>intro hc11
 simp only [decide_eq_true_eq] at hc11
 omega
 refine Z2 ?_
 exact Zk () (fun w h9=>h9.ftail.ftail)
 refine Z2 ?_
 exact Zk () (fun w h9=>h9.ftail.ftail)
 rintro ⟨⟩
 dsimp only
 refine sqt 22 rfl (spL rfl rfl (lhA (htl h (h.sg oa oc) (h.ss ob od)) ZA rfl rfl rfl) rfl (spL rfl rfl (lhA (htl h (h.sg ag cg) (h.ss as_ cs)) ZA rfl rfl rfl) rfl ?_))
 refine clV rfl Z7t rfl rfl (Z4y h h oa ob ag as_ oc od cg cs (by omega) (by omega) (by omega) (by omega) _ _) ?_
 refine pur 1 rfl ?_
 refine Zj 204 rfl ?_ ?_<;>intro g204
 refine pur 2 rfl ?_
 refine Z0C rfl rfl rfl rfl Z1Y rfl rfl (ZW fr fr la af lc cf (by omega) (by omega) _ _) ?_
 refine pur 2 rfl ?_
 refine Zj 209 rfl ?_ ?_<;>intro g209
 refine pur 2 rfl ?_
 refine Z0C rfl rfl rfl rfl Z1Y rfl rfl (ZW to_ to_ ka at_ kc ct (by omega) (by omega) _ _) ?_
 refine pur 2 rfl ?_
 refine Zj 214 rfl ?_ ?_<;>intro g214
 refine pur 2 rfl ?_
 refine Z0C rfl rfl rfl rfl ZfH rfl rfl (Z5I ql qa qc (by omega) (fun x hx=>by have:=hqi x hx;omega) pl ap cp (by omega) (fun x hx=>by have:=hpi9 x hx;omega) _ _) ?_
 refine pur 2 rfl ?_
 refine Zj 219 rfl ?_ ?_<;>intro g219
 refine Z0C rfl rfl rfl rfl Z2U rfl rfl (Z0x _ _) ?_
 refine pur 2 rfl (Z5 ?_)
 exact rtA rfl rfl rfl ⟨rfl,rfl,rfl⟩ (fun w h9=>St.sub (((h9.del b12).del b11).del b5))
 exact absurd g219 (by rw [hqe];simp)
 exact absurd g214 (by simp)
 exact absurd g209 (by simp)
 rw [sameH_iff.2 rfl] at g204;exact absurd g204 (by decide)
 refine pur 5 rfl ?_
 refine Zz rfl ?_
 refine Z2 (Z0 (sqt 2 rfl (pur 2 rfl ?_)))
 refine ZL (ι:=Unit) (fun _=>⟨[(1,.slice af fr.length cf),(2,.slice at_ to_.length ct),(3,.int .i64 sq),(4,.slice ap pl.length cp),(5,.pointer (some ⟨b5,0,none⟩)),(11,.pointer (some ⟨b11,0,none⟩)),(12,.pointer (some ⟨b12,0,none⟩)),(13,.slice la fr.length lc),(14,.slice ka to_.length kc),(15,.slice qa ql.length qc)],(b12,cel 57 (htl h (h.sg xa xc) (h.ss xb xd)))::(b11,cel 27 (htl h (h.sg oa oc) (h.ss ob od)))::(b5,cel 27 (htl h (h.sg ag cg) (h.ss as_ cs)))::H,RowsA qa 1 (Zg ql)::Inn ql::RowsA ka 1 (Z3 to_)::RowsA la 1 (Z3 fr)::RowsA xb 3 (Z8 h.sights)::RowsA xa 2 (Z7 h.gaps)::RowsA ob 3 (Z8 h.sights)::RowsA oa 2 (Z7 h.gaps)::R⟩) ?_ ?_
 refine Z1 rfl ?_ ?_<;>intro hc8<;>try simp only [cS] at hc8
 have hvp:=hpv1 hc8
 have hbz:h.botE fr to_=0:=by
   rcases hU with ⟨g1,g2,_⟩ | ⟨_,_,g2,_⟩ | ⟨g1,_⟩
   · exact absurd (g2.symm.trans hc8) g1
   · rw [g2] at hc8;cases hc8
   · exact Classical.byContradiction fun e=>e ((ZbE (sp:=sq) e).symm.trans g1)
 have hok:=(Z0A hbz).ok
 have hgl:=hok.gl
 have hvt:=hvp.tot
 have hvl:=hvp.len
 refine Z0 (sqt 13 rfl (spL rfl rfl (lhA (htl h (h.sg xa xc) (h.ss xb xd)) Z1q rfl rfl rfl) rfl (pur 2 rfl ?_)))
 refine cl rfl ZfF rfl rfl (Z3z h xa xb xc xd (by omega) sq pv va vc (by omega) (by omega) _ _) ?_
 rintro _ _ R1 ⟨rfl,rfl,hR1⟩
 obtain rfl:=hR1.symm
 clear hR1
 rw [hvp.pln]
 refine pur 2 rfl ?_
 refine Zj 180 rfl ?_ ?_<;>intro g180
 exact absurd g180 (by simp)
 refine Z0m rfl rfl rfl rfl rfl (lhA (htl h (h.sg xa xc) (h.ss xb xd)) Z1q rfl rfl rfl) rfl (pur 3 rfl ?_)
 refine clG rfl rfl rfl rfl ZfG rfl rfl (Z5M h xa xb xc xd hok fr to_ af at_ cf ct (by omega) (by omega) hfc htc hbz pv va vc (by omega) (by omega) hvp.nn _ _) ?_
 rintro _ _ R1 ⟨rfl,rfl,hR1⟩
 obtain rfl:=hR1.symm
 clear hR1
 rw [hvp.sv]
 refine pur 2 rfl ?_
 refine Z1 rfl ?_ ?_<;>intro hc9
 exact absurd hc9 (by simp)
 refine Z2 (Z0 (sqt 3 rfl (pur 1 rfl (sp rfl (PE.lenSl Z0J rfl) rfl (pur 1 rfl (Z4 ?_))))))
 refine Ze (ι:={k:Nat // k≤pv.length}) (fun k=>⟨[(1,.slice af fr.length cf),(2,.slice at_ to_.length ct),(3,.int .i64 sq),(4,.slice ap pl.length cp),(5,.pointer (some ⟨b5,0,none⟩)),(11,.pointer (some ⟨b11,0,none⟩)),(12,.pointer (some ⟨b12,0,none⟩)),(13,.slice la fr.length lc),(14,.slice ka to_.length kc),(15,.slice qa ql.length qc),(24,.int .i64 (lst-((Z2h pv k.1).length:Nat))),(188,.slice va pv.length vc),(189,.int .i64 pv.length),(190,.int .i64 (k.1:Int))],(b12,cel 57 (htl h (h.sg xa xc) (h.ss xb xd)))::(b11,cel 27 (htl h (h.sg oa oc) (h.ss ob od)))::(b5,cel 27 (htl h (h.sg ag cg) (h.ss as_ cs)))::H,RowsA va 1 (Zg pv)::Inn pv::RowsA qa 1 (Zg ql)::Inn ql::RowsA ka 1 (Z3 to_)::RowsA la 1 (Z3 fr)::RowsA xb 3 (Z8 h.sights)::RowsA xa 2 (Z7 h.gaps)::RowsA ob 3 (Z8 h.sights)::RowsA oa 2 (Z7 h.gaps)::R⟩) (fun k=>pv.length-k.1) ⟨0,Nat.zero_le _⟩ ?_ (fun k=>?_)
 exact Ze2 (by rw [show Z2h pv 0=[] from rfl,List.length_nil,show lst-((0:Nat):Int)=lst by omega];exact sbA) idH
 obtain ⟨k,hk⟩:=k
 dsimp only at hk ⊢
 have hct:=Z0B pv k
 have hct2:=Z0B pv (k+1)
 refine sqt 1 rfl (pur 1 rfl (Z0 ?_))
 refine Z1 rfl ?_ ?_<;>intro hc10<;>try simp only [cS] at hc10
 obtain ⟨x,hx⟩:∃ x,pv[k]?=some x:=⟨_,List.getElem?_eq_getElem (by omega)⟩
 have hst:=Z1h hx
 have hsl:=congrArg List.length hst
 rw [List.length_append] at hsl
 refine Zh (a:=va) (sz:=1) (rows:=Zg pv) (ne0 (by rw [Zt];omega)) (fun ba oa9 he=>?_)
 subst he
 refine Z2 (Z0 (Z4 (sqt 3 rfl (sp rfl (PE.indexAddr Z4A rfl rfl (by omega) (by omega)) rfl (spL rfl rfl (lf0 Z1t (Z0M hx) rfl) rfl (pur 1 rfl (sqr 5 rfl (pur 2 rfl (sp rfl (PE.lenSl Zy rfl) rfl (sp rfl (PE.sub rfl rfl (by omega)) rfl (pur 1 rfl (sqr 2 rfl (sp rfl (PE.add rfl rfl (by omega)) rfl (pur 1 rfl ?_))))))))))))))
 rw [show lst-((Z2h pv k).length:Int)-(x.l.length:Int)=lst-((Z2h pv (k+1)).length:Nat) by omega]
 exact Zb ⟨k+1,by omega⟩ idH
 obtain rfl:k=pv.length:=by omega
 have hca:=congrArg List.length (Z4a pv)
 refine Z9 (Za (Za (Zm (sqt 2 rfl (pur 2 rfl ?_)))))
 refine Z1 rfl ?_ ?_<;>intro hc11
 simp only [decide_eq_true_eq] at hc11
 omega
 refine Z2 ?_
 exact Zk () (fun w h9=>h9.ftail.ftail)
 refine Z2 ?_
 exact Zk () (fun w h9=>h9.ftail.ftail)
 rintro ⟨⟩
 dsimp only
 refine sqt 22 rfl (spL rfl rfl (lhA (htl h (h.sg oa oc) (h.ss ob od)) ZA rfl rfl rfl) rfl (spL rfl rfl (lhA (htl h (h.sg ag cg) (h.ss as_ cs)) ZA rfl rfl rfl) rfl ?_))
 refine clV rfl Z7t rfl rfl (Z4y h h oa ob ag as_ oc od cg cs (by omega) (by omega) (by omega) (by omega) _ _) ?_
 refine pur 1 rfl ?_
 refine Zj 204 rfl ?_ ?_<;>intro g204
 refine pur 2 rfl ?_
 refine Z0C rfl rfl rfl rfl Z1Y rfl rfl (ZW fr fr la af lc cf (by omega) (by omega) _ _) ?_
 refine pur 2 rfl ?_
 refine Zj 209 rfl ?_ ?_<;>intro g209
 refine pur 2 rfl ?_
 refine Z0C rfl rfl rfl rfl Z1Y rfl rfl (ZW to_ to_ ka at_ kc ct (by omega) (by omega) _ _) ?_
 refine pur 2 rfl ?_
 refine Zj 214 rfl ?_ ?_<;>intro g214
 refine pur 2 rfl ?_
 refine Z0C rfl rfl rfl rfl ZfH rfl rfl (Z5I ql qa qc (by omega) (fun x hx=>by have:=hqi x hx;omega) pl ap cp (by omega) (fun x hx=>by have:=hpi9 x hx;omega) _ _) ?_
 refine pur 2 rfl ?_
 refine Zj 219 rfl ?_ ?_<;>intro g219
 refine Z0C rfl rfl rfl rfl Z2U rfl rfl (Z0x _ _) ?_
 refine pur 2 rfl (Z5 ?_)
 exact rtA rfl rfl rfl ⟨rfl,rfl,rfl⟩ (fun w h9=>St.sub (((h9.del b12).del b11).del b5))
 exact absurd g219 (by rw [hqe];simp)
 exact absurd g214 (by simp)
 exact absurd g209 (by simp)
 rw [sameH_iff.2 rfl] at g204;exact absurd g204 (by decide)
end Go.Proofs.YtclnhdkneegfkaaGreat
