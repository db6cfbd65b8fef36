/- Walks of the functions of the program, and the laws that join them: what the last theorem of this claim needs, in order. -/
import Derived.Test.YthijcgkicjljhaaGreatTb5
namespace Go.Proofs.YthijcgkicjljhaaGreat.Wv
set_option linter.unusedSimpArgs false
set_option linter.unusedVariables false
open Go
theorem Z6g:apT Tryz.prog 30=some (3,1,8):=by kernel_rfl
theorem ZfW:cal Tryz.prog 104=true:=by kernel_rfl
theorem ZfX:cal Tryz.prog 105=true:=by kernel_rfl
theorem ZcI:cal Tryz.prog 107=true:=by kernel_rfl
theorem Z2i:cal Tryz.prog 51=true:=by kernel_rfl
theorem Zhg:cal Tryz.prog 52=true:=by kernel_rfl
theorem ZdZ:cal Tryz.prog 54=true:=by kernel_rfl
theorem Zbv:cal Tryz.prog 55=true:=by kernel_rfl
theorem Zbw:cal Tryz.prog 58=true:=by kernel_rfl
theorem Ze1:cal Tryz.prog 63=true:=by kernel_rfl
theorem ZcZ:Z00 Tryz.prog 74 2=some 2:=by kernel_rfl
theorem sc4:Z0j Tryz.prog 4=true:=by kernel_rfl
theorem ub4:Tryz.prog.underlying 4=some .bool:=by kernel_rfl
def clK (h:Hse) (ss:List Sgt) (but week:Int) (k:Nat):List Int:=((List.range k).filter (Z5l h.gaps ss but week)).map fun (k:Nat)=>(k:Int)
theorem Zbx (h:Hse) (ss:List Sgt) (but week:Int) (k:Nat):clK h ss but week (k+1)=clK h ss but week k++(bif Z5l h.gaps ss but week k then [(k:Int)] else []):=by
 unfold clK
 rw [List.range_succ,List.filter_append,List.map_append,List.filter_cons]
 cases Z5l h.gaps ss but week k<;>rfl
theorem Z9L (h:Hse) (ss:List Sgt) (but week:Int) (k:Nat):(clK h ss but week k).length≤k:=by
 unfold clK
 rw [List.length_map]
 exact Nat.le_trans (List.length_filter_le _ _) (by simp)
theorem Z6u (h:Hse) (ss:List Sgt) (but week:Int):(h.clr ss but week).length≤h.bins.toNat:=Z9L h ss but week _
theorem ZeE (k:Nat):msk [(k:Int)]=2 ^ k:=by unfold msk;rw [List.foldl_cons,List.foldl_nil];unfold bit;rw [Nat.zero_or,Int.toNat_natCast]
def wkR (w:List Int):List Int:=w.map fun n=>bif decide (far≤n) then -1 else n
theorem Z7T {w:List Int} {k:Nat} (hk:k<w.length):wkR (w.take (k+1))=wkR (w.take k)++[bif decide (far≤na w k) then -1 else na w k]:=by
 unfold wkR
 rw [List.take_add_one,na_get hk,List.map_append];rfl
def Hse.weeksV (h:Hse) (l:List Int):List Int:=(wkR (wks h.gaps 0 (msk l))).take h.bins.toNat
def Hse.lsE (h:Hse) (l:List Int):Int:=bif decide (h.check≠0) then h.check else Z1S h.bins l
theorem Z4h {n:Int} {l:List Int} (h:Z1S n l=0):(∀ x∈l,0≤x∧x<n)∧l.Nodup:=by
 unfold Z1S at h
 cases h1:l.all fun k=>inB k 0 (n-1) with
 | false=>rw [h1] at h;cases h
 | true =>
   rw [h1] at h
   cases h2:(List.range l.length).any (Z6v l) with
   | true=>rw [h2] at h;cases h
   | false =>
     refine ⟨fun x hx=>?_,?_⟩
     · have:=List.all_eq_true.1 h1 x hx
       simp only [inB,Bool.and_eq_true,decide_eq_true_eq] at this;omega
     · rw [List.nodup_iff_pairwise_ne]
       rw [List.pairwise_iff_getElem]
       intro i j hi hj hij e
       have h3:=List.any_eq_false.1 h2 j (List.mem_range.2 hj)
       apply h3
       unfold Z6v
       rw [hasI_iff,na_of (List.getElem?_eq_getElem hj),← e]
       exact List.mem_of_getElem? (by rw [List.getElem?_take,if_pos hij,List.getElem?_eq_getElem hi])
theorem ZdK (gs:List Gp) (m bw:Nat) (x:Sgt) (hx:0≤x.bin∧x.bin<7) (H:Z7) (R:Z5) [hM:Mem1 bw (cel 135 (Zj (wks gs 0 m))) H] :
    FnV Tryz.prog 104 [.agg (Z1s x).toArray,.pointer (some ⟨bw,0,none⟩)] H R (.bool (exS gs m x)):=by
 refine Z8 Tryz.func104 rfl Tryz.ntmps104 rfl ?_
 refine sqt 2 rfl (bx rfl rfl rfl (fun b2=>pur 1 rfl (Z0 ?_)))
 refine Zd [0,1,3,7,0,16,63,0,128,511,1023] (.tk 0 (.ld 1 (.tk 2 (.ld 3 (.tk 4 (.ld 5 (.tk 6 (.tk 7 (.ld 8 (.tk 9 (.tk 10 .done))))))))))) Zu (by kernel_rfl) ?_
 refine tk rfl (PE.fA Zac rfl) rfl (ld rfl rfl (lh sc3 rfl rfl) rfl (tk rfl (PE.indexArr Z4w rfl rfl (by omega) (by omega)) rfl (ld rfl rfl (lh sc3 rfl (Z0O (w:=wks gs 0 m) (k:=x.bin.toNat) (by rw [ZV];omega) (by show 0+x.bin.toNat*1=x.bin.toNat;omega))) rfl (tk rfl (PE.fA Zab rfl) rfl (ld rfl rfl (lh sc3 rfl rfl) rfl (Zo 1 rfl (tk rfl (PE.fA ZcZ rfl) rfl (ld rfl rfl (lh sc4 rfl rfl) rfl (tk rfl (PE.eqlBool ub4 rfl rfl) rfl (Zo 1 rfl (Z4 ?_)))))))))))
 exact rtA rfl rfl rfl ⟨by simp only [Z0c];unfold exS;rw [Z1n (by omega)],rfl,rfl⟩ drp
theorem Z1I (d:Dk) (hd:d.Ok) (hcl:d.cl=0) (l:List Int) (a:Option Addr) (c:Nat) (hl:l.length≤9223372036854775807) (hx:∀ x∈l,0≤x∧x<7) (ss:List Sgt) (ax:Option Addr) (cx:Nat) (hsl:ss.length≤9223372036854775807) (hss:SOk d.h ss) (H:Z7) (R:Z5) [hD:MemRows (some ⟨d.bd,0,none⟩) 4 [d.row] R] [hG:MemRows d.ag 2 (Zy d.h.gaps) R] [hS:MemRows d.as_ 3 (Zs d.h.sights) R] [sR:SubF d.R0 R] [hR:MemRows a 1 (irows l) R] [hQ:MemRows ax 3 (Zs ss) R] :
    FnV Tryz.prog 58 [.pointer (some ⟨d.bd,0,none⟩),.slice a l.length c,.slice ax ss.length cx] H R (.bool (expl d.h.gaps (msk l) ss)):=by
 refine Z8 Tryz.func58 rfl Tryz.ntmps58 rfl ?_
 refine sqt 1 rfl (pur 1 rfl (sqt 5 rfl (pur 2 rfl ?_)))
 refine clV rfl Zbv rfl rfl (Z4B d hd l a c hl hx _ _) ?_
 rw [hcl]
 refine alc rfl Z8q rfl (fun b7=>?_)
 refine Zdg rfl rfl rfl Z9N rfl (by rw [Zb,ZV]) rfl (Z0f _) ?_
 refine sqt 4 rfl (pur 1 rfl (sp rfl (PE.makeFunc rfl rfl) rfl ?_))
 refine clV rfl Z9I rfl rfl (Z0D ss ax cx 104 [] [_] (exS d.h.gaps (msk l)) ZfW hsl _ _ (fun _ _ x hx9=>ZdK d.h.gaps (msk l) b7 x (by have:=(hss x hx9).2;have:=hd.ok.bins;omega) _ _)) ?_
 refine pur 1 rfl (Z4 ?_)
 exact rtA rfl rfl rfl ⟨rfl,rfl,rfl⟩ drp
theorem ZcG (gs:List Gp) (k bw:Nat) (x:Sgt) (hx:0≤x.bin∧x.bin<7) (H:Z7) (R:Z5) [hM:Mem1 bw (cel 135 (Zj (wks gs 0 (2 ^ k)))) H] :
    FnV Tryz.prog 107 [.agg (Z1s x).toArray,.pointer (some ⟨bw,0,none⟩)] H R (.bool (x.seen||decide (x.week<wk gs 0 (2 ^ k) x.bin.toNat))):=by
 refine Z8 Tryz.func107 rfl Tryz.ntmps107 rfl ?_
 refine sqt 2 rfl (bx rfl rfl rfl (fun b2=>pur 1 rfl (Z0 ?_)))
 refine Zd [0,1,3,7,15,31,63,7,135,511,1023,2047] (.tk 0 (.ld 1 (.tk 2 (.tk 3 (.ld 4 (.tk 5 (.ld 6 (.tk 7 (.ld 8 (tks 9 3 .done)))))))))) Zu (by kernel_rfl) ?_
 refine tk rfl (PE.fA ZcZ rfl) rfl (ld rfl rfl (lh sc4 rfl rfl) rfl (Zo 1 rfl ?_))
 refine Zr 6 rfl ?_ ?_<;>intro g6
 refine Zo 1 rfl ?_
 refine ldN rfl rfl rfl rfl rfl rfl rfl rfl ?_
 refine Zo 1 rfl ?_
 refine ldN rfl rfl rfl rfl rfl rfl rfl rfl ?_
 refine Zo 1 rfl ?_
 refine ldN rfl rfl rfl rfl rfl rfl rfl rfl ?_
 refine Zo 3 rfl (Z4 ?_)
 exact rtA rfl rfl rfl ⟨by first | (simp only [Z0c];rw [g6];rfl) | (simp only [Z0c];rw [g6,← Z1n (k:=x.bin.toNat) (by omega)];rfl),rfl,rfl⟩ drp
 refine tkG rfl rfl rfl rfl (PE.fA Zac rfl) rfl ?_
 refine ldG rfl rfl rfl rfl rfl (lh sc3 rfl rfl) rfl ?_
 refine tkG rfl rfl rfl rfl (PE.indexArr Z4w rfl rfl (by omega) (by omega)) rfl ?_
 refine ldG rfl rfl rfl rfl rfl (lh sc3 rfl (Z0O (w:=wks gs 0 (2 ^ k)) (k:=x.bin.toNat) (by rw [ZV];omega) (by show 0+x.bin.toNat*1=x.bin.toNat;omega))) rfl ?_
 refine tkG rfl rfl rfl rfl (PE.fA Zab rfl) rfl ?_
 refine ldG rfl rfl rfl rfl rfl (lh sc3 rfl rfl) rfl (Zo 3 rfl (Z4 ?_))
 exact rtA rfl rfl rfl ⟨by first | (simp only [Z0c];rw [g6];rfl) | (simp only [Z0c];rw [g6,← Z1n (k:=x.bin.toNat) (by omega)];rfl),rfl,rfl⟩ drp
set_option maxHeartbeats 1000000 in
theorem Z6p (d:Dk) (hd:d.Ok) (hcl:d.cl=0) (ss:List Sgt) (ax:Option Addr) (cx:Nat) (hsl:ss.length≤9223372036854775807) (hss:SOk d.h ss) (but week:Int) (hbut:but<7 ∧ -1≤but) (H:Z7) (R:Z5) [hD:MemRows (some ⟨d.bd,0,none⟩) 4 [d.row] R] [hG:MemRows d.ag 2 (Zy d.h.gaps) R] [hS:MemRows d.as_ 3 (Zs d.h.sights) R] [sR:SubF d.R0 R] [hQ:MemRows ax 3 (Zs ss) R] :
    Fn Tryz.prog 63 [.pointer (some ⟨d.bd,0,none⟩),.slice ax ss.length cx,.int .i64 but,.int .i64 week] H R (fun v H' R'=>∃ (a:Option Addr) (c:Nat),v = .slice a (d.h.clr ss but week).length c∧H'=H∧R'=RowsA a 1 (irows (d.h.clr ss but week))::R):=by
 refine Z8 Tryz.func63 rfl Tryz.ntmps63 rfl ?_
 refine sqt 1 rfl (pur 1 rfl (sqt 1 rfl (pur 1 rfl (Z0 (sqt 6 rfl (pur 1 rfl (sp rfl (PE.nilCheck rfl) rfl (sp rfl (PE.fA Z6I rfl) rfl (sp rfl (PE.fA Z0r rfl) rfl (spL rfl rfl (lfB (sz:=4) sc3 rfl) rfl (pur 1 rfl (Z2 ?_))))))))))))
 have hok:=hd.ok
 have hbn:=hok.bins
 refine Zc (ι:=(k:{k:Nat // k≤d.h.bins.toNat})×OSl 3 1 (irows (clK d.h ss but week k.1))) (fun y=>⟨[(0,.pointer (some ⟨d.bd,0,none⟩)),(1,.slice ax ss.length cx),(2,.int .i64 but),(3,.int .i64 week),(16,.int .i64 d.h.bins),(9,y.2.fs),(17,.int .i64 y.1.1)],y.2.G++H,R⟩) (fun y=>d.h.bins.toNat-y.1.1) ⟨⟨0,Nat.zero_le _⟩,OSl.nil _ _⟩ ?_ (fun y=>?_)
 exact Zi idH
 obtain ⟨⟨k,hk⟩,o⟩:=y
 dsimp only at hk o ⊢
 have hcs:=Zbx d.h ss but week k
 have hcn:=Z9L d.h ss but week k
 refine sqt 1 rfl (pur 1 rfl (Z0 ?_))
 refine Z1 rfl ?_ ?_<;>intro hc0<;>try simp only [cS] at hc0
 have hk7:k<7:=by omega
 refine Z3 (Z0 (Z2 (sqt 2 rfl (pur 2 rfl (sqt 6 rfl (pur 2 rfl ?_))))))
 refine bsl (out:=[_]) rfl Z36 zl3 rfl rfl rfl rfl rfl rfl (fun b22=>?_)
 refine Sy.heap (fun w h9=>St.rows (sz:=1) (rows:=irows [((k:Nat):Int)]) (rest:=[]) (h9.pull b22) (by simp)) ?_
 refine clV rfl Zbv rfl rfl (Z4B d hd [(k:Int)] (some ⟨b22,0,none⟩) 1 (by simp) (by simp;omega) _ _) ?_
 rw [hcl,ZeE]
 refine alc rfl Z8q rfl (fun b11=>?_)
 refine Zdg rfl rfl rfl Z9N rfl (by rw [Zb,ZV]) rfl (Z0f _) ?_
 refine Z0 (sqt 9 rfl (pur 3 rfl ?_))
 refine Zr 26 rfl ?_ ?_<;>intro g26
 try simp only [cS] at g26
 refine pur 1 rfl ?_
 refine spG rfl rfl rfl rfl (PE.indexArr Z4w rfl rfl (by omega) (by omega)) rfl ?_
 refine Z0L rfl rfl rfl rfl rfl (lh sc3 rfl (Z0O (w:=wks d.h.gaps 0 (2 ^ k)) (k:=but.toNat) (by rw [ZV];omega) (by show 0+but.toNat*1=but.toNat;omega))) rfl (pur 3 rfl ?_)
 refine Z1 rfl ?_ ?_<;>intro hc1<;>try simp only [cS] at hc1
 rw [Z1n (by omega)] at hc1
 have hb1:Z5l d.h.gaps ss but week k=false:=by unfold Z5l;rw [decide_eq_true g26,dT hc1];rfl
 rw [hb1,cond_false,List.append_nil] at hcs
 refine Z9 (Za (Zn (sqr 2 rfl (sp rfl (PE.add rfl rfl (by omega)) rfl (pur 1 rfl ?_)))))
 exact Z6 ⟨⟨k+1,by omega⟩,o.cast (by rw [hcs])⟩ (fun w h9=>(h9.del b11).ftail)
 rw [Z1n (by omega)] at hc1
 have hb0:Z5l d.h.gaps ss but week k=Z8b d.h.gaps ss k:=by unfold Z5l;rw [decide_eq_true g26,dF (by omega)];rfl
 refine Z3 (sqt 3 rfl (pur 1 rfl (sp rfl (PE.makeFunc rfl rfl) rfl ?_)))
 refine clV rfl Z9I rfl rfl (Z0D ss ax cx 107 [] [_] (fun s=>s.seen||decide (s.week<wk d.h.gaps 0 (2 ^ k) s.bin.toNat)) ZcI hsl _ _ (fun _ _ x hx9=>ZcG d.h.gaps k b11 x (by have:=(hss x hx9).2;omega) _ _)) ?_
 refine Z1 rfl ?_ ?_<;>intro hc2
 have hb2:Z5l d.h.gaps ss but week k=true:=hb0.trans hc2
 rw [hb2,cond_true] at hcs
 refine sqr 5 rfl (pur 2 rfl ?_)
 refine bsl (out:=[_]) rfl Z36 zl3 rfl rfl rfl rfl rfl rfl (fun b38=>?_)
 refine apO (o) rfl Z6g rfl rfl (Z0l (row:=[.int .i64 k]) rfl) rfl rfl ((by rw [Z06];simp only [List.length_singleton];omega)) rfl (fun o39=>?_)
 refine pur 1 rfl (sqr 2 rfl (sp rfl (PE.add rfl rfl (by omega)) rfl (pur 1 rfl ?_)))
 exact Z6 ⟨⟨k+1,by omega⟩,o39.cast (by rw [hcs];simp [irows])⟩ (fun w h9=>((h9.del b38).del b11).ftail)
 have hb2:Z5l d.h.gaps ss but week k=false:=hb0.trans hc2
 rw [hb2,cond_false,List.append_nil] at hcs
 refine Z3 (sqr 2 rfl (sp rfl (PE.add rfl rfl (by omega)) rfl (pur 1 rfl ?_)))
 exact Z6 ⟨⟨k+1,by omega⟩,o.cast (by rw [hcs])⟩ (fun w h9=>(h9.del b11).ftail)
 try simp only [cS] at g26
 have hb0:Z5l d.h.gaps ss but week k=Z8b d.h.gaps ss k:=by unfold Z5l;rw [dF (by omega)];rfl
 refine pur 6 rfl ?_
 refine ZE rfl ?_
 refine Z3 (sqt 3 rfl (pur 1 rfl (sp rfl (PE.makeFunc rfl rfl) rfl ?_)))
 refine clV rfl Z9I rfl rfl (Z0D ss ax cx 107 [] [_] (fun s=>s.seen||decide (s.week<wk d.h.gaps 0 (2 ^ k) s.bin.toNat)) ZcI hsl _ _ (fun _ _ x hx9=>ZcG d.h.gaps k b11 x (by have:=(hss x hx9).2;omega) _ _)) ?_
 refine Z1 rfl ?_ ?_<;>intro hc2
 have hb2:Z5l d.h.gaps ss but week k=true:=hb0.trans hc2
 rw [hb2,cond_true] at hcs
 refine sqr 5 rfl (pur 2 rfl ?_)
 refine bsl (out:=[_]) rfl Z36 zl3 rfl rfl rfl rfl rfl rfl (fun b38=>?_)
 refine apO (o) rfl Z6g rfl rfl (Z0l (row:=[.int .i64 k]) rfl) rfl rfl ((by rw [Z06];simp only [List.length_singleton];omega)) rfl (fun o39=>?_)
 refine pur 1 rfl (sqr 2 rfl (sp rfl (PE.add rfl rfl (by omega)) rfl (pur 1 rfl ?_)))
 exact Z6 ⟨⟨k+1,by omega⟩,o39.cast (by rw [hcs];simp [irows])⟩ (fun w h9=>((h9.del b38).del b11).ftail)
 have hb2:Z5l d.h.gaps ss but week k=false:=hb0.trans hc2
 rw [hb2,cond_false,List.append_nil] at hcs
 refine Z3 (sqr 2 rfl (sp rfl (PE.add rfl rfl (by omega)) rfl (pur 1 rfl ?_)))
 exact Z6 ⟨⟨k+1,by omega⟩,o.cast (by rw [hcs])⟩ (fun w h9=>(h9.del b11).ftail)
 obtain rfl:k=d.h.bins.toNat:=by omega
 obtain ⟨ac,cc,he,hf⟩:=o.freeze
 rw [he,Z06]
 refine Sy.heap (fun w h9=>hf h9) ?_
 refine Z9 (Za (Za (Zn (sqt 2 rfl (pur 2 rfl (Z4 ?_))))))
 exact rtA rfl rfl rfl ⟨ac,cc,rfl,rfl,rfl⟩ idH
theorem ZdI (d:Dk) (hd:d.Ok) (hcl:d.cl=0) (ss:List Sgt) (ax:Option Addr) (cx:Nat) (hsl:ss.length≤9223372036854775807) (hss:SOk d.h ss) (H:Z7) (R:Z5) [hD:MemRows (some ⟨d.bd,0,none⟩) 4 [d.row] R] [hG:MemRows d.ag 2 (Zy d.h.gaps) R] [hS:MemRows d.as_ 3 (Zs d.h.sights) R] [sR:SubF d.R0 R] [hQ:MemRows ax 3 (Zs ss) R] :
    FnV Tryz.prog 105 [.pointer (some ⟨d.bd,0,none⟩),.slice ax ss.length cx] H R (.bool (d.h.agr ss)):=by
 refine Z8 Tryz.func105 rfl Tryz.ntmps105 rfl ?_
 refine sqt 1 rfl (pur 1 rfl (sqt 7 rfl (pur 3 rfl ?_)))
 refine cl rfl Ze1 rfl rfl (Z6p d hd hcl ss ax cx hsl hss (-1) 0 (by decide) _ _) ?_
 rintro _ _ _ ⟨ac,cc,rfl,rfl,rfl⟩
 refine pur 1 rfl ?_
 refine clV rfl Zbw rfl rfl (Z1I d hd hcl (d.h.clr ss (-1) 0) ac cc (by have:=Z6u d.h ss (-1) 0;have:=hd.ok.bins;omega) (fun x hx=>by have:=Z5C x hx;have:=hd.ok.bins;omega) ss ax cx hsl hss _ _) ?_
 refine pur 1 rfl (Z4 ?_)
 exact rtA rfl rfl rfl ⟨rfl,rfl,rfl⟩ (fun w h9=>h9.ftail)
theorem Z18 (h:Hse) (ag as_:Option Addr) (cg cs:Nat) (hlg:h.gaps.length≤9223372036854775807) (hls:h.sights.length≤9223372036854775807) (H:Z7) (R:Z5) [hG:MemRows ag 2 (Zy h.gaps) R] [hS:MemRows as_ 3 (Zs h.sights) R] :
    Fn Tryz.prog 59 [h.v (h.sg ag cg) (h.ss as_ cs)] H R (fun v H' R'=>H'=H∧((h.check≠0∧v = .tuple #[.pointer none,.int .i64 h.check]∧R'=R)∨(h.check=0∧h.agr h.sights=false∧v = .tuple #[.pointer none,.int .i64 7]∧R'=R)∨(h.check=0∧h.agr h.sights=true∧∃ bd,v = .tuple #[.pointer (some ⟨bd,0,none⟩),.int .i64 0]∧R'=RowsA (some ⟨bd,0,none⟩) 4 [(dkA h ag as_ cg cs bd).row]::R))):=by
 refine Z8 Tryz.func59 rfl Tryz.ntmps59 rfl ?_
 refine sqt 3 rfl (bx rfl rfl rfl (fun b1=>pur 2 rfl (Z0 (sqt 3 rfl (spL rfl rfl (lhA (htl h (h.sg ag cg) (h.ss as_ cs)) Z0e rfl rfl rfl) rfl ?_)))))
 refine clV rfl Z2i rfl rfl (ZG h ag as_ cg cs hlg hls _ _) ?_
 refine pur 1 rfl (sqt 2 rfl (pur 2 rfl ?_))
 refine Z1 rfl ?_ ?_<;>intro hc0
 have hck:h.check≠0:=of_decide_eq_true hc0
 refine sqt 3 rfl (pur 3 rfl (Z4 ?_))
 exact rtB rfl rfl rfl rfl ⟨rfl,.inl ⟨hck,rfl,rfl⟩⟩ drp
 have hck:h.check=0:=Classical.byContradiction fun e=>by rw [decide_eq_true e] at hc0;cases hc0
 have hok:=hse_ok.1 hck
 refine Z3 (sqt 3 rfl (spL rfl rfl (lhA (htl h (h.sg ag cg) (h.ss as_ cs)) Z0e rfl rfl rfl) rfl ?_))
 refine cl rfl ZdZ rfl rfl (Z3X h ag as_ cg cs _ _) ?_
 rintro _ _ _ ⟨bd,rfl,rfl,rfl⟩
 refine pur 1 rfl (Z0 (sqt 5 rfl (pur 1 rfl (sp rfl (PE.fA Z10 rfl) rfl (spL rfl rfl (lh Z6Z rfl rfl) rfl ?_)))))
 refine clV rfl ZfX rfl rfl (ZdI (dkA h ag as_ cg cs bd) (Z2V h ag as_ cg cs hok bd) rfl h.sights as_ cs hls hok.sights _ _) ?_
 refine pur 1 rfl ?_
 refine Z1 rfl ?_ ?_<;>intro hc1<;>try simp only [cS] at hc1
 refine sqt 2 rfl (pur 2 rfl (Z4 ?_))
 exact rtB rfl rfl rfl rfl ⟨rfl,.inr (.inl ⟨hck,hc1,rfl,rfl⟩)⟩ drp
 have hc9:(!h.agr h.sights)=false:=hc1
 have hc1:h.agr h.sights=true:=by simpa using hc9
 refine Z3 (sqt 3 rfl (pur 3 rfl (Z4 ?_)))
 exact rtB rfl rfl rfl rfl ⟨rfl,.inr (.inr ⟨hck,hc1,bd,rfl,rfl⟩)⟩ drp
theorem Z7V (h:Hse) (ag as_:Option Addr) (cg cs:Nat) (hlg:h.gaps.length≤9223372036854775807) (hls:h.sights.length≤9223372036854775807) (l:List Int) (a:Option Addr) (c:Nat) (hl:l.length≤9223372036854775807) (hlc:l.length≤c) (H:Z7) (R:Z5) [hG:MemRows ag 2 (Zy h.gaps) R] [hS:MemRows as_ 3 (Zs h.sights) R] [hR:MemRows a 1 (irows l) R] :
    FnV Tryz.prog 24 [h.v (h.sg ag cg) (h.ss as_ cs),.slice a l.length c] H R (.tuple #[.bool (decide (h.lsE l=0)&&expl h.gaps (msk l) h.sights),.int .i64 (h.lsE l)]):=by
 refine Z8 Tryz.func24 rfl Tryz.ntmps24 rfl ?_
 refine sqt 3 rfl (bx rfl rfl rfl (fun b2=>pur 2 rfl (Z0 (sqt 3 rfl (spL rfl rfl (lhA (htl h (h.sg ag cg) (h.ss as_ cs)) Z0e rfl rfl rfl) rfl ?_)))))
 refine clV rfl Z2i rfl rfl (ZG h ag as_ cg cs hlg hls _ _) ?_
 refine pur 1 rfl (sqt 2 rfl (pur 2 rfl ?_))
 refine Z1 rfl ?_ ?_<;>intro hc0
 have hck:h.check≠0:=of_decide_eq_true hc0
 have hE:h.lsE l=h.check:=by unfold Hse.lsE;rw [dT hck];rfl
 refine sqt 3 rfl (pur 3 rfl (Z4 ?_))
 exact rtB rfl rfl rfl rfl ⟨by rw [hE,dF hck];rfl,rfl,rfl⟩ drp
 have hck:h.check=0:=Classical.byContradiction fun e=>by rw [decide_eq_true e] at hc0;cases hc0
 have hok:=hse_ok.1 hck
 have hE:h.lsE l=Z1S h.bins l:=by unfold Hse.lsE;rw [dF (by simpa using hck)];rfl
 refine Z3 (Z0 (sqt 5 rfl (pur 1 rfl (spL rfl rfl (lhA (htl h (h.sg ag cg) (h.ss as_ cs)) Z0e rfl rfl rfl) rfl (sp rfl (PE.makeFunc rfl rfl) rfl ?_)))))
 refine clV rfl Zhg rfl rfl (Z7e l a c 53 [h.v (h.sg ag cg) (h.ss as_ cs)] [] (fun k=>inB k 0 (h.bins-1)) Z9F hl hlc _ _ (fun _ x _=>Z8Q h hok.bins (h.sg ag cg) (h.ss as_ cs) x _ _)) ?_
 refine pur 1 rfl (sqt 2 rfl (pur 2 rfl ?_))
 refine Z1 rfl ?_ ?_<;>intro hc1
 have hle:Z1S h.bins l≠0:=of_decide_eq_true hc1
 refine sqt 3 rfl (pur 3 rfl (Z4 ?_))
 exact rtB rfl rfl rfl rfl ⟨by rw [hE,dF hle];rfl,rfl,rfl⟩ drp
 have hle:Z1S h.bins l=0:=Classical.byContradiction fun e=>by rw [show decide (ZeB (fun k=>inB k 0 (h.bins-1)) l≠0)=true from decide_eq_true e] at hc1;cases hc1
 have hlx:=(Z4h hle).1
 have hbn:=hok.bins
 refine Z3 (Z0 ?_)
 refine Zd [0,1,0,0,8,31,63,127] (.ld 0 (.tk 2 (.tk 3 (.ld 4 (.big 1 (.big 5 (.tk 6 (.tk 7 .done)))))))) Zu (by kernel_rfl) ?_
 refine ld rfl rfl (lhA (htl h (h.sg ag cg) (h.ss as_ cs)) Z0e rfl rfl rfl) rfl (Zo 1 rfl (tk rfl (PE.fA Z10 rfl) rfl (ld rfl rfl (lh Z6Z rfl rfl) rfl ?_)))
 refine cl rfl ZdZ rfl rfl (Z3X h ag as_ cg cs _ _) ?_
 rintro _ _ _ ⟨bd,rfl,rfl,rfl⟩
 refine bg (fun w hs=>⟨(lh Z6Z rfl rfl) w hs,trivial,trivial⟩) ?_
 refine clV rfl Zbw rfl rfl (Z1I (dkA h ag as_ cg cs bd) (Z2V h ag as_ cg cs hok bd) rfl l a c hl (fun x hx=>by have:=hlx x hx;omega) h.sights as_ cs hls hok.sights _ _) ?_
 refine bgT (Zo 2 rfl (Z4 ?_))
 exact rtB rfl rfl rfl rfl ⟨by rw [hE,hle];rfl,rfl,rfl⟩ drp
theorem Z9x:cal Tryz.prog 106=true:=by kernel_rfl
theorem Ze0:cal Tryz.prog 59=true:=by kernel_rfl
theorem Zjo:cal Tryz.prog 60=true:=by kernel_rfl
theorem Zjp:cal Tryz.prog 61=true:=by kernel_rfl
theorem Zhi:cal Tryz.prog 77=true:=by kernel_rfl
theorem Ze5:ZF Tryz.prog 136=some 1:=by kernel_rfl
theorem ZkQ:ZF Tryz.prog 30=some 1:=by kernel_rfl
theorem ZkS:ZF Tryz.prog 79=some 1:=by kernel_rfl
theorem Z8u:Z0j Tryz.prog 30=true:=by kernel_rfl
theorem ZkZ:Z0j Tryz.prog 56=true:=by kernel_rfl
theorem Zdd:Z0j Tryz.prog 79=true:=by kernel_rfl
theorem Zfm:Zw Tryz.prog 136=some ([.pointer none]):=by kernel_rfl
theorem Zl0:Zw Tryz.prog 30=some ([.slice none 0 0]):=by kernel_rfl
theorem Zl1:Zw Tryz.prog 79=some ([.nilFunc]):=by kernel_rfl
theorem Z1M {a:Option Addr} {sz:Nat} {rows:List (List Value)} {w:World} (h:RowsA a sz rows w) (ha:a.isNone=true):rows=[]:=by
 false_or_by_contra
 rename_i h0
 obtain ⟨b,off,e⟩:=Z2q h h0
 rw [e] at ha;cases ha
theorem St.norows {sz:Nat} {H:Z7} {R:Z5} {w:World} (h:St H R w):St H (RowsA none sz []::R) w:=St.also h (fun _ _ i row hi=>by simp at hi)
theorem Z7C {ag:List Int→Bool} {n r fr i:Nat} {l x:List Int} (h1:∀ j,fr≤j→j<i→ZH ag n r (l++[(j:Int)]) (j+1)=none) (hi:fr≤i∧i<n) (h:ZH ag n r (l++[(i:Int)]) (i+1)=some x):ZH ag n (r+1) l fr=some x:=by
 unfold ZH
 obtain ⟨d,rfl⟩:∃ d,i=fr+d:=⟨i-fr,by omega⟩
 have key:∀ (m fr:Nat) (d:Nat),d<m→(∀ j,fr≤j→j<fr+d→ZH ag n r (l++[(j:Int)]) (j+1)=none)→ZH ag n r (l++[((fr+d:Nat):Int)]) (fr+d+1)=some x→(List.range' fr m).findSome? (fun (i:Nat)=>ZH ag n r (l++[((i:Nat):Int)]) (i+1))=some x:=by
   intro m
   induction m with
   | zero=>intro fr d hd;omega
   | succ m ih =>
     intro fr d hd hn hs
     rw [List.range'_succ,List.findSome?_cons]
     cases d with
     | zero=>rw [show ZH ag n r (l++[((fr:Nat):Int)]) (fr+1)=some x from hs]
     | succ d =>
       rw [hn fr (Nat.le_refl _) (by omega)]
       exact ih (fr+1) d (by omega) (fun j h1 h2=>hn j (by omega) (by omega)) (by rw [show fr+1+d=fr+(d+1) from by omega];exact hs)
 exact key (n-fr) fr d (by omega) h1 h
theorem Zao {ag:List Int→Bool} {n r fr:Nat} {l:List Int} (h1:∀ j,fr≤j→j<n→ZH ag n r (l++[(j:Int)]) (j+1)=none):ZH ag n (r+1) l fr=none:=by
 unfold ZH
 rw [List.findSome?_eq_none_iff]
 intro i hi
 rw [List.mem_range'_1] at hi
 exact h1 i hi.1 (by omega)
theorem Z7L {has:List Int→Bool} {n:Nat} (h:∀ k,k≤n→ZH (fun l=>!has l) n k [] 0=none):Z1D has n=none:=by
 unfold Z1D
 rw [List.findSome?_eq_none_iff]
 intro i hi
 rw [List.mem_range'_1] at hi
 exact h i (by omega)
theorem Zcm {has:List Int→Bool} {n k:Nat} {x:List Int} (h1:∀ j,j<k→ZH (fun l=>!has l) n j [] 0=none) (hk:k≤n) (h:ZH (fun l=>!has l) n k [] 0=some x):Z1D has n=some x:=by
 have key:∀ (m fr:Nat) (d:Nat),d<m→(∀ j,fr≤j→j<fr+d→ZH (fun l=>!has l) n j [] 0=none)→ZH (fun l=>!has l) n (fr+d) [] 0=some x→(List.range' fr m).findSome? (fun k=>ZH (fun l=>!has l) n k [] 0)=some x:=by
   intro m
   induction m with
   | zero=>intro fr d hd;omega
   | succ m ih =>
     intro fr d hd hn hs
     rw [List.range'_succ,List.findSome?_cons]
     cases d with
     | zero=>rw [show ZH (fun l=>!has l) n fr [] 0=some x from hs]
     | succ d =>
       rw [hn fr (Nat.le_refl _) (by omega)]
       exact ih (fr+1) d (by omega) (fun j h1 h2=>hn j (by omega) (by omega)) (by rw [show fr+1+d=fr+(d+1) from by omega];exact hs)
 exact key (n+1) 0 k (by omega) (fun j _ h2=>h1 j (by omega)) (by rw [Nat.zero_add];exact h)
instance (priority:=low) MemF.ofRows (a:Option Addr) (sz:Nat) (rows:List (List Value)) (R:Z5) [m:MemRows a sz rows R]:MemF (RowsA a sz rows) R:=⟨m.mem⟩
def ClQ (c8:Nat) (H:Z7) (R:Z5):Option (List Int)→Value→Z7→Z5→Prop
 | none,v,H',R'=>v = .bool false∧∃ ov,H'=(c8,cel 30 [ov])::H∧R'=R
 | some x,v,H',R'=>v = .bool true∧∃ a c,x.length≤c∧H'=(c8,cel 30 [.slice a x.length c])::H∧R'=RowsA a 1 (irows x)::R
theorem ClQ.bool {c8:Nat} {H H':Z7} {R R':Z5} {o:Option (List Int)} {v:Value} (h:ClQ c8 H R o v H' R'):∃ b,v = .bool b:=by
 cases o with
 | none=>exact ⟨_,h.1⟩
 | some x=>exact ⟨_,h.1⟩
def ZiA (g:Nat) (cap:List Value) (has:List Int→Bool) (n:Nat) (R0:Z5):Prop:=cal Tryz.prog g=true∧∀ (l:List Int) (a:Option Addr) (c:Nat) (H:Z7) (R:Z5),(∀ f∈R0,f∈R)→RowsA a 1 (irows l)∈R→(∀ x∈l,0≤x∧x<n)→l.length≤n→FnV Tryz.prog g ([]++[.slice a l.length c]++cap) H R (.bool (has l))
def Hse.orgR (h:Hse):List Int×Int:=bif decide (h.check≠0) then ([],h.check) else bif !h.agr h.sights then ([],7) else ((Z1D (fun l=>expl h.gaps (msk l) h.sights) h.bins.toNat).getD [],0)
def Z0A (p:Nat→Bool) (k:Nat):List Int:=((List.range k).filter p).map fun (k:Nat)=>(k:Int)
theorem Z3x (p:Nat→Bool) (k:Nat):Z0A p (k+1)=Z0A p k++(bif p k then [(k:Int)] else []):=by
 unfold Z0A
 rw [List.range_succ,List.filter_append,List.map_append,List.filter_cons]
 cases p k<;>rfl
theorem Z0M (p:Nat→Bool) (k:Nat):(Z0A p k).length≤k:=by
 unfold Z0A
 rw [List.length_map]
 exact Nat.le_trans (List.length_filter_le _ _) (by simp)
theorem Z6z {p:Nat→Bool} {k:Nat} (h:p k=true):Z0A p (k+1)=Z0A p k++[(k:Int)]:=by rw [Z3x,h];rfl
theorem Z4J {p:Nat→Bool} {k:Nat} (h:p k=false):Z0A p (k+1)=Z0A p k:=by rw [Z3x,h];exact List.append_nil _
def Hse.surB (h:Hse) (week:Int) (k:Nat):Bool:=!expl h.gaps (msk (h.clr h.sights k week)) h.sights
def Hse.perB (h:Hse) (week:Int) (k:Nat):Bool:=decide (wk h.gaps 0 (msk (h.clr h.sights (-1) 0)) k≤week)
def Hse.wkE (h:Hse) (week:Int):Int:=bif decide (h.check≠0) then h.check else bif !inB week 0 9 then 3 else bif !h.agr h.sights then 7 else 0
def Hse.surR (h:Hse) (week:Int):List Int×Int:=(bif decide (h.wkE week=0) then Z0A (h.surB week) h.bins.toNat else [],h.wkE week)
def Hse.perR (h:Hse) (week:Int):List Int×Int:=(bif decide (h.wkE week=0) then Z0A (h.perB week) h.bins.toNat else [],h.wkE week)
theorem Zdo {h:Hse} {week:Int} (hk:h.check≠0):h.wkE week=h.check:=by unfold Hse.wkE;rw [decide_eq_true hk];rfl
theorem Zdp {h:Hse} {week:Int} (hk:h.check=0) (hi:(!inB week 0 9)=true):h.wkE week=3:=by unfold Hse.wkE;rw [decide_eq_false (fun e=>e hk),hi];rfl
theorem Zdn {h:Hse} {week:Int} (hk:h.check=0) (hi:(!inB week 0 9)=false) (ha:h.agr h.sights=false):h.wkE week=7:=by unfold Hse.wkE;rw [decide_eq_false (fun e=>e hk),hi,ha];rfl
theorem Z7S {h:Hse} {week:Int} (hk:h.check=0) (hi:(!inB week 0 9)=false) (ha:h.agr h.sights=true):h.wkE week=0:=by unfold Hse.wkE;rw [decide_eq_false (fun e=>e hk),hi,ha];rfl
theorem Z76 {h:Hse} {week e:Int} (h1:h.wkE week=e) (h2:e≠0):h.surR week=([],e):=by unfold Hse.surR;rw [h1,decide_eq_false h2];rfl
theorem Z6S {h:Hse} {week e:Int} (h1:h.wkE week=e) (h2:e≠0):h.perR week=([],e):=by unfold Hse.perR;rw [h1,decide_eq_false h2];rfl
theorem ZaR {h:Hse} {week:Int} (h1:h.wkE week=0):h.surR week=(Z0A (h.surB week) h.bins.toNat,0):=by unfold Hse.surR;rw [h1];rfl
theorem Zas {h:Hse} {week:Int} (h1:h.wkE week=0):h.perR week=(Z0A (h.perB week) h.bins.toNat,0):=by unfold Hse.perR;rw [h1];rfl
theorem Z3n (xs:List Int) (a:Option Addr) (c:Nat) (hl:xs.length≤1000000) (H:Z7) (R:Z5) [hR:MemRows a 1 (irows xs) R] :
    Fn Tryz.prog 77 [.slice a xs.length c] H R (fun v H' R'=>∃ o:OSl 3 1 (irows xs),v=o.fs∧H'=o.G++H∧R'=R∧(a.isSome=true→o.here)):=by
 refine Z8 Tryz.func77 rfl Tryz.ntmps77 rfl ?_
 refine sqt 1 rfl (pur 1 rfl (Z0 (sqt 2 rfl (pur 1 rfl (sp rfl (PE.eqlNil Z0t rfl rfl) rfl ?_)))))
 refine Z1 rfl ?_ ?_<;>intro hc0
 refine Sy.pre (fun w h=>Z1M (h.now hR.mem) hc0) (fun hnil=>?_)
 obtain rfl:xs=[]:=by simpa [irows] using hnil
 refine sqt 1 rfl (pur 1 rfl (Z4 ?_))
 first
   | exact rtA rfl rfl rfl ⟨o2.cast (by simp),rfl,rfl,rfl,fun _=>ho2⟩ idH
   | exact rtA rfl rfl rfl ⟨OSl.nil _ _,rfl,rfl,rfl,fun h=>by cases a<;>simp_all⟩ idH
 refine Z3 (sqt 4 rfl ?_)
 refine Zfq rfl Z36 rfl (fun o5 ho5=>?_)
 refine pur 1 rfl ?_
 refine ZiC (news:=irows xs) o5 rfl Z6g rfl rfl (Zcc) (by simp [irows]) (by simp [Z0Q,irows,Value.oneCell']) ⟨by simp [irows];omega,by simp [irows];omega⟩ rfl ho5 (fun o2 ho2=>?_)
 refine pur 1 rfl (Z4 ?_)
 first
   | exact rtA rfl rfl rfl ⟨o2.cast (by simp),rfl,rfl,rfl,fun _=>ho2⟩ idH
   | exact rtA rfl rfl rfl ⟨OSl.nil _ _,rfl,rfl,rfl,fun h=>by cases a<;>simp_all⟩ idH
def ShC (g:Nat) (cap:List Value) (has:List Int→Bool) (n:Nat) (R0:Z5) (many bm bo bk bn bf r:Nat):Prop:=∀ (l:List Int) (al:Option Addr) (cq fr:Nat) (ov:Value) (H:Z7) (R:Z5) [m1:MemRows (some ⟨bm,0,none⟩) 1 [[.int .i64 (many:Int)]] R] [m2:MemRows (some ⟨bk,0,none⟩) 1 [[.func (.func g) #[] cap.toArray]] R] [m3:MemRows (some ⟨bn,0,none⟩) 1 [[.int .i64 (n:Int)]] R] [m4:MemRows (some ⟨bf,0,none⟩) 1 [[(.func (.func 106) #[] #[.pointer (some ⟨bm,0,none⟩),.pointer (some ⟨bo,0,none⟩),.pointer (some ⟨bk,0,none⟩),.pointer (some ⟨bn,0,none⟩),.pointer (some ⟨bf,0,none⟩)])]] R] [sR:SubF R0 R] [hL:MemRows al 1 (irows l) R],l.length+r=many→l.length≤cq→(∀ x∈l,0≤x∧x<n) →
 Fn Tryz.prog 106 [.slice al l.length cq,.int .i64 fr,.pointer (some ⟨bm,0,none⟩),.pointer (some ⟨bo,0,none⟩),.pointer (some ⟨bk,0,none⟩),.pointer (some ⟨bn,0,none⟩),.pointer (some ⟨bf,0,none⟩)] ((bo,cel 30 [ov])::H) R (ClQ bo H R (ZH (fun l=>!has l) n r l fr))
theorem Z2U (g:Nat) (cap:List Value) (has:List Int→Bool) (n:Nat) (R0:Z5) (hp:ZiA g cap has n R0) (hn:n≤1000) (many bm bo bk bn bf r:Nat) (hmn:many≤n) (ih:∀ q,r=q+1→ShC g cap has n R0 many bm bo bk bn bf q) :
    ShC g cap has n R0 many bm bo bk bn bf r:=by
 intro l al cq fr ov H R m1 m2 m3 m4 sR hL hlr hlq hlx
 refine Z8 Tryz.func106 rfl Tryz.ntmps106 rfl ?_
 refine sqt 1 rfl (pur 1 rfl (Z0 (sqt 4 rfl (pur 1 rfl (sp rfl (PE.lenSl Z0t rfl) rfl (spL rfl rfl (lfB (sz:=1) sc3 rfl) rfl (pur 1 rfl ?_)))))))
 refine Z1 rfl ?_ ?_<;>intro hc0<;>try simp only [cS] at hc0
 obtain rfl:r=0:=by omega
 refine sqt 2 rfl (pur 1 rfl ?_)
 refine sto rfl rfl rfl ZkQ rfl rfl rfl rfl ?_
 refine sqt 4 rfl (spL rfl rfl (lfB (sz:=1) ZkZ rfl) rfl (pur 1 rfl ?_))
 refine Z1R rfl rfl (hp.1) rfl rfl (hp.2 l al cq _ _ sR.sub hL.mem hlx (by omega)) ?_
 refine pur 1 rfl (Z4 ?_)
 first
   | exact rtA rfl rfl rfl (show ClQ bo H R (ZH (fun l=>!has l) n (q+1) l fr) _ _ _ by rw [hmr];exact ⟨rfl,ov,rfl,rfl⟩) drp
   | (rcases hag:has l with _ | _
      · exact rtA rfl rfl rfl (show ClQ bo H _ (ZH (fun l=>!has l) n 0 l fr) _ _ _ by rw [ZH,show (!has l)=true from by rw [hag];rfl];exact ⟨rfl,_,rfl,rfl⟩) idH
      · exact rtA rfl rfl rfl (show ClQ bo H _ (ZH (fun l=>!has l) n 0 l fr) _ _ (RowsA al 1 (irows l)::_) by rw [ZH,show (!has l)=false from by rw [hag];rfl];exact ⟨rfl,al,cq,hlq,rfl,rfl⟩) (fun w h=>St.also h (fun w' hg=>hg _ hL.mem)))
 obtain ⟨q,rfl⟩:∃ q,r=q+1:=⟨r-1,by omega⟩
 refine Z3 (Z0 (sqt 2 rfl (pur 2 rfl (Z2 ?_))))
 refine Zc (ι:={x:Nat×Value // fr≤x.1∧∀ j,fr≤j→j<x.1→j<n→ZH (fun l=>!has l) n q (l++[(j:Int)]) (j+1)=none}) (fun x=>⟨[(0,.slice al l.length cq),(2,.pointer (some ⟨bm,0,none⟩)),(3,.pointer (some ⟨bo,0,none⟩)),(4,.pointer (some ⟨bk,0,none⟩)),(5,.pointer (some ⟨bn,0,none⟩)),(6,.pointer (some ⟨bf,0,none⟩)),(10,.int .i64 x.1.1)],(bo,cel 30 [x.1.2])::H,R⟩) (fun x=>n-x.1.1) ⟨(fr,ov),Nat.le_refl _,fun j h1 h2=>by dsimp only at h2;omega⟩ ?_ (fun x=>?_)
 exact Zi idH
 obtain ⟨⟨i,ov⟩,hfi,hno⟩:=x
 dsimp only at hfi hno ⊢
 refine Z0 (sqt 3 rfl (pur 1 rfl (spL rfl rfl (lfB (sz:=1) sc3 rfl) rfl (pur 1 rfl ?_))))
 refine Z1 rfl ?_ ?_<;>intro hc1<;>try simp only [cS] at hc1
 refine Z3 (Z0 (Z2 (Z0 ?_)))
 refine Zd [0,0,2,0,8,30,0,64,255] (.ld 0 (.tk 1 (.tk 3 (.tk 6 (.tk 7 (.any (.alt 2 (.big 4 (.big 5 (.big 8 .done))) (.alt 4 (.big 2 (.big 5 (.big 8 .done))) .stop)))))))) Zu (by kernel_rfl) ?_
 refine ld rfl rfl (lfB (sz:=1) Zdd rfl) rfl (Zo 3 rfl (tk rfl (PE.add rfl rfl (by omega)) rfl ?_))
 refine Zm ?_ ?_
 refine cl rfl Zhi rfl rfl (Z3n l al cq (by omega) _ _) ?_
 rintro _ _ R1 ⟨o,rfl,rfl,hR1,_⟩
 obtain rfl:=hR1.symm
 clear hR1
 refine bg (fun w hs=>⟨(lfB (sz:=1) Zdd rfl) w hs,trivial⟩) ?_
 refine bsl (out:=[_]) rfl Z36 zl3 rfl rfl rfl rfl rfl rfl (fun b29=>?_)
 refine bg (fun w hs=>⟨(lfB (sz:=1) Zdd rfl) w hs,trivial⟩) ?_
 refine apO (o) rfl Z6g rfl rfl (Z0l (row:=[.int .i64 i]) rfl) rfl rfl ((by simp only [irows,List.length_map,List.length_singleton];omega)) rfl (fun o30=>?_)
 refine bg (fun w hs=>⟨(lfB (sz:=1) Zdd rfl) w hs,trivial⟩) ?_
 have e34:irows l++[[.int .i64 (i:Int)]]=irows (l++[(i:Int)]):=by simp [irows]
 obtain ⟨an,cn,he,hcn9,hf⟩:=(o30.cast e34).freezeC
 rw [show o30.fs=_ from he]
 refine Sy.heap (fun w h=>hf (h.pullG o30.G)) ?_
 refine Sy.heap (fun w h=>h.del b29) ?_
 rw [show (irows (l++[(i:Int)])).length=(l++[(i:Int)]).length from List.length_map _] at hcn9 ⊢
 clear he hf
 refine clF rfl rfl (Z9x) rfl rfl (ih q rfl (l++[(i:Int)]) an cn (i+1) ov _ _ (by rw [List.length_append];simp only [List.length_singleton];omega) hcn9 (fun x hx=>(List.mem_append.1 hx).elim (hlx x) (fun h=>by have:=List.mem_singleton.1 h;omega))) ?_
 rintro v H2 R2 hQ
 obtain ⟨bv,rfl⟩:=hQ.bool
 rcases hsr:ZH (fun l=>!has l) n q (l++[(i:Int)]) (i+1) with _ | d
 refine bgT ?_
 refine Z1 rfl ?_ ?_<;>intro hc2
 rw [hsr] at hQ
 obtain ⟨hv,_⟩:=hQ
 cases hv
 exact absurd hc2 (by simp)
 rw [hsr] at hQ
 obtain ⟨hv,ov2,rfl,hR2⟩:=hQ
 cases hv
 obtain rfl:=hR2.symm
 clear hR2
 refine Z3 (sqr 3 rfl (pur 1 rfl (sp rfl (PE.add rfl rfl (by omega)) rfl (pur 1 rfl ?_))))
 exact Z6 ⟨(i+1,ov2),by dsimp only;omega,fun j h1 h2 h3=>(Nat.lt_succ_iff_lt_or_eq.1 h2).elim (fun h=>hno j h1 h h3) (fun e=>by subst e;exact hsr)⟩ (fun w h=>h.ftail)
 refine bgT ?_
 refine Z1 rfl ?_ ?_<;>intro hc2
 rw [hsr] at hQ
 obtain ⟨hv,a9,c99,hc99,rfl,rfl⟩:=hQ
 cases hv
 have hmr:=Z7C (ag:=(fun l=>!has l)) (fun j h1 h2=>hno j h1 h2 (by omega)) ⟨hfi,by omega⟩ hsr
 refine sqt 1 rfl (pur 1 rfl (Z4 ?_))
 exact rtA rfl rfl rfl (show ClQ bo H R (ZH (fun l=>!has l) n (q+1) l fr) _ _ _ by rw [hmr];exact ⟨rfl,a9,c99,hc99,rfl,rfl⟩) drp
 rw [hsr] at hQ
 obtain ⟨hv,_⟩:=hQ
 cases hv
 exact absurd hc2 (by simp)
 refine Zm ?_ ?_
 refine bsl (out:=[_]) rfl Z36 zl3 rfl rfl rfl rfl rfl rfl (fun b29=>?_)
 refine bg (fun w hs=>⟨(lfB (sz:=1) Zdd rfl) w hs,trivial⟩) ?_
 refine cl rfl Zhi rfl rfl (Z3n l al cq (by omega) _ _) ?_
 rintro _ _ R1 ⟨o,rfl,rfl,hR1,_⟩
 obtain rfl:=hR1.symm
 clear hR1
 refine bg (fun w hs=>⟨(lfB (sz:=1) Zdd rfl) w hs,trivial⟩) ?_
 refine apO (o) rfl Z6g rfl rfl (Z0l (row:=[.int .i64 i]) rfl) rfl rfl ((by simp only [irows,List.length_map,List.length_singleton];omega)) rfl (fun o30=>?_)
 refine bg (fun w hs=>⟨(lfB (sz:=1) Zdd rfl) w hs,trivial⟩) ?_
 have e34:irows l++[[.int .i64 (i:Int)]]=irows (l++[(i:Int)]):=by simp [irows]
 obtain ⟨an,cn,he,hcn9,hf⟩:=(o30.cast e34).freezeC
 rw [show o30.fs=_ from he]
 refine Sy.heap (fun w h=>hf (h.pullG o30.G)) ?_
 refine Sy.heap (fun w h=>h.del b29) ?_
 rw [show (irows (l++[(i:Int)])).length=(l++[(i:Int)]).length from List.length_map _] at hcn9 ⊢
 clear he hf
 refine clF rfl rfl (Z9x) rfl rfl (ih q rfl (l++[(i:Int)]) an cn (i+1) ov _ _ (by rw [List.length_append];simp only [List.length_singleton];omega) hcn9 (fun x hx=>(List.mem_append.1 hx).elim (hlx x) (fun h=>by have:=List.mem_singleton.1 h;omega))) ?_
 rintro v H2 R2 hQ
 obtain ⟨bv,rfl⟩:=hQ.bool
 rcases hsr:ZH (fun l=>!has l) n q (l++[(i:Int)]) (i+1) with _ | d
 refine bgT ?_
 refine Z1 rfl ?_ ?_<;>intro hc2
 rw [hsr] at hQ
 obtain ⟨hv,_⟩:=hQ
 cases hv
 exact absurd hc2 (by simp)
 rw [hsr] at hQ
 obtain ⟨hv,ov2,rfl,hR2⟩:=hQ
 cases hv
 obtain rfl:=hR2.symm
 clear hR2
 refine Z3 (sqr 3 rfl (pur 1 rfl (sp rfl (PE.add rfl rfl (by omega)) rfl (pur 1 rfl ?_))))
 exact Z6 ⟨(i+1,ov2),by dsimp only;omega,fun j h1 h2 h3=>(Nat.lt_succ_iff_lt_or_eq.1 h2).elim (fun h=>hno j h1 h h3) (fun e=>by subst e;exact hsr)⟩ (fun w h=>h.ftail)
 refine bgT ?_
 refine Z1 rfl ?_ ?_<;>intro hc2
 rw [hsr] at hQ
 obtain ⟨hv,a9,c99,hc99,rfl,rfl⟩:=hQ
 cases hv
 have hmr:=Z7C (ag:=(fun l=>!has l)) (fun j h1 h2=>hno j h1 h2 (by omega)) ⟨hfi,by omega⟩ hsr
 refine sqt 1 rfl (pur 1 rfl (Z4 ?_))
 exact rtA rfl rfl rfl (show ClQ bo H R (ZH (fun l=>!has l) n (q+1) l fr) _ _ _ by rw [hmr];exact ⟨rfl,a9,c99,hc99,rfl,rfl⟩) drp
 rw [hsr] at hQ
 obtain ⟨hv,_⟩:=hQ
 cases hv
 exact absurd hc2 (by simp)
 exact Zx
 have hmr:=Zao (ag:=(fun l=>!has l)) (n:=n) (r:=q) (l:=l) (fr:=fr) (fun j h1 h2=>hno j h1 (by omega) h2)
 refine Z9 (Za (Za (Zn (sqt 1 rfl (pur 1 rfl (Z4 ?_))))))
 first
   | exact rtA rfl rfl rfl (show ClQ bo H R (ZH (fun l=>!has l) n (q+1) l fr) _ _ _ by rw [hmr];exact ⟨rfl,ov,rfl,rfl⟩) drp
   | (rcases hag:has l with _ | _
      · exact rtA rfl rfl rfl (show ClQ bo H _ (ZH (fun l=>!has l) n 0 l fr) _ _ _ by rw [ZH,show (!has l)=true from by rw [hag];rfl];exact ⟨rfl,_,rfl,rfl⟩) idH
      · exact rtA rfl rfl rfl (show ClQ bo H _ (ZH (fun l=>!has l) n 0 l fr) _ _ (RowsA al 1 (irows l)::_) by rw [ZH,show (!has l)=false from by rw [hag];rfl];exact ⟨rfl,al,cq,hlq,rfl,rfl⟩) (fun w h=>St.also h (fun w' hg=>hg _ hL.mem)))
theorem Z9v (g:Nat) (cap:List Value) (has:List Int→Bool) (n:Nat) (R0:Z5) (hp:ZiA g cap has n R0) (hn:n≤1000) (many bm bo bk bn bf:Nat) (hmn:many≤n):∀ r,ShC g cap has n R0 many bm bo bk bn bf r
 | 0=>Z2U g cap has n R0 hp hn many bm bo bk bn bf 0 hmn (fun _ h=>by cases h)
 | r + 1 => Z2U g cap has n R0 hp hn many bm bo bk bn bf (r + 1) hmn (fun q h => by
     obtain rfl:r=q:=Nat.succ.inj h
     exact Z9v g cap has n R0 hp hn many bm bo bk bn bf hmn r)
set_option maxHeartbeats 600000 in
theorem Z7Z (g:Nat) (cap:List Value) (has:List Int→Bool) (n:Nat) (R0:Z5) (hp:ZiA g cap has n R0) (hn:n≤1000) (H:Z7) (R:Z5) [sR:SubF R0 R] :
    Fn Tryz.prog 60 [.int .i64 (n:Int),.func (.func g) #[] cap.toArray] H R (fun v H' R'=>H'=H∧((Z1D has n=none∧v = .tuple #[.slice none 0 0,.bool false]∧R'=R)∨∃ x a c,Z1D has n=some x∧x.length≤c∧v = .tuple #[.slice a x.length c,.bool true]∧R'=RowsA a 1 (irows x)::R)):=by
 refine Z8 Tryz.func60 rfl Tryz.ntmps60 rfl ?_
 refine sqt 4 rfl (bx rfl rfl rfl (fun b2=>bx rfl rfl rfl (fun b3=>pur 2 rfl (Z0 (sqt 3 rfl (spL rfl rfl (lh sc3 rfl rfl) rfl (sp rfl (PE.add rfl rfl (by omega)) rfl (pur 1 rfl (Z2 ?_)))))))))
 refine Sy.heap (fun w h9=>St.rows (sz:=1) (rows:=[[.int .i64 (n:Int)]]) (rest:=[]) (h9.pull b2) (by simp)) ?_
 refine Sy.heap (fun w h9=>St.rows (sz:=1) (rows:=[[.func (.func g) #[] cap.toArray]]) (rest:=[]) (h9.pull b3) (by simp)) ?_
 refine Zc (ι:={k:Nat // k≤n+1∧∀ j,j<k→ZH (fun l=>!has l) n j [] 0=none}) (fun k=>⟨[(2,.pointer (some ⟨b2,0,none⟩)),(3,.pointer (some ⟨b3,0,none⟩)),(10,.int .i64 (n+1:Nat)),(11,.int .i64 k.1)],H,RowsA (some ⟨b3,0,none⟩) 1 [[.func (.func g) #[] cap.toArray]]::RowsA (some ⟨b2,0,none⟩) 1 [[.int .i64 (n:Int)]]::R⟩) (fun k=>n+1-k.1) ⟨0,by omega,fun j h2=>by omega⟩ ?_ (fun k=>?_)
 exact Zi idH
 obtain ⟨k,hk,hno⟩:=k
 dsimp only at hk hno ⊢
 refine sqt 1 rfl (pur 1 rfl (Z0 ?_))
 refine Z1 rfl ?_ ?_<;>intro hc0<;>try simp only [cS] at hc0
 have hk1:k≤n:=by omega
 refine Z3 (Z0 (Z2 (sqt 3 rfl (pur 1 rfl (alc rfl zl3 rfl (fun b6=>?_))))))
 refine sto rfl rfl rfl cn3 rfl rfl rfl rfl ?_
 refine sqt 1 rfl (alc rfl Zl0 rfl (fun b7=>sqt 1 rfl (alc rfl Zl1 rfl (fun b8=>sqt 2 rfl (sp rfl (PE.makeFunc rfl rfl) rfl ?_)))))
 refine sto rfl rfl rfl ZkS rfl rfl rfl rfl ?_
 refine sqt 2 rfl ?_
 refine Sy.heap (fun w h9=>St.rows (sz:=1) (rows:=[[(.func (.func 106) #[] #[.pointer (some ⟨b6,0,none⟩),.pointer (some ⟨b7,0,none⟩),.pointer (some ⟨b3,0,none⟩),.pointer (some ⟨b2,0,none⟩),.pointer (some ⟨b8,0,none⟩)])]]) (rest:=[]) (h9.pull b8) (by simp)) ?_
 refine Sy.heap (fun w h9=>St.rows (sz:=1) (rows:=[[.int .i64 (k:Int)]]) (rest:=[]) (h9.pull b6) (by simp)) ?_
 refine ZQ b7 ?_
 refine Sy.heap (fun w h=>St.norows (sz:=1) h) ?_
 refine spL rfl rfl (lfB (sz:=1) Zdd rfl) rfl ?_
 refine clF rfl rfl (Z9x) rfl rfl ((Z9v g cap has n R0 hp hn k b6 b7 b3 b2 b8 hk1 k) [] none 0 0 (.slice none 0 0) _ _ (hL:=(inferInstance:MemRows none 1 [] _)) (by simp) (by simp) (fun x hx=>by cases hx)) ?_
 rintro v H2 R2 hQ
 obtain ⟨bv,rfl⟩:=hQ.bool
 rcases hsr:ZH (fun l=>!has l) n k [] 0 with _ | d
 refine Z1 rfl ?_ ?_<;>intro hc1
 rw [hsr] at hQ
 obtain ⟨hv,_⟩:=hQ
 cases hv
 exact absurd hc1 (by simp)
 rw [hsr] at hQ
 obtain ⟨hv,ov2,rfl,rfl⟩:=hQ
 cases hv
 refine Z3 (sqr 2 rfl (sp rfl (PE.add rfl rfl (by omega)) rfl (pur 1 rfl ?_)))
 exact Z6 ⟨k+1,by omega,fun j h2=>(Nat.lt_or_eq_of_le (Nat.le_of_lt_succ h2)).elim (hno j) (fun h=>by subst h;exact hsr)⟩ drp
 refine Z1 rfl ?_ ?_<;>intro hc1
 rw [hsr] at hQ
 obtain ⟨hv,a9,c99,hc99,rfl,rfl⟩:=hQ
 cases hv
 have hsh:=Zcm hno hk1 hsr
 refine sqt 3 rfl (spL rfl rfl (lh Z8u rfl rfl) rfl (pur 2 rfl (Z4 ?_)))
 first
   | exact rtB rfl rfl rfl rfl ⟨rfl,.inr ⟨d,a9,c99,hsh,hc99,rfl,rfl⟩⟩ drp
   | exact rtB rfl rfl rfl rfl ⟨rfl,.inl ⟨Z7L fun j h=>hno j (by omega),rfl,rfl⟩⟩ drp
 rw [hsr] at hQ
 obtain ⟨hv,_⟩:=hQ
 cases hv
 exact absurd hc1 (by simp)
 obtain rfl:k=n+1:=by omega
 refine Z9 (Za (Za (Zn (sqt 2 rfl (pur 2 rfl (Z4 ?_))))))
 first
   | exact rtB rfl rfl rfl rfl ⟨rfl,.inr ⟨d,a9,c99,hsh,hc99,rfl,rfl⟩⟩ drp
   | exact rtB rfl rfl rfl rfl ⟨rfl,.inl ⟨Z7L fun j h=>hno j (by omega),rfl,rfl⟩⟩ drp
theorem ZdO (h:Hse) (ag as_:Option Addr) (cg cs:Nat) (hok:h.ok) (hlg:h.gaps.length≤9223372036854775807) (hls:h.sights.length≤9223372036854775807) (bd bx b1:Nat) (l:List Int) (a:Option Addr) (c:Nat) (hl:l.length≤9223372036854775807) (hx:∀ x∈l,0≤x∧x<7) (H:Z7) (R:Z5) [hG:MemRows ag 2 (Zy h.gaps) R] [hS:MemRows as_ 3 (Zs h.sights) R] [mD:MemRows (some ⟨bd,0,none⟩) 4 [(dkA h ag as_ cg cs bd).row] R] [mB:MemRows (some ⟨b1,0,none⟩) 3 [htl h (h.sg ag cg) (h.ss as_ cs)] R] [mX:MemRows (some ⟨bx,0,none⟩) 1 [[.pointer (some ⟨bd,0,none⟩)]] R] [hR:MemRows a 1 (irows l) R] :
    FnV Tryz.prog 61 [.slice a l.length c,.pointer (some ⟨bx,0,none⟩),.pointer (some ⟨b1,0,none⟩)] H R (.bool (expl h.gaps (msk l) h.sights)):=by
 refine Z8 Tryz.func61 rfl Tryz.ntmps61 rfl ?_
 refine sqt 1 rfl (pur 1 rfl (sqt 6 rfl (spL rfl rfl (lfB (sz:=1) ZeY rfl) rfl (pur 1 rfl (sp rfl (PE.fA Z10 rfl) rfl (spL rfl rfl (lfB (sz:=3) Z6Z rfl) rfl ?_))))))
 refine clV rfl Zbw rfl rfl (Z1I (dkA h ag as_ cg cs bd) (Z2V h ag as_ cg cs hok bd) rfl l a c hl hx h.sights as_ cs hls hok.sights _ _) ?_
 refine pur 1 rfl (Z4 ?_)
 exact rtA rfl rfl rfl ⟨rfl,rfl,rfl⟩ drp
set_option maxHeartbeats 400000 in
theorem Z8K (h:Hse) (ag as_:Option Addr) (cg cs:Nat) (hlg:h.gaps.length≤9223372036854775807) (hls:h.sights.length≤9223372036854775807) (H:Z7) (R:Z5) [hG:MemRows ag 2 (Zy h.gaps) R] [hS:MemRows as_ 3 (Zs h.sights) R] :
    Fn Tryz.prog 25 [h.v (h.sg ag cg) (h.ss as_ cs)] H R (fun v H' R'=>∃ a c',(h.orgR).1.length≤c'∧v = .tuple #[.slice a (h.orgR).1.length c',.int .i64 (h.orgR).2]∧H'=H∧R'=RowsA a 1 (irows (h.orgR).1)::R):=by
 refine Z8 Tryz.func25 rfl Tryz.ntmps25 rfl ?_
 refine sqt 3 rfl (bx rfl rfl rfl (fun b1=>pur 2 rfl (sqt 8 rfl (spL rfl rfl (lhA (htl h (h.sg ag cg) (h.ss as_ cs)) Z0e rfl rfl rfl) rfl ?_))))
 refine cl rfl Ze0 rfl rfl (Z18 h ag as_ cg cs hlg hls _ _) ?_
 rintro _ _ _ ⟨rfl,ho⟩
 rcases ho with ⟨hck,rfl,rfl⟩ | ⟨hck,hag,rfl,rfl⟩ | ⟨hck,hag,bd,rfl,rfl⟩
 refine pur 3 rfl (alc rfl Zfm rfl (fun b4=>?_))
 refine sto rfl rfl rfl Ze5 rfl rfl rfl rfl ?_
 refine pur 1 rfl (Z0 (sqt 2 rfl (pur 2 rfl ?_)))
 refine Z1 rfl ?_ ?_<;>intro hc0
 have e:h.orgR=([],h.check):=by unfold Hse.orgR;rw [dT hck];rfl
 refine sqt 3 rfl (pur 3 rfl (Z4 ?_))
 rw [show h.check=(h.orgR).2 from by rw [e]]
 exact rtB rfl rfl rfl rfl ⟨none,0,by rw [e]<;>exact Nat.le_refl _,by rw [e]<;>rfl,rfl,by rw [e]<;>rfl⟩ (fun w h9=>St.norows ((h9.del b4).del b1))
 exact absurd hc0 (by simp [hck])
 refine pur 3 rfl (alc rfl Zfm rfl (fun b4=>?_))
 refine sto rfl rfl rfl Ze5 rfl rfl rfl rfl ?_
 refine pur 1 rfl (Z0 (sqt 2 rfl (pur 2 rfl ?_)))
 refine Z1 rfl ?_ ?_<;>intro hc0
 have e:h.orgR=([],7):=by unfold Hse.orgR;rw [dF (by simp [hck]),hag];rfl
 refine sqt 3 rfl (pur 3 rfl (Z4 ?_))
 exact rtB rfl rfl rfl rfl ⟨none,0,by rw [e]<;>exact Nat.le_refl _,by rw [e]<;>rfl,rfl,by rw [e]<;>rfl⟩ (fun w h9=>St.norows ((h9.del b4).del b1))
 exact absurd hc0 (by simp)
 refine pur 3 rfl (alc rfl Zfm rfl (fun b4=>?_))
 refine sto rfl rfl rfl Ze5 rfl rfl rfl rfl ?_
 refine pur 1 rfl (Z0 (sqt 2 rfl (pur 2 rfl ?_)))
 refine Z1 rfl ?_ ?_<;>intro hc0
 exact absurd hc0 (by simp)
 have hok:=hse_ok.1 hck
 have hbn:=hok.bins
 have e:h.orgR=((Z1D (fun l=>expl h.gaps (msk l) h.sights) h.bins.toNat).getD [],0):=by unfold Hse.orgR;rw [dF (by simp [hck]),hag];rfl
 refine Sy.heap (fun w h9=>St.rows (sz:=1) (rows:=[[.pointer (some ⟨bd,0,none⟩)]]) (rest:=[]) (h9.pull b4) (by simp)) ?_
 refine Z3 (sqt 9 rfl (sp rfl (PE.fA Z0r rfl) rfl (spL rfl rfl (lh sc3 rfl rfl) rfl ?_)))
 refine Sy.heap (fun w h9=>St.rows (sz:=3) (rows:=[htl h (h.sg ag cg) (h.ss as_ cs)]) (rest:=[]) (h9.pull b1) (by simp [htl])) ?_
 have hask:ZiA 61 [.pointer (some ⟨b4,0,none⟩),.pointer (some ⟨b1,0,none⟩)] (fun l=>expl h.gaps (msk l) h.sights) h.bins.toNat [RowsA (some ⟨bd,0,none⟩) 4 [(dkA h ag as_ cg cs bd).row],RowsA (some ⟨b1,0,none⟩) 3 [htl h (h.sg ag cg) (h.ss as_ cs)],RowsA (some ⟨b4,0,none⟩) 1 [[.pointer (some ⟨bd,0,none⟩)]],RowsA ag 2 (Zy h.gaps),RowsA as_ 3 (Zs h.sights)]:=⟨Zjp,fun l a c H R hf hr hx hl=>by
   haveI:MemRows (some ⟨bd,0,none⟩) 4 [(dkA h ag as_ cg cs bd).row] R:=⟨hf _ (by simp)⟩
   haveI:MemRows (some ⟨b1,0,none⟩) 3 [htl h (h.sg ag cg) (h.ss as_ cs)] R:=⟨hf _ (by simp)⟩
   haveI:MemRows (some ⟨b4,0,none⟩) 1 [[.pointer (some ⟨bd,0,none⟩)]] R:=⟨hf _ (by simp)⟩
   haveI:MemRows ag 2 (Zy h.gaps) R:=⟨hf _ (by simp)⟩
   haveI:MemRows as_ 3 (Zs h.sights) R:=⟨hf _ (by simp)⟩
   haveI:MemRows a 1 (irows l) R:=⟨hr⟩
   exact ZdO h ag as_ cg cs hok hlg hls bd b4 b1 l a c (by omega) (fun x h9=>by have:=hx x h9;omega) _ _⟩
 rw [show h.bins=((h.bins.toNat:Nat):Int) from by omega]
 refine sp rfl (PE.makeFunc rfl rfl) rfl ?_
 refine cl rfl Zjo rfl rfl (Z7Z 61 [.pointer (some ⟨b4,0,none⟩),.pointer (some ⟨b1,0,none⟩)] (fun l=>expl h.gaps (msk l) h.sights) h.bins.toNat [RowsA (some ⟨bd,0,none⟩) 4 [(dkA h ag as_ cg cs bd).row],RowsA (some ⟨b1,0,none⟩) 3 [htl h (h.sg ag cg) (h.ss as_ cs)],RowsA (some ⟨b4,0,none⟩) 1 [[.pointer (some ⟨bd,0,none⟩)]],RowsA ag 2 (Zy h.gaps),RowsA as_ 3 (Zs h.sights)] hask (by omega) _ _) ?_
 rintro _ _ _ ⟨rfl,ho⟩
 rcases ho with ⟨hs,rfl,rfl⟩ | ⟨x,a,c,hs,hxc,rfl,rfl⟩
 refine pur 5 rfl (sqt 3 rfl (pur 3 rfl (Z4 ?_)))
 have e2:h.orgR=([],0):=by rw [e,hs];rfl
 exact rtB rfl rfl rfl rfl ⟨none,0,by rw [e2]<;>exact Nat.le_refl _,by rw [e2]<;>rfl,rfl,show RowsA none 1 []::_=RowsA none 1 (irows (h.orgR).1)::_ from by rw [e2]<;>rfl⟩ (fun w h9=>drp w (St.norows (sz:=1) h9))
 refine pur 5 rfl (sqt 3 rfl (pur 3 rfl (Z4 ?_)))
 have e2:h.orgR=(x,0):=by rw [e,hs];rfl
 exact rtB rfl rfl rfl rfl ⟨a,c,by rw [e2];exact hxc,by rw [e2]<;>rfl,rfl,show RowsA a 1 (irows x)::_=_ from by rw [e2]<;>rfl⟩ drp
set_option maxHeartbeats 600000 in
theorem Zbo (h:Hse) (ag as_:Option Addr) (cg cs:Nat) (hlg:h.gaps.length≤9223372036854775807) (hls:h.sights.length≤9223372036854775807) (week:Int) (H:Z7) (R:Z5) [hG:MemRows ag 2 (Zy h.gaps) R] [hS:MemRows as_ 3 (Zs h.sights) R] :
    Fn Tryz.prog 26 [h.v (h.sg ag cg) (h.ss as_ cs),.int .i64 week] H R (fun v H' R'=>∃ a c',(h.surR week).1.length≤c'∧v = .tuple #[.slice a (h.surR week).1.length c',.int .i64 (h.surR week).2]∧H'=H∧R'=RowsA a 1 (irows (h.surR week).1)::R):=by
 refine Z8 Tryz.func26 rfl Tryz.ntmps26 rfl ?_
 refine sqt 3 rfl (bx rfl rfl rfl (fun b2=>pur 2 rfl (Z0 (sqt 3 rfl (spL rfl rfl (lhA (htl h (h.sg ag cg) (h.ss as_ cs)) Z0e rfl rfl rfl) rfl ?_)))))
 refine clV rfl Z2i rfl rfl (ZG h ag as_ cg cs hlg hls _ _) ?_
 refine pur 1 rfl (sqt 2 rfl (pur 2 rfl ?_))
 refine Z1 rfl ?_ ?_<;>intro hc0
 have hck:h.check≠0:=of_decide_eq_true hc0
 have e:=Z76 (Zdo (week:=week) hck) hck
 refine sqt 3 rfl (pur 3 rfl (Z4 ?_))
 rw [show h.check=(h.surR week).2 from by rw [e]]
 exact rtB rfl rfl rfl rfl ⟨none,0,by rw [e]<;>exact Nat.le_refl _,by rw [e]<;>rfl,rfl,by rw [e]<;>rfl⟩ (fun w h9=>St.norows (h9.del b2))
 have hck:h.check=0:=Classical.byContradiction fun e=>by rw [decide_eq_true e] at hc0;cases hc0
 have hok:=hse_ok.1 hck
 have hbn:=hok.bins
 refine Z3 (Z0 (sqt 3 rfl (pur 1 rfl ?_)))
 refine clV rfl Z9H rfl rfl (Z7Y _ _ _ _ _) ?_
 refine pur 1 rfl ?_
 refine Z1 rfl ?_ ?_<;>intro hc1
 have e:=Z76 (Zdp hck hc1) (by decide)
 refine sqt 2 rfl (pur 2 rfl (Z4 ?_))
 exact rtB rfl rfl rfl rfl ⟨none,0,by rw [e]<;>exact Nat.le_refl _,by rw [e]<;>rfl,rfl,by rw [e]<;>rfl⟩ (fun w h9=>St.norows (h9.del b2))
 have hwk:0≤week∧week≤9:=by simpa [inB] using hc1
 refine Z3 (sqt 7 rfl (spL rfl rfl (lhA (htl h (h.sg ag cg) (h.ss as_ cs)) Z0e rfl rfl rfl) rfl ?_))
 refine cl rfl Ze0 rfl rfl (Z18 h ag as_ cg cs hlg hls _ _) ?_
 rintro _ _ _ ⟨rfl,ho⟩
 rcases ho with ⟨hck9,rfl,rfl⟩ | ⟨hck9,hag,rfl,rfl⟩ | ⟨hck9,hag,bd,rfl,rfl⟩
 · exact absurd hck hck9
 refine pur 5 rfl (Z0 (sqt 2 rfl (pur 2 rfl ?_)))
 refine Z1 rfl ?_ ?_<;>intro hc2
 have e:=Z76 (Zdn hck hc1 hag) (by decide)
 refine sqt 3 rfl (pur 3 rfl (Z4 ?_))
 exact rtB rfl rfl rfl rfl ⟨none,0,by rw [e]<;>exact Nat.le_refl _,by rw [e]<;>rfl,rfl,by rw [e]<;>rfl⟩ (fun w h9=>St.norows (h9.del b2))
 exact absurd hc2 (by simp)
 refine pur 5 rfl (Z0 (sqt 2 rfl (pur 2 rfl ?_)))
 refine Z1 rfl ?_ ?_<;>intro hc2
 exact absurd hc2 (by simp)
 have e:=ZaR (Z7S hck hc1 hag)
 refine Z3 (sqt 1 rfl (pur 1 rfl (Z0 (sqt 3 rfl (sp rfl (PE.fA Z0r rfl) rfl (spL rfl rfl (lh sc3 rfl rfl) rfl (pur 1 rfl (Z2 ?_))))))))
 refine Zc (ι:=(k:{k:Nat // k≤h.bins.toNat})×OSl 3 1 (irows (Z0A (h.surB week) k.1))) (fun y=>⟨[(1,.int .i64 week),(2,.pointer (some ⟨b2,0,none⟩)),(7,.pointer (some ⟨bd,0,none⟩)),(9,y.2.fs),(28,.int .i64 h.bins),(29,.int .i64 y.1.1)],y.2.G++(b2,cel 62 (htl h (h.sg ag cg) (h.ss as_ cs)))::H,RowsA (some ⟨bd,0,none⟩) 4 [(dkA h ag as_ cg cs bd).row]::R⟩) (fun y=>h.bins.toNat-y.1.1) ⟨⟨0,Nat.zero_le _⟩,OSl.nil _ _⟩ ?_ (fun y=>?_)
 exact Zi idH
 obtain ⟨⟨k,hk⟩,o⟩:=y
 dsimp only at hk o ⊢
 have hcn:=Z0M (h.surB week) k
 refine sqt 1 rfl (pur 1 rfl (Z0 ?_))
 refine Z1 rfl ?_ ?_<;>intro hc3<;>try simp only [cS] at hc3
 have hk7:k<7:=by omega
 refine Z3 (Z0 (Z2 (sqt 2 rfl (pur 2 rfl (Z0 ?_)))))
 refine Zd [0,0,0,4,0,0,62,0,128,511,1023] (tks 0 3 (.ld 3 (.tk 4 (.tk 5 (.tk 7 (.ld 8 (.big 6 (.big 9 (.tk 10 .done))))))))) Zu (by kernel_rfl) ?_
 refine Zo 2 rfl (tk rfl (PE.fA Z10 rfl) rfl (ld rfl rfl (lh Z6Z rfl rfl) rfl (Zo 2 rfl (tk rfl (PE.fA Z10 rfl) rfl (ld rfl rfl (lh Z6Z rfl rfl) rfl ?_)))))
 refine cl rfl Ze1 rfl rfl (Z6p (dkA h ag as_ cg cs bd) (Z2V h ag as_ cg cs hok bd) rfl h.sights as_ cs hls hok.sights k week ⟨by omega,by omega⟩ _ _) ?_
 rintro _ _ _ ⟨ac,cc,rfl,rfl,rfl⟩
 refine bg (fun w hs=>⟨(lh Z6Z rfl rfl) w hs,trivial,trivial⟩) ?_
 refine clV rfl Zbw rfl rfl (Z1I (dkA h ag as_ cg cs bd) (Z2V h ag as_ cg cs hok bd) rfl (h.clr h.sights k week) ac cc (by have:=Z6u h h.sights k week;omega) (fun x hx=>by have:=Z5C x hx;omega) h.sights as_ cs hls hok.sights _ _) ?_
 refine bgT (Zo 1 rfl ?_)
 refine Z1 rfl ?_ ?_<;>intro hc4
 have hb2:=Z6z (p:=h.surB week) (k:=k) hc4
 refine sqr 5 rfl (pur 2 rfl ?_)
 refine bsl (out:=[_]) rfl Z36 zl3 rfl rfl rfl rfl rfl rfl (fun b45=>?_)
 refine apO (o) rfl Z6g rfl rfl (Z0l (row:=[.int .i64 k]) rfl) rfl rfl ((by rw [Z06];simp only [List.length_singleton];omega)) rfl (fun o46=>?_)
 refine pur 1 rfl (sqr 2 rfl (sp rfl (PE.add rfl rfl (by omega)) rfl (pur 1 rfl ?_)))
 exact Z6 ⟨⟨k+1,by omega⟩,o46.cast (by rw [hb2];simp [irows])⟩ (fun w h9=>(h9.del b45).ftail)
 have hb2:=Z4J (p:=h.surB week) (k:=k) hc4
 refine Z3 (sqr 2 rfl (sp rfl (PE.add rfl rfl (by omega)) rfl (pur 1 rfl ?_)))
 exact Z6 ⟨⟨k+1,by omega⟩,o.cast (by rw [hb2])⟩ (fun w h9=>h9.ftail)
 obtain rfl:k=h.bins.toNat:=by omega
 obtain ⟨ac,cc,he,hcc9,hf⟩:=o.freezeC
 rw [Z06] at hcc9
 rw [he,Z06]
 refine Sy.heap (fun w h9=>hf h9) ?_
 refine Z9 (Za (Za (Zn (sqt 3 rfl (pur 3 rfl (Z4 ?_))))))
 exact rtB rfl rfl rfl rfl ⟨ac,cc,by rw [e];exact hcc9,by rw [e]<;>rfl,rfl,show RowsA ac 1 (irows (Z0A (h.surB week) h.bins.toNat))::_=_ from by rw [e]<;>rfl⟩ drp
set_option maxHeartbeats 600000 in
theorem Z8L (h:Hse) (ag as_:Option Addr) (cg cs:Nat) (hlg:h.gaps.length≤9223372036854775807) (hls:h.sights.length≤9223372036854775807) (week:Int) (H:Z7) (R:Z5) [hG:MemRows ag 2 (Zy h.gaps) R] [hS:MemRows as_ 3 (Zs h.sights) R] :
    Fn Tryz.prog 27 [h.v (h.sg ag cg) (h.ss as_ cs),.int .i64 week] H R (fun v H' R'=>∃ a c',(h.perR week).1.length≤c'∧v = .tuple #[.slice a (h.perR week).1.length c',.int .i64 (h.perR week).2]∧H'=H∧R'=RowsA a 1 (irows (h.perR week).1)::R):=by
 refine Z8 Tryz.func27 rfl Tryz.ntmps27 rfl ?_
 refine sqt 3 rfl (bx rfl rfl rfl (fun b2=>pur 2 rfl (Z0 (sqt 3 rfl (spL rfl rfl (lhA (htl h (h.sg ag cg) (h.ss as_ cs)) Z0e rfl rfl rfl) rfl ?_)))))
 refine clV rfl Z2i rfl rfl (ZG h ag as_ cg cs hlg hls _ _) ?_
 refine pur 1 rfl (sqt 2 rfl (pur 2 rfl ?_))
 refine Z1 rfl ?_ ?_<;>intro hc0
 have hck:h.check≠0:=of_decide_eq_true hc0
 have e:=Z6S (Zdo (week:=week) hck) hck
 refine sqt 3 rfl (pur 3 rfl (Z4 ?_))
 rw [show h.check=(h.perR week).2 from by rw [e]]
 exact rtB rfl rfl rfl rfl ⟨none,0,by rw [e]<;>exact Nat.le_refl _,by rw [e]<;>rfl,rfl,by rw [e]<;>rfl⟩ (fun w h9=>St.norows (h9.del b2))
 have hck:h.check=0:=Classical.byContradiction fun e=>by rw [decide_eq_true e] at hc0;cases hc0
 have hok:=hse_ok.1 hck
 have hbn:=hok.bins
 refine Z3 (Z0 (sqt 3 rfl (pur 1 rfl ?_)))
 refine clV rfl Z9H rfl rfl (Z7Y _ _ _ _ _) ?_
 refine pur 1 rfl ?_
 refine Z1 rfl ?_ ?_<;>intro hc1
 have e:=Z6S (Zdp hck hc1) (by decide)
 refine sqt 2 rfl (pur 2 rfl (Z4 ?_))
 exact rtB rfl rfl rfl rfl ⟨none,0,by rw [e]<;>exact Nat.le_refl _,by rw [e]<;>rfl,rfl,by rw [e]<;>rfl⟩ (fun w h9=>St.norows (h9.del b2))
 have hwk:0≤week∧week≤9:=by simpa [inB] using hc1
 refine Z3 (sqt 7 rfl (spL rfl rfl (lhA (htl h (h.sg ag cg) (h.ss as_ cs)) Z0e rfl rfl rfl) rfl ?_))
 refine cl rfl Ze0 rfl rfl (Z18 h ag as_ cg cs hlg hls _ _) ?_
 rintro _ _ _ ⟨rfl,ho⟩
 rcases ho with ⟨hck9,rfl,rfl⟩ | ⟨hck9,hag,rfl,rfl⟩ | ⟨hck9,hag,bd,rfl,rfl⟩
 · exact absurd hck hck9
 refine pur 5 rfl (Z0 (sqt 2 rfl (pur 2 rfl ?_)))
 refine Z1 rfl ?_ ?_<;>intro hc2
 have e:=Z6S (Zdn hck hc1 hag) (by decide)
 refine sqt 3 rfl (pur 3 rfl (Z4 ?_))
 exact rtB rfl rfl rfl rfl ⟨none,0,by rw [e]<;>exact Nat.le_refl _,by rw [e]<;>rfl,rfl,by rw [e]<;>rfl⟩ (fun w h9=>St.norows (h9.del b2))
 exact absurd hc2 (by simp)
 refine pur 5 rfl (Z0 (sqt 2 rfl (pur 2 rfl ?_)))
 refine Z1 rfl ?_ ?_<;>intro hc2
 exact absurd hc2 (by simp)
 have e:=Zas (Z7S hck hc1 hag)
 refine Z3 (sqt 8 rfl (pur 2 rfl (sp rfl (PE.fA Z10 rfl) rfl (spL rfl rfl (lh Z6Z rfl rfl) rfl ?_))))
 refine cl rfl Ze1 rfl rfl (Z6p (dkA h ag as_ cg cs bd) (Z2V h ag as_ cg cs hok bd) rfl h.sights as_ cs hls hok.sights (-1) 0 (by decide) _ _) ?_
 rintro _ _ _ ⟨ac,cc,rfl,rfl,rfl⟩
 refine clV rfl Zbv rfl rfl (Z4B (dkA h ag as_ cg cs bd) (Z2V h ag as_ cg cs hok bd) (h.clr h.sights (-1) 0) ac cc (by have:=Z6u h h.sights (-1) 0;omega) (fun x hx=>by have:=Z5C x hx;omega) _ _) ?_
 rw [show (wks (dkA h ag as_ cg cs bd).h.gaps (dkA h ag as_ cg cs bd).cl (msk (h.clr h.sights (-1) 0)))=wks h.gaps 0 (msk (h.clr h.sights (-1) 0)) from rfl]
 refine alc rfl Z8q rfl (fun b9=>?_)
 refine Zdg rfl rfl rfl Z9N rfl (by rw [Zb,ZV]) rfl (Z0f _) ?_
 refine sqt 1 rfl (pur 1 rfl (Z0 (sqt 3 rfl (sp rfl (PE.fA Z0r rfl) rfl (spL rfl rfl (lh sc3 rfl rfl) rfl (pur 1 rfl (Z2 ?_)))))))
 refine Zc (ι:=(k:{k:Nat // k≤h.bins.toNat})×OSl 3 1 (irows (Z0A (h.perB week) k.1))) (fun y=>⟨[(1,.int .i64 week),(2,.pointer (some ⟨b2,0,none⟩)),(9,.pointer (some ⟨b9,0,none⟩)),(10,y.2.fs),(35,.int .i64 h.bins),(36,.int .i64 y.1.1)],y.2.G++(b9,cel 135 (Zj (wks h.gaps 0 (msk (h.clr h.sights (-1) 0)))))::(b2,cel 62 (htl h (h.sg ag cg) (h.ss as_ cs)))::H,RowsA (some ⟨bd,0,none⟩) 4 [(dkA h ag as_ cg cs bd).row]::R⟩) (fun y=>h.bins.toNat-y.1.1) ⟨⟨0,Nat.zero_le _⟩,OSl.nil _ _⟩ ?_ (fun y=>?_)
 exact Zi (fun w h9=>h9.ftail)
 obtain ⟨⟨k,hk⟩,o⟩:=y
 dsimp only at hk o ⊢
 have hcn:=Z0M (h.perB week) k
 refine sqt 1 rfl (pur 1 rfl (Z0 ?_))
 refine Z1 rfl ?_ ?_<;>intro hc3<;>try simp only [cS] at hc3
 have hk7:k<7:=by omega
 refine Z3 (Z0 (Z2 (sqt 2 rfl (pur 2 rfl (sqt 5 rfl (pur 1 rfl (sp rfl (PE.indexArr Z4w rfl rfl (by omega) (by omega)) rfl (spL rfl rfl (lh sc3 rfl (Z0O (w:=wks h.gaps 0 (msk (h.clr h.sights (-1) 0))) (k:=k) (by rw [ZV];omega) (by show 0+k*1=k;omega))) rfl (pur 2 rfl ?_)))))))))
 refine Z1 rfl ?_ ?_<;>intro hc4
 rw [Z1n (by omega)] at hc4
 have hb2:=Z6z (p:=h.perB week) (k:=k) hc4
 refine sqr 5 rfl (pur 2 rfl ?_)
 refine bsl (out:=[_]) rfl Z36 zl3 rfl rfl rfl rfl rfl rfl (fun b46=>?_)
 refine apO (o) rfl Z6g rfl rfl (Z0l (row:=[.int .i64 k]) rfl) rfl rfl ((by rw [Z06];simp only [List.length_singleton];omega)) rfl (fun o47=>?_)
 refine pur 1 rfl (sqr 2 rfl (sp rfl (PE.add rfl rfl (by omega)) rfl (pur 1 rfl ?_)))
 exact Z6 ⟨⟨k+1,by omega⟩,o47.cast (by rw [hb2];simp [irows])⟩ (fun w h9=>h9.del b46)
 rw [Z1n (by omega)] at hc4
 have hb2:=Z4J (p:=h.perB week) (k:=k) hc4
 refine Z3 (sqr 2 rfl (sp rfl (PE.add rfl rfl (by omega)) rfl (pur 1 rfl ?_)))
 exact Z6 ⟨⟨k+1,by omega⟩,o.cast (by rw [hb2])⟩ idH
 obtain rfl:k=h.bins.toNat:=by omega
 obtain ⟨ac,cc,he,hcc9,hf⟩:=o.freezeC
 rw [Z06] at hcc9
 rw [he,Z06]
 refine Sy.heap (fun w h9=>hf h9) ?_
 refine Z9 (Za (Za (Zn (sqt 3 rfl (pur 3 rfl (Z4 ?_))))))
 exact rtB rfl rfl rfl rfl ⟨ac,cc,by rw [e];exact hcc9,by rw [e]<;>rfl,rfl,show RowsA ac 1 (irows (Z0A (h.perB week) h.bins.toNat))::_=_ from by rw [e]<;>rfl⟩ drp
def RevI (l xs:List Int) (i:Nat):Prop:=xs.length=l.length∧∀ p<l.length,na xs p=bif decide (p<i∨l.length≤p+i) then na l (l.length-1-p) else na l p
theorem RevI.start (l:List Int):RevI l l 0:=⟨rfl,fun p hp=>by rw [decide_eq_false (by omega)];rfl⟩
theorem RevI.step {l xs:List Int} {i:Nat} (h:RevI l xs i) (hi:i+i+1<l.length):RevI l ((xs.set i (na xs (l.length-1-i))).set (l.length-1-i) (na xs i)) (i+1):=by
 have hl:=h.1
 refine ⟨by rw [List.length_set,List.length_set];exact hl,fun p hp=>?_⟩
 rw [Z4j (by rw [List.length_set];omega)]
 by_cases h1:l.length-1-i=p
 · rw [decide_eq_true h1,cond_true,h.2 i (by omega),decide_eq_false (by omega),decide_eq_true (by omega),cond_true,cond_false]
   congr 1;omega
 · rw [decide_eq_false h1,cond_false,Z4j (by omega)]
   by_cases h2:i=p
   · subst h2
     rw [decide_eq_true rfl,cond_true,h.2 _ (by omega),decide_eq_false (by omega),cond_false,decide_eq_true (by omega)];rfl
   · rw [decide_eq_false h2,cond_false,h.2 p hp]
     have:(p<i∨l.length≤p+i)↔(p<i+1∨l.length≤p+(i+1)):=by omega
     rw [decide_eq_decide.2 this]
theorem RevI.done {l xs:List Int} {i:Nat} (h:RevI l xs i) (hi:l.length≤i+i+1):xs=l.reverse:=by
 apply List.ext_getElem?
 intro p
 rcases Nat.lt_or_ge p l.length with hp | hp
 · rw [na_get (by rw [h.1];exact hp),List.getElem?_reverse hp,na_get (by omega),h.2 p hp]
   by_cases h1:p<i∨l.length≤p+i
   · rw [decide_eq_true h1];rfl
   · rw [decide_eq_false h1,cond_false,show l.length-1-p=p by omega]
 · rw [List.getElem?_eq_none (by rw [h.1];exact hp),List.getElem?_eq_none (by rw [List.length_reverse];exact hp)]
structure OQ (e sz:Nat) (rows:List (List Value)) where
 b:Nat
 off:Nat
 cap:Nat
 pre:List Value
 junk:List Value
 len:∀ r∈rows,r.length=sz
 pl:pre.length=off
 room:cap*sz≤rows.length*sz+junk.length
 le:rows.length≤cap
 mx:cap≤9223372036854775807
def OQ.fs {e sz:Nat} {rows:List (List Value)} (q:OQ e sz rows):Value:=.slice (some ⟨q.b,q.off,none⟩) rows.length q.cap
def OQ.G {e sz:Nat} {rows:List (List Value)} (q:OQ e sz rows):Z7:=[(q.b,cel e (q.pre++(rows.flatten++q.junk)))]
section
variable {P:Program} {r:Option Nat} {ops:Array Oper} {n:Nat} {L:Zk} {D:List Deferred} {H:Z7} {R:Z5} {K:Act→World→Prop}
 {i d:Nat} {ty:TypeId} {pos:String} {af:Array Edge}
end
def OQ.cast {e sz:Nat} {rows rows':List (List Value)} (q:OQ e sz rows) (h:rows=rows'):OQ e sz rows':=h▸q
@[simp] theorem OQ.cast_fs {e sz : Nat} {rows rows' : List (List Value)} (q : OQ e sz rows) (h : rows = rows') : (q.cast h).fs = q.fs := by subst h; rfl
@[simp] theorem OQ.cast_G {e sz : Nat} {rows rows' : List (List Value)} (q : OQ e sz rows) (h : rows = rows') : (q.cast h).G = q.G := by subst h; rfl
theorem OQ.one {e sz:Nat} (b:Nat) {row:List Value} (h:row.length=sz):∃ q:OQ e sz [row],q.fs = .slice (some ⟨b,0,none⟩) 1 1∧q.G=[(b,cel e row)] :=
 ⟨⟨b,0,1,[],[],by simp [h],rfl,by simp,by simp,by decide⟩,rfl,by unfold OQ.G;simp⟩
structure QN (e sz:Nat) (rows:List (List Value)) where
 a:Option Addr
 c:Nat
 G:Z7
 ok:(rows=[]∧a=none∧c=0∧G=[])∨∃ q:OQ e sz rows,q.fs = .slice a rows.length c∧q.G=G
def QN.of {e sz:Nat} {rows:List (List Value)} (q:OQ e sz rows):QN e sz rows:=⟨some ⟨q.b,q.off,none⟩,q.cap,q.G,.inr ⟨q,rfl,rfl⟩⟩
def QN.cast {e sz:Nat} {rows rows':List (List Value)} (q:QN e sz rows) (h:rows=rows'):QN e sz rows':=h▸q
theorem irl (l:List Int):(irows l).length=l.length:=List.length_map _
theorem Way.at_ {gs:List Gp} {op:Nat→Bool} {f:Nat→Int} {S K:Nat}:∀ {l:List (Nat×Nat)} {u w:Nat},Way gs op f S K u l w→∀ {q:Nat} {x:Nat×Nat},l[q]?=some x→∃ (g:Gp) (y:Nat),gs[x.1]?=some g∧((g.a.toNat=y∧g.b.toNat=x.2)∨(g.b.toNat=y∧g.a.toNat=x.2))∧(q=0→y=u)∧∀ q',q=q'+1→∃ z,l[q']?=some z∧z.2=y
 | [],_,_,_,q,x,hx=>by simp at hx
 | (i,v)::l,u,w,.cons (g:=g) hg _ _ _ hs h,0,x,hx=>by
   rw [List.getElem?_cons_zero,Option.some.injEq] at hx
   subst hx
   exact ⟨g,u,hg,hs.imp (fun h=>⟨h.1,h.2.1⟩) (fun h=>⟨h.1,h.2.1⟩),fun _=>rfl,fun q' e=>by omega⟩
 | (i,v)::l,u,w,.cons hg _ _ _ hs h,q+1,x,hx=>by
   rw [List.getElem?_cons_succ] at hx
   obtain ⟨g,y,h1,h2,h3,h4⟩:=Way.at_ h hx
   refine ⟨g,y,h1,h2,fun e=>by omega,fun q' e=>?_⟩
   obtain rfl:q=q':=by omega
   cases q with
   | zero=>exact ⟨(i,v),rfl,(h3 rfl).symm⟩
   | succ q=>obtain ⟨z,h5,h6⟩:=h4 q rfl;exact ⟨z,by rw [List.getElem?_cons_succ];exact h5,h6⟩
structure Rc where
 d:Dk
 br:Nat
 K:Nat
 sp:Nat
 mm:Nat
def Rc.row (r:Rc):List Value:=[.pointer (some ⟨r.d.bd,0,none⟩),.int .i64 (r.K:Int),.int .i64 (r.sp:Int),.map (some r.mm)]
def svv (n l:Nat) (b:Bool):Value:=.agg #[.int .i64 (n:Int),.int .i64 (l:Int),.bool b]
def Memo (gs:List Gp) (K sp:Nat) (kv:KV):Prop:=∀ e∈kv,∃ (m c n l:Nat) (b:Bool),e=([(m:Int),(c:Int)],svv n l b)∧ZiB gs K sp m c n l b
theorem Memo.len {gs:List Gp} {K sp:Nat} {kv:KV} (h:Memo gs K sp kv):∀ e∈kv,e.1.length=2:=fun e he=>by
 obtain ⟨m,c,n,l,b,rfl,_⟩:=h e he;rfl
theorem Memo.nil (gs:List Gp) (K sp:Nat):Memo gs K sp []:=fun e he=>by cases he
theorem Memo.get {gs:List Gp} {K sp:Nat} {kv:KV} (h:Memo gs K sp kv) {m c:Nat} {v:Value} (hg:kv.get [(m:Int),(c:Int)]=some v):∃ (n l:Nat) (b:Bool),v=svv n l b∧ZiB gs K sp m c n l b:=by
 unfold KV.get at hg
 obtain ⟨e,he,rfl⟩:=Option.map_eq_some_iff.1 hg
 obtain ⟨m',c',n,l,b,rfl,hb⟩:=h e (List.mem_of_find?_eq_some he)
 have hk:=List.find?_some he
 simp only [decide_eq_true_eq,List.cons.injEq,and_true] at hk
 obtain rfl:m'=m:=by omega
 obtain rfl:c'=c:=by omega
 exact ⟨n,l,b,rfl,hb⟩
theorem Memo.put {gs:List Gp} {K sp:Nat} {kv:KV} (h:Memo gs K sp kv) {m c n l:Nat} {b:Bool} (hb:ZiB gs K sp m c n l b):Memo gs K sp (kv.put [(m:Int),(c:Int)] (svv n l b)):=fun e he=>by
 rcases KV.put_mem he with rfl | h1
 · exact ⟨m,c,n,l,b,rfl,hb⟩
 · exact h e h1
theorem Zfz:arE Tryz.prog 135=some (7,3):=by kernel_rfl
theorem ZjV:eqB Tryz.prog 10000 3=some (false,1):=by kernel_rfl
def Hse.weeksR (h:Hse) (l:List Int):List Int×Int:=bif decide (h.lsE l≠0) then ([],h.lsE l) else (h.weeksV l,0)
theorem Zfl {w:List Int} {k:Nat} (h:k<w.length):mkv false ((w.drop (k*1)).take 1) = .int .i64 (na w k):=by
 have h2:=na_get h
 rw [List.getElem?_eq_getElem h] at h2
 rw [Nat.mul_one,List.drop_eq_getElem_cons h,Option.some.inj h2];rfl
theorem Z2T (w:List Int):(wkR w).length=w.length:=List.length_map _
theorem Zi1 {h:Hse} {l:List Int} (hc:h.check≠0):h.lsE l=h.check:=by unfold Hse.lsE;rw [decide_eq_true hc];rfl
theorem Zal {h:Hse} {l:List Int} (hc:h.check=0):h.lsE l=Z1S h.bins l:=by unfold Hse.lsE;rw [decide_eq_false (fun e=>e hc)];rfl
theorem Z6c {h:Hse} {l:List Int} {e:Int} (he:h.lsE l=e) (h0:e≠0):h.weeksR l=([],e):=by unfold Hse.weeksR;rw [he,decide_eq_true h0];rfl
theorem Z6d {h:Hse} {l:List Int} (he:h.lsE l=0):h.weeksR l=(h.weeksV l,0):=by unfold Hse.weeksR;rw [he];rfl
set_option maxHeartbeats 600000 in
theorem ZdH (h:Hse) (ag as_:Option Addr) (cg cs:Nat) (hlg:h.gaps.length≤9223372036854775807) (hls:h.sights.length≤9223372036854775807) (l:List Int) (a:Option Addr) (c:Nat) (hl:l.length≤9223372036854775807) (hlc:l.length≤c) (H:Z7) (R:Z5) [hG:MemRows ag 2 (Zy h.gaps) R] [hS:MemRows as_ 3 (Zs h.sights) R] [hR:MemRows a 1 (irows l) R] :
    Fn Tryz.prog 18 [h.v (h.sg ag cg) (h.ss as_ cs),.slice a l.length c] H R (fun v H' R'=>∃ a c',(h.weeksR l).1.length≤c'∧v = .tuple #[.slice a (h.weeksR l).1.length c',.int .i64 (h.weeksR l).2]∧H'=H∧R'=RowsA a 1 (irows (h.weeksR l).1)::R):=by
 refine Z8 Tryz.func18 rfl Tryz.ntmps18 rfl ?_
 refine sqt 3 rfl (bx rfl rfl rfl (fun b2=>pur 2 rfl (Z0 (sqt 3 rfl (spL rfl rfl (lhA (htl h (h.sg ag cg) (h.ss as_ cs)) Z0e rfl rfl rfl) rfl ?_)))))
 refine clV rfl Z2i rfl rfl (ZG h ag as_ cg cs hlg hls _ _) ?_
 refine pur 1 rfl (sqt 2 rfl (pur 2 rfl ?_))
 refine Z1 rfl ?_ ?_<;>intro hc0
 have hck:h.check≠0:=of_decide_eq_true hc0
 have e:=Z6c (l:=l) (Zi1 hck) hck
 refine sqt 3 rfl (pur 3 rfl (Z4 ?_))
 rw [show h.check=(h.weeksR l).2 from by rw [e]]
 exact rtB rfl rfl rfl rfl ⟨none,0,by rw [e]<;>exact Nat.le_refl _,by rw [e]<;>rfl,rfl,by rw [e]<;>rfl⟩ (fun w h9=>St.norows (h9.del b2))
 have hck:h.check=0:=Classical.byContradiction fun e=>by rw [decide_eq_true e] at hc0;cases hc0
 have hok:=hse_ok.1 hck
 have hbn:=hok.bins
 have hE:=Zal (l:=l) hck
 refine Z3 (Z0 (sqt 5 rfl (pur 1 rfl (spL rfl rfl (lhA (htl h (h.sg ag cg) (h.ss as_ cs)) Z0e rfl rfl rfl) rfl (sp rfl (PE.makeFunc rfl rfl) rfl ?_)))))
 refine clV rfl Zhg rfl rfl (Z7e l a c 53 [h.v (h.sg ag cg) (h.ss as_ cs)] [] (fun k=>inB k 0 (h.bins-1)) Z9F hl hlc _ _ (fun _ x _=>Z8Q h hok.bins (h.sg ag cg) (h.ss as_ cs) x _ _)) ?_
 refine pur 1 rfl (sqt 2 rfl (pur 2 rfl ?_))
 refine Z1 rfl ?_ ?_<;>intro hc1
 have hle:Z1S h.bins l≠0:=of_decide_eq_true hc1
 have e:=Z6c hE hle
 refine sqt 3 rfl (pur 3 rfl (Z4 ?_))
 rw [show ZeB (fun k=>inB k 0 (h.bins-1)) l=(h.weeksR l).2 from by rw [e];rfl]
 exact rtB rfl rfl rfl rfl ⟨none,0,by rw [e]<;>exact Nat.le_refl _,by rw [e]<;>rfl,rfl,by rw [e]<;>rfl⟩ (fun w h9=>St.norows (h9.del b2))
 have hle:Z1S h.bins l=0:=Classical.byContradiction fun e=>by rw [show decide (ZeB (fun k=>inB k 0 (h.bins-1)) l≠0)=true from decide_eq_true e] at hc1;cases hc1
 have hlx:=(Z4h hle).1
 have e:=Z6d (hE.trans hle)
 refine Z3 (sqt 1 rfl (pur 1 rfl (Z0 (sqt 5 rfl (spL rfl rfl (lhA (htl h (h.sg ag cg) (h.ss as_ cs)) Z0e rfl rfl rfl) rfl ?_)))))
 refine cl rfl ZdZ rfl rfl (Z3X h ag as_ cg cs _ _) ?_
 rintro _ _ _ ⟨bd,rfl,rfl,rfl⟩
 refine pur 1 rfl ?_
 refine clV rfl Zbv rfl rfl (Z4B (dkA h ag as_ cg cs bd) (Z2V h ag as_ cg cs hok bd) l a c hl (fun x hx=>by have:=hlx x hx;omega) _ _) ?_
 rw [show (wks (dkA h ag as_ cg cs bd).h.gaps (dkA h ag as_ cg cs bd).cl (msk l))=(wks h.gaps 0 (msk l)) from rfl]
 refine pur 1 rfl (Z2 ?_)
 refine Zc (ι:=(k:{k:Nat // k≤7})×OSl 3 1 (irows (wkR ((wks h.gaps 0 (msk l)).take k.1)))) (fun y=>⟨[(2,.pointer (some ⟨b2,0,none⟩)),(8,y.2.fs),(26,.agg (Zj (wks h.gaps 0 (msk l))).toArray),(27,.int .i64 y.1.1)],y.2.G++(b2,cel 62 (htl h (h.sg ag cg) (h.ss as_ cs)))::H,RowsA (some ⟨bd,0,none⟩) 4 [(dkA h ag as_ cg cs bd).row]::R⟩) (fun y=>7-y.1.1) ⟨⟨0,Nat.zero_le _⟩,OSl.nil _ _⟩ ?_ (fun y=>?_)
 exact Zi idH
 obtain ⟨⟨k,hk⟩,o⟩:=y
 dsimp only at hk o ⊢
 refine sqt 1 rfl (pur 1 rfl (Z0 ?_))
 refine Z1 rfl ?_ ?_<;>intro hc2<;>try simp only [cS] at hc2
 have hk7:k<7:=by omega
 refine Z3 (Z0 (Z2 (sqt 2 rfl ?_)))
 refine sp rfl ((PE.indexI (l:=(wks h.gaps 0 (msk l))) (i:=k) Zfz (Z1o 10000 3 false 1 ZjV) (fun _=>rfl) rfl rfl (by omega) (by rw [ZV];omega)).to (Zfl (by rw [ZV];omega))) rfl ?_
 refine pur 1 rfl (Z0 (sqt 2 rfl (pur 2 rfl ?_)))
 refine Z1 rfl ?_ ?_<;>intro hc3<;>try simp only [cS] at hc3
 refine sqr 1 rfl (pur 1 rfl (sqr 5 rfl (pur 2 rfl ?_)))
 refine bsl (out:=[_]) rfl Z36 zl3 rfl rfl rfl rfl rfl rfl (fun b34=>?_)
 refine apO (o) rfl Z6g rfl rfl (Z0l (row:=[.int .i64 (-1)]) rfl) rfl rfl ((by rw [irl,Z2T,List.length_take];simp only [List.length_singleton];omega)) rfl (fun o35=>?_)
 refine pur 1 rfl (sqr 2 rfl (sp rfl (PE.add rfl rfl (by omega)) rfl (pur 1 rfl ?_)))
 have hst:=Z7T (w:=(wks h.gaps 0 (msk l))) (k:=k) (by rw [ZV];omega)
 rw [dT (show far≤na (wks h.gaps 0 (msk l)) k by unfold far;omega),cond_true] at hst
 exact Z6 ⟨⟨k+1,by omega⟩,o35.cast (by rw [hst];simp [irows])⟩ (fun w h9=>h9.del b34)
 refine Z3 (sqr 5 rfl (pur 2 rfl ?_))
 refine bsl (out:=[_]) rfl Z36 zl3 rfl rfl rfl rfl rfl rfl (fun b34=>?_)
 refine apO (o) rfl Z6g rfl rfl (Z0l (row:=[.int .i64 (na (wks h.gaps 0 (msk l)) k)]) rfl) rfl rfl ((by rw [irl,Z2T,List.length_take];simp only [List.length_singleton];omega)) rfl (fun o35=>?_)
 refine pur 1 rfl (sqr 2 rfl (sp rfl (PE.add rfl rfl (by omega)) rfl (pur 1 rfl ?_)))
 have hst:=Z7T (w:=(wks h.gaps 0 (msk l))) (k:=k) (by rw [ZV];omega)
 rw [dF (show ¬ far≤na (wks h.gaps 0 (msk l)) k by unfold far;omega),cond_false] at hst
 exact Z6 ⟨⟨k+1,by omega⟩,o35.cast (by rw [hst];simp [irows])⟩ (fun w h9=>h9.del b34)
 obtain rfl:k=7:=by omega
 have htk:(wks h.gaps 0 (msk l)).take 7=(wks h.gaps 0 (msk l)):=List.take_of_length_le (by rw [ZV];omega)
 obtain ⟨ac,cc,he,hcc,hf⟩:=(o.cast (by rw [htk])).freezeC
 rw [irl,Z2T,ZV] at hcc
 rw [show o.fs=_ from he,irl,Z2T,ZV]
 refine Sy.heap (fun w h9=>hf h9) ?_
 clear he hf
 refine Z9 (Za (Za (Zn (sqt 6 rfl (pur 1 rfl (sp rfl (PE.fA Z0r rfl) rfl (spL rfl rfl (lh sc3 rfl rfl) rfl ?_)))))))
 rw [show h.bins=((h.bins.toNat:Nat):Int) by omega]
 refine sp rfl (PE.slHi (h:=h.bins.toNat) Z36 rfl rfl (by omega)) rfl (pur 2 rfl (Z4 ?_))
 refine Sy.heap (fun w h9=>St.rowsTake (a:=ac) (sz:=1) (rows:=irows (wkR (wks h.gaps 0 (msk l)))) h9 h.bins.toNat) ?_
 have hwl:(h.weeksR l).1.length=h.bins.toNat:=by rw [e];show ((wkR (wks h.gaps 0 (msk l))).take h.bins.toNat).length=_;rw [List.length_take,Z2T,ZV];omega
 exact rtB rfl rfl rfl rfl ⟨ac,cc,by rw [hwl];omega,by rw [hwl,e]<;>rfl,rfl,show RowsA ac 1 ((irows (wkR (wks h.gaps 0 (msk l)))).take h.bins.toNat)::_=_ from by rw [Z4g,e];rfl⟩ drp
structure PL where
 a:Option Addr
 c:Nat
 l:List Int
def lls (l:List PL):List (List Int):=l.map (·.l)
theorem Seg.lt {gs:List Gp} {K sp:Nat} (hw:Wth gs 7):∀ {ls:List Nat} {m c m' c':Nat},Seg gs K sp m c ls m' c'→m<2 ^ 7→c<2 ^ gs.length→m'<2 ^ 7∧c'<2 ^ gs.length
 | [],m,c,m',c',⟨h1,h2⟩,h3,h4=>by subst h1;subst h2;exact ⟨h3,h4⟩
 | l::ls,m,c,m',c',⟨h1,h2⟩,h3,h4=>Seg.lt hw h2 (Z65 hw h3) (Nat.or_lt_two_pow h4 h1.1)
section steps
variable {P:Program} {r:Option Nat} {ops:Array Oper} {n:Nat} {L:Zk} {D:List Deferred} {H:Z7} {R:Z5} {K:Act→World→Prop}
 {i d:Nat} {ty:TypeId} {pos:String} {af:Array Edge}
end steps
def ZkO (pl:List PL) (k:Nat):List Int:=(lls (pl.take k)).flatten
theorem Z1y:cal Tryz.prog 20=true:=by kernel_rfl
theorem Zjn:cal Tryz.prog 56=true:=by kernel_rfl
theorem ZjR:ZF Tryz.prog 81=some 1:=by kernel_rfl
theorem ZkT:elN Tryz.prog 22=some 1:=by kernel_rfl
theorem Z7t:Z00 Tryz.prog 83 0=some 0:=by kernel_rfl
theorem Z3C:Z00 Tryz.prog 83 1=some 1:=by kernel_rfl
theorem Z0N:Z00 Tryz.prog 83 2=some 2:=by kernel_rfl
theorem ik3:Z8c Tryz.prog 3=some .i64:=by kernel_rfl
theorem ZkE:Z8c Tryz.prog 81=some .u32:=by kernel_rfl
theorem ZbP:Z3a Tryz.prog 22=true:=by kernel_rfl
theorem ZkX:ZM Tryz.prog 83=some [(0,1),(1,1),(2,1)]:=by kernel_rfl
theorem ZiH:Z0j Tryz.prog 22=true:=by kernel_rfl
theorem sc5:Z0j Tryz.prog 5=true:=by kernel_rfl
theorem ZaG:Z0j Tryz.prog 81=true:=by kernel_rfl
theorem us3:(Tryz.prog.underlying 3).isSome=true:=by kernel_rfl
theorem us5:(Tryz.prog.underlying 5).isSome=true:=by kernel_rfl
theorem ZiK:(Tryz.prog.underlying 81).isSome=true:=by kernel_rfl
theorem Zl2:Zw Tryz.prog 83=some ([.slice none 0 0,.int .i64 0,.int .u32 0]):=by kernel_rfl
def urow (x:Int):List Value:=[.int .u8 x]
def Z45 (l:List Int):List (List Value):=l.map urow
theorem ZcF (g:List Int) (ag:Option Addr) (cg:Nat) (hgl:g.length≤9223372036854775807) (H:Z7) (R:Z5) :
    Fn Tryz.prog 6 [.slice ag g.length cg] H R (fun v H' R'=>∃ bk,∃ mx:Int,(0≤mx∧mx≤4294967295)∧v = .pointer (some ⟨bk,0,none⟩)∧H'=(bk,cel 83 [.slice ag g.length cg,.int .i64 (0),.int .u32 (mx)])::H∧R'=R):=by
 refine Z8 Tryz.func6 rfl Tryz.ntmps6 rfl ?_
 refine sqt 1 rfl (pur 1 rfl (sqt 8 rfl (pur 2 rfl (sp rfl (PE.lenSl ZbP rfl) rfl ?_))))
 refine spE rfl (PE.convU us3 ZkE rfl) rfl ?_
 rintro _ ⟨u6,rfl,hu6⟩
 refine spE rfl (PE.xorU rfl rfl) rfl ?_
 rintro _ ⟨u7,rfl,hu7⟩
 refine sp rfl (PE.build (out:=[_,_,_]) ZkX Zl2 rfl rfl) rfl (bx rfl rfl rfl (fun b9=>pur 1 rfl (Z4 ?_)))
 exact rtA rfl rfl rfl ⟨b9,u7,hu7,rfl,rfl,rfl⟩ idH
theorem Z96 (g:List Int) (ag:Option Addr) (cg bk:Nat) (hgl:g.length≤9223372036854775807) (tq mx:Int) (htq:0≤tq∧tq≤1000000000) (hmx:0≤mx∧mx≤4294967295) (H:Z7) (R:Z5) [hG:MemRows ag 1 (Z45 g) R] :
    Fn Tryz.prog 56 [.pointer (some ⟨bk,0,none⟩)] ((bk,cel 83 [.slice ag g.length cg,.int .i64 (tq),.int .u32 (mx)])::H) R (fun v H' R'=>∃ x m':Int,(0≤x∧x≤65535)∧v = .int .i64 x∧(0≤m'∧m'≤4294967295)∧H'=(bk,cel 83 [.slice ag g.length cg,.int .i64 (tq+1),.int .u32 (m')])::H∧R'=R):=by
 refine Z8 Tryz.func56 rfl Tryz.ntmps56 rfl ?_
 refine sqt 1 rfl (pur 1 rfl (Z0 (sqt 6 rfl (pur 1 rfl (sp rfl (PE.nilCheck rfl) rfl (sp rfl (PE.fA Z7t rfl) rfl (spL rfl rfl (lh ZiH rfl rfl) rfl (sp rfl (PE.lenSl ZbP rfl) rfl (pur 1 rfl (sqt 2 rfl (pur 2 rfl ?_)))))))))))
 refine Z1 rfl ?_ ?_<;>intro hc0<;>try simp only [cS] at hc0
 obtain ⟨y,hy⟩:∃ y,g[(tq%g.length).toNat]?=some y:=⟨_,List.getElem?_eq_getElem (by have:=Int.emod_lt_of_pos tq hc0;have:=Int.emod_nonneg tq (show (g.length:Int)≠0 by omega);omega)⟩
 refine Zp (a:=ag) (sz:=1) (rows:=Z45 g) (by intro h0;simp [Z45] at h0;simp [h0] at hy) (fun bgr ogr he=>?_)
 subst he
 refine Zd [0,0,2,6,14,0,32,96,224,0,512,1536,3584,0,15872,32736,65504,131040,262142,524286,1048575,2097151,4194303] (tks 0 4 (.ld 4 (tks 5 3 (.ld 8 (tks 9 3 (.ld 12 (tks 13 3 (.ld 16 (tks 17 5 (.big 22 .done)))))))))) Zu (by kernel_rfl) ?_
 refine Zo 2 rfl (tk rfl (PE.nilCheck rfl) rfl (tk rfl (PE.fA Z0N rfl) rfl (ld rfl rfl (lh ZaG rfl rfl) rfl (Zo 1 rfl (tk rfl (PE.nilCheck rfl) rfl (tk rfl (PE.fA Z7t rfl) rfl (ld rfl rfl (lh ZiH rfl rfl) rfl (Zo 1 rfl (tk rfl (PE.nilCheck rfl) rfl (tk rfl (PE.fA Z3C rfl) rfl (ld rfl rfl (lh sc3 rfl rfl) rfl (Zo 1 rfl (tk rfl (PE.rem rfl rfl (by omega)) rfl (tk rfl (PE.indexAddr ZkT rfl rfl (by exact Int.emod_nonneg tq (by omega)) (by exact Int.emod_lt_of_pos tq hc0)) rfl (ld rfl rfl (lf0 (x:=.int .u8 y) sc5 (by simp [Z45,urow,hy];rfl) rfl) rfl ?_)))))))))))))))
 refine tkE rfl (PE.convU us5 ZkE rfl) rfl ?_
 rintro _ ⟨u28,rfl,hu28⟩
 refine tkE rfl (PE.xorU rfl rfl) rfl ?_
 rintro _ ⟨u29,rfl,hu29⟩
 refine tkE rfl (PE.mulU rfl rfl) rfl ?_
 rintro _ ⟨u30,rfl,hu30⟩
 refine tk rfl (PE.nilCheck rfl) rfl (tk rfl (PE.fA Z0N rfl) rfl ?_)
 refine sto rfl rfl rfl ZjR rfl rfl rfl rfl ?_
 refine bgT (sqt 8 rfl (pur 1 rfl (sp rfl (PE.nilCheck rfl) rfl (sp rfl (PE.fA Z3C rfl) rfl (spL rfl rfl (lh sc3 rfl rfl) rfl (sp rfl (PE.add rfl rfl (by omega)) rfl (sp rfl (PE.nilCheck rfl) rfl (sp rfl (PE.fA Z3C rfl) rfl ?_))))))))
 refine sto rfl rfl rfl cn3 rfl rfl rfl rfl ?_
 refine Z0 (Z0 ?_)
 refine Zd [0,1,3,7,0,16,48,112,240,511] (tks 0 3 (.ld 3 (tks 4 3 (.ld 7 (.tk 8 (.tk 9 .done)))))) Zu (by kernel_rfl) ?_
 refine Zo 1 rfl (tk rfl (PE.nilCheck rfl) rfl (tk rfl (PE.fA Z3C rfl) rfl (ld rfl rfl (lh sc3 rfl rfl) rfl (Zo 1 rfl (tk rfl (PE.nilCheck rfl) rfl (tk rfl (PE.fA Z7t rfl) rfl (ld rfl rfl (lh ZiH rfl rfl) rfl (tk rfl (PE.lenSl ZbP rfl) rfl (Zo 1 rfl ?_)))))))))
 refine Z1 rfl ?_ ?_<;>intro hc1<;>try simp only [cS] at hc1
 refine sqr 10 rfl (pur 2 rfl (sp rfl (PE.nilCheck rfl) rfl (sp rfl (PE.fA Z0N rfl) rfl (spL rfl rfl (lh ZaG rfl rfl) rfl ?_))))
 refine spE rfl (PE.mulU rfl rfl) rfl ?_
 rintro _ ⟨u55,rfl,hu55⟩
 refine spE rfl (PE.addU rfl rfl) rfl ?_
 rintro _ ⟨u56,rfl,hu56⟩
 refine sp rfl (PE.nilCheck rfl) rfl (sp rfl (PE.fA Z0N rfl) rfl ?_)
 refine sto rfl rfl rfl ZjR rfl rfl rfl rfl ?_
 refine Z0 ?_
 refine Zd [0,1,3,7,0,16,48,112,240,511,1023,2047,4095,8191] (tks 0 3 (.ld 3 (tks 4 3 (.ld 7 (tks 8 6 .done))))) Zu (by kernel_rfl) ?_
 refine Zo 1 rfl (tk rfl (PE.nilCheck rfl) rfl (tk rfl (PE.fA Z0N rfl) rfl (ld rfl rfl (lh ZaG rfl rfl) rfl (Zo 1 rfl (tk rfl (PE.nilCheck rfl) rfl (tk rfl (PE.fA Z0N rfl) rfl (ld rfl rfl (lh ZaG rfl rfl) rfl ?_)))))))
 refine tkE rfl (PE.shrU rfl rfl (by decide) (by omega) (by omega)) rfl ?_
 rintro _ ⟨u67,rfl,hu67⟩
 refine tkE rfl (PE.xorU rfl rfl) rfl ?_
 rintro _ ⟨u68,rfl,hu68⟩
 refine tkE rfl (PE.shrU rfl rfl (by decide) (by omega) (by omega)) rfl ?_
 rintro _ ⟨u69,rfl,hu69⟩
 refine tkE rfl (PE.andU rfl rfl (by decide) (by decide)) rfl ?_
 rintro _ ⟨u70,rfl,hu70⟩
 refine tk rfl (PE.conv64 ZiK ik3 rfl (by omega)) rfl (Zo 1 rfl (Z4 ?_))
 first
   | exact rtA rfl rfl rfl ⟨u70,_,hu70,rfl,hu56,rfl,rfl⟩ idH
   | exact rtA rfl rfl rfl ⟨u70,_,hu70,rfl,hu30,rfl,rfl⟩ idH
   | exact rtA rfl rfl rfl ⟨u70,_,hu70,rfl,hmx,rfl,rfl⟩ idH
 refine Z3 (Z0 ?_)
 refine Zd [0,1,3,7,0,16,48,112,240,511,1023,2047,4095,8191] (tks 0 3 (.ld 3 (tks 4 3 (.ld 7 (tks 8 6 .done))))) Zu (by kernel_rfl) ?_
 refine Zo 1 rfl (tk rfl (PE.nilCheck rfl) rfl (tk rfl (PE.fA Z0N rfl) rfl (ld rfl rfl (lh ZaG rfl rfl) rfl (Zo 1 rfl (tk rfl (PE.nilCheck rfl) rfl (tk rfl (PE.fA Z0N rfl) rfl (ld rfl rfl (lh ZaG rfl rfl) rfl ?_)))))))
 refine tkE rfl (PE.shrU rfl rfl (by decide) (by omega) (by omega)) rfl ?_
 rintro _ ⟨u67,rfl,hu67⟩
 refine tkE rfl (PE.xorU rfl rfl) rfl ?_
 rintro _ ⟨u68,rfl,hu68⟩
 refine tkE rfl (PE.shrU rfl rfl (by decide) (by omega) (by omega)) rfl ?_
 rintro _ ⟨u69,rfl,hu69⟩
 refine tkE rfl (PE.andU rfl rfl (by decide) (by decide)) rfl ?_
 rintro _ ⟨u70,rfl,hu70⟩
 refine tk rfl (PE.conv64 ZiK ik3 rfl (by omega)) rfl (Zo 1 rfl (Z4 ?_))
 first
   | exact rtA rfl rfl rfl ⟨u70,_,hu70,rfl,hu56,rfl,rfl⟩ idH
   | exact rtA rfl rfl rfl ⟨u70,_,hu70,rfl,hu30,rfl,rfl⟩ idH
   | exact rtA rfl rfl rfl ⟨u70,_,hu70,rfl,hmx,rfl,rfl⟩ idH
 refine Z3 (sqt 8 rfl (pur 1 rfl (sp rfl (PE.nilCheck rfl) rfl (sp rfl (PE.fA Z3C rfl) rfl (spL rfl rfl (lh sc3 rfl rfl) rfl (sp rfl (PE.add rfl rfl (by omega)) rfl (sp rfl (PE.nilCheck rfl) rfl (sp rfl (PE.fA Z3C rfl) rfl ?_))))))))
 refine sto rfl rfl rfl cn3 rfl rfl rfl rfl ?_
 refine Z0 (Z0 ?_)
 refine Zd [0,1,3,7,0,16,48,112,240,511] (tks 0 3 (.ld 3 (tks 4 3 (.ld 7 (.tk 8 (.tk 9 .done)))))) Zu (by kernel_rfl) ?_
 refine Zo 1 rfl (tk rfl (PE.nilCheck rfl) rfl (tk rfl (PE.fA Z3C rfl) rfl (ld rfl rfl (lh sc3 rfl rfl) rfl (Zo 1 rfl (tk rfl (PE.nilCheck rfl) rfl (tk rfl (PE.fA Z7t rfl) rfl (ld rfl rfl (lh ZiH rfl rfl) rfl (tk rfl (PE.lenSl ZbP rfl) rfl (Zo 1 rfl ?_)))))))))
 refine Z1 rfl ?_ ?_<;>intro hc1<;>try simp only [cS] at hc1
 refine sqr 10 rfl (pur 2 rfl (sp rfl (PE.nilCheck rfl) rfl (sp rfl (PE.fA Z0N rfl) rfl (spL rfl rfl (lh ZaG rfl rfl) rfl ?_))))
 refine spE rfl (PE.mulU rfl rfl) rfl ?_
 rintro _ ⟨u55,rfl,hu55⟩
 refine spE rfl (PE.addU rfl rfl) rfl ?_
 rintro _ ⟨u56,rfl,hu56⟩
 refine sp rfl (PE.nilCheck rfl) rfl (sp rfl (PE.fA Z0N rfl) rfl ?_)
 refine sto rfl rfl rfl ZjR rfl rfl rfl rfl ?_
 refine Z0 ?_
 refine Zd [0,1,3,7,0,16,48,112,240,511,1023,2047,4095,8191] (tks 0 3 (.ld 3 (tks 4 3 (.ld 7 (tks 8 6 .done))))) Zu (by kernel_rfl) ?_
 refine Zo 1 rfl (tk rfl (PE.nilCheck rfl) rfl (tk rfl (PE.fA Z0N rfl) rfl (ld rfl rfl (lh ZaG rfl rfl) rfl (Zo 1 rfl (tk rfl (PE.nilCheck rfl) rfl (tk rfl (PE.fA Z0N rfl) rfl (ld rfl rfl (lh ZaG rfl rfl) rfl ?_)))))))
 refine tkE rfl (PE.shrU rfl rfl (by decide) (by omega) (by omega)) rfl ?_
 rintro _ ⟨u67,rfl,hu67⟩
 refine tkE rfl (PE.xorU rfl rfl) rfl ?_
 rintro _ ⟨u68,rfl,hu68⟩
 refine tkE rfl (PE.shrU rfl rfl (by decide) (by omega) (by omega)) rfl ?_
 rintro _ ⟨u69,rfl,hu69⟩
 refine tkE rfl (PE.andU rfl rfl (by decide) (by decide)) rfl ?_
 rintro _ ⟨u70,rfl,hu70⟩
 refine tk rfl (PE.conv64 ZiK ik3 rfl (by omega)) rfl (Zo 1 rfl (Z4 ?_))
 first
   | exact rtA rfl rfl rfl ⟨u70,_,hu70,rfl,hu56,rfl,rfl⟩ idH
   | exact rtA rfl rfl rfl ⟨u70,_,hu70,rfl,hu30,rfl,rfl⟩ idH
   | exact rtA rfl rfl rfl ⟨u70,_,hu70,rfl,hmx,rfl,rfl⟩ idH
 refine Z3 (Z0 ?_)
 refine Zd [0,1,3,7,0,16,48,112,240,511,1023,2047,4095,8191] (tks 0 3 (.ld 3 (tks 4 3 (.ld 7 (tks 8 6 .done))))) Zu (by kernel_rfl) ?_
 refine Zo 1 rfl (tk rfl (PE.nilCheck rfl) rfl (tk rfl (PE.fA Z0N rfl) rfl (ld rfl rfl (lh ZaG rfl rfl) rfl (Zo 1 rfl (tk rfl (PE.nilCheck rfl) rfl (tk rfl (PE.fA Z0N rfl) rfl (ld rfl rfl (lh ZaG rfl rfl) rfl ?_)))))))
 refine tkE rfl (PE.shrU rfl rfl (by decide) (by omega) (by omega)) rfl ?_
 rintro _ ⟨u67,rfl,hu67⟩
 refine tkE rfl (PE.xorU rfl rfl) rfl ?_
 rintro _ ⟨u68,rfl,hu68⟩
 refine tkE rfl (PE.shrU rfl rfl (by decide) (by omega) (by omega)) rfl ?_
 rintro _ ⟨u69,rfl,hu69⟩
 refine tkE rfl (PE.andU rfl rfl (by decide) (by decide)) rfl ?_
 rintro _ ⟨u70,rfl,hu70⟩
 refine tk rfl (PE.conv64 ZiK ik3 rfl (by omega)) rfl (Zo 1 rfl (Z4 ?_))
 first
   | exact rtA rfl rfl rfl ⟨u70,_,hu70,rfl,hu56,rfl,rfl⟩ idH
   | exact rtA rfl rfl rfl ⟨u70,_,hu70,rfl,hu30,rfl,rfl⟩ idH
   | exact rtA rfl rfl rfl ⟨u70,_,hu70,rfl,hmx,rfl,rfl⟩ idH
theorem Z02 (g:List Int) (ag:Option Addr) (cg bk:Nat) (hgl:g.length≤9223372036854775807) (tq mx:Int) (htq:0≤tq∧tq≤1000000000) (hmx:0≤mx∧mx≤4294967295) (n:Int) (H:Z7) (R:Z5) [hG:MemRows ag 1 (Z45 g) R] :
    Fn Tryz.prog 20 [.pointer (some ⟨bk,0,none⟩),.int .i64 n] ((bk,cel 83 [.slice ag g.length cg,.int .i64 (tq),.int .u32 (mx)])::H) R (fun v H' R'=>∃ x m':Int,(0≤x∧x<max 1 n)∧v = .int .i64 x∧(0≤m'∧m'≤4294967295)∧H'=(bk,cel 83 [.slice ag g.length cg,.int .i64 (tq+1),.int .u32 (m')])::H∧R'=R):=by
 refine Z8 Tryz.func20 rfl Tryz.ntmps20 rfl ?_
 refine sqt 1 rfl (pur 1 rfl (sqt 6 rfl (pur 1 rfl ?_)))
 refine cl rfl Zjn rfl rfl (Z96 g ag cg bk hgl tq mx htq hmx _ _) ?_
 rintro _ _ _ ⟨x,m',hx,rfl,hm',rfl,rfl⟩
 refine pur 1 rfl (sp rfl (PE.max rfl rfl) rfl (sp rfl (PE.rem rfl rfl (by omega)) rfl (pur 1 rfl (Z4 ?_))))
 exact rtA rfl rfl rfl ⟨_,m',⟨Int.emod_nonneg _ (by omega),Int.emod_lt_of_pos _ (by omega)⟩,rfl,hm',rfl,rfl⟩ idH
theorem Z3l (g:List Int) (ag:Option Addr) (cg bk:Nat) (hgl:g.length≤9223372036854775807) (tq mx:Int) (htq:0≤tq∧tq≤1000000000) (hmx:0≤mx∧mx≤4294967295) (lo hi:Int) (hb : -1000000≤lo∧lo≤1000000 ∧ -1000000≤hi∧hi≤1000000) (H:Z7) (R:Z5) [hG:MemRows ag 1 (Z45 g) R] :
    Fn Tryz.prog 19 [.pointer (some ⟨bk,0,none⟩),.int .i64 lo,.int .i64 hi] ((bk,cel 83 [.slice ag g.length cg,.int .i64 (tq),.int .u32 (mx)])::H) R (fun v H' R'=>∃ x m':Int,(lo≤x∧x<lo+max 1 (hi-lo+1))∧v = .int .i64 x∧(0≤m'∧m'≤4294967295)∧H'=(bk,cel 83 [.slice ag g.length cg,.int .i64 (tq+1),.int .u32 (m')])::H∧R'=R):=by
 refine Z8 Tryz.func19 rfl Tryz.ntmps19 rfl ?_
 refine sqt 1 rfl (pur 1 rfl (sqt 9 rfl (pur 4 rfl (sp rfl (PE.sub rfl rfl (by omega)) rfl (sp rfl (PE.add rfl rfl (by omega)) rfl ?_)))))
 refine cl rfl Z1y rfl rfl (Z02 g ag cg bk hgl tq mx htq hmx (hi-lo+1) _ _) ?_
 rintro _ _ _ ⟨x,m',hx,rfl,hm',rfl,rfl⟩
 refine sp rfl (PE.add rfl rfl (by omega)) rfl (pur 1 rfl (Z4 ?_))
 exact rtA rfl rfl rfl ⟨lo+x,m',⟨by omega,by omega⟩,rfl,hm',rfl,rfl⟩ idH
theorem Z8M (g:List Int) (ag:Option Addr) (cg bk:Nat) (hgl:g.length≤9223372036854775807) (tq mx:Int) (htq:0≤tq∧tq≤1000000000) (hmx:0≤mx∧mx≤4294967295) (n:Int) (H:Z7) (R:Z5) [hG:MemRows ag 1 (Z45 g) R] :
    Fn Tryz.prog 50 [.pointer (some ⟨bk,0,none⟩),.int .i64 n] ((bk,cel 83 [.slice ag g.length cg,.int .i64 (tq),.int .u32 (mx)])::H) R (fun v H' R'=>∃ (x:Bool) (m':Int),v = .bool x∧(0≤m'∧m'≤4294967295)∧H'=(bk,cel 83 [.slice ag g.length cg,.int .i64 (tq+1),.int .u32 (m')])::H∧R'=R):=by
 refine Z8 Tryz.func50 rfl Tryz.ntmps50 rfl ?_
 refine sqt 1 rfl (pur 1 rfl (sqt 5 rfl (pur 2 rfl ?_)))
 refine cl rfl Z1y rfl rfl (Z02 g ag cg bk hgl tq mx htq hmx n _ _) ?_
 rintro _ _ _ ⟨x,m',hx,rfl,hm',rfl,rfl⟩
 refine pur 2 rfl (Z4 ?_)
 exact rtA rfl rfl rfl ⟨_,m',rfl,hm',rfl,rfl⟩ idH
theorem ZiT:apT Tryz.prog 59=some (130,2,16):=by kernel_rfl
theorem Z80:cal Tryz.prog 19=true:=by kernel_rfl
theorem ZdY:cal Tryz.prog 50=true:=by kernel_rfl
theorem ZkC:ZF Tryz.prog 59=some 1:=by kernel_rfl
theorem Z24:ZF Tryz.prog 62=some 3:=by kernel_rfl
theorem Z4Y:ZM Tryz.prog 62=some [(0,1),(1,1),(2,1)]:=by kernel_rfl
theorem Zko:slE Tryz.prog 59=some (130,2):=by kernel_rfl
theorem Z2e:Zw Tryz.prog 62=some ([.int .i64 0,.slice none 0 0,.slice none 0 0]):=by kernel_rfl
theorem Z89 {p q:Nat→Bool} {k:Nat} (h:∀ j<k,p j=q j):Z0A p k=Z0A q k:=by
 unfold Z0A
 rw [List.filter_congr fun j hj=>h j (List.mem_range.1 hj)]
theorem Z7o (p:Nat→Bool) (k:Nat) (b:Bool):Z0A (fun j=>bif decide (j=k) then b else p j) (k+1)=Z0A p k++bif b then [(k:Int)] else []:=by
 rw [Z3x,Z89 (q:=p) fun j hj=>by rw [decide_eq_false (show ¬ j=k by omega)];rfl,decide_eq_true rfl];rfl
theorem fltK_mem {p:Nat→Bool} {n:Nat} {j:Int}:j∈Z0A p n↔∃ k:Nat,k<n∧p k=true∧j=k:=by
 unfold Z0A
 rw [List.mem_map]
 constructor
 · rintro ⟨k,h1,h2⟩
   rw [List.mem_filter,List.mem_range] at h1
   exact ⟨k,h1.1,h1.2,h2.symm⟩
 · rintro ⟨k,h1,h2,rfl⟩;exact ⟨k,List.mem_filter.2 ⟨List.mem_range.2 h1,h2⟩,rfl⟩
theorem ZbF (p:Nat→Bool) (n:Nat):(Z0A p n).Pairwise (· < ·):=(List.pairwise_lt_range.filter _).map _ fun a b h=>by omega
theorem Z8a (p:Nat→Bool) (n:Nat):(Z0A p n).Nodup:=List.nodup_iff_pairwise_ne.2 ((ZbF p n).imp fun h=>by omega)
theorem Za1 (p:Nat→Bool) {n:Int} (hn:0≤n):∀ x∈Z0A p n.toNat,0≤x∧x<n:=fun x hx=>by
 obtain ⟨k,h1,_,rfl⟩:=fltK_mem.1 hx;omega
theorem Zel (p:Nat→Bool) {n:Int} (hn:0≤n):Z1S n (Z0A p n.toNat)=0:=ZbS (Za1 p hn) (Z8a p _)
structure MadeW (h:Hse) (nb ng:Int):Prop where
 bins:2≤h.bins∧h.bins≤nb
 gl:(h.gaps.length:Int)≤ng
 gaps:∀ g∈h.gaps,(0≤g.a∧g.a<h.bins)∧(0≤g.b∧g.b<h.bins)∧g.a≠g.b
 none:h.sights=[]
theorem MadeW.ok {h:Hse} {nb ng:Int} (hm:MadeW h nb ng) (h1:nb≤7) (h2:ng≤10):h.ok:=⟨by have:=hm.bins;omega,by have:=hm.gl;omega,by rw [hm.none];exact Nat.zero_le _,hm.gaps,by rw [hm.none];simp⟩
def ini (f:Nat→Int) (n k:Nat):List Int:=(List.range n).map fun j=>bif decide (j<k) then f j else 0
theorem Zeu (f:Nat→Int) (n k:Nat):(ini f n k).length=n:=by simp [ini]
theorem ZhV {f:Nat→Int} {n k j:Nat} (hj:j<n):na (ini f n k) j=bif decide (j<k) then f j else 0:=by
 unfold na ini
 rw [List.getD_eq_getElem?_getD,List.getElem?_map,List.getElem?_range hj];rfl
def clP (pl:List PL) (t:Nat):Nat:=msk (ZkO pl (t+1))
def in0 (fr:List Int) (j:Nat):Int:=bif Z4f fr j then 0 else 100
theorem Zet {l:List Int} (h:∀ x∈l,0≤x) (j:Nat):Z4f l (j:Int)=(msk l).testBit j:=by rw [Bool.eq_iff_iff,hasI_iff,Z1c h]
theorem FolI.start {gs:List Gp} {cl:Nat→Nat} {fr:List Int} (h:∀ x∈fr,0≤x) (n:Nat):FolI gs cl (msk fr) n 0 (Z6k gs (cl 0) (lvp gs cl (msk fr) 0) 0) (ini (in0 fr) n n):=⟨Zeu _ _ _,fun k hk=>by
 rw [ZhV hk,decide_eq_true hk,cond_true]
 unfold in0
 rw [Zet h]
 show _=bif (msk fr).testBit k then fol gs cl (msk fr) 0 k else bif (msk fr).testBit k then _ else 100
 cases hb:(msk fr).testBit k with
 | false=>rfl
 | true =>
   rw [cond_true,cond_true]
   exact (Z7w (t:=0) (Nat.le_refl _) hb (fun i hi=>absurd hi (Nat.not_lt_zero _))).symm⟩
theorem ZfF (l0:List Int) (a0:Option Addr) (c0 bk:Nat) (hgl:l0.length≤9223372036854775807) (tq mx:Int) (htq:0≤tq∧tq≤1000000) (hmx:0≤mx∧mx≤4294967295) (nb ng:Int) (hnb:2≤nb∧nb≤7) (hng:0≤ng∧ng≤10) (H:Z7) (R:Z5) [hG:MemRows a0 1 (Z45 l0) R] :
    Fn Tryz.prog 17 [.pointer (some ⟨bk,0,none⟩),.int .i64 nb,.int .i64 ng] ((bk,cel 83 [.slice a0 l0.length c0,.int .i64 (tq),.int .u32 (mx)])::H) R (fun v H' R'=>∃ (h:Hse) (p:Nat→Bool) (ag ar:Option Addr) (cg cr:Nat) (tq' mx':Int),MadeW h nb ng∧h.gaps.length≤cg∧(Z0A p h.bins.toNat).length≤cr∧v = .tuple #[h.v (h.sg ag cg) (h.ss none 0),.slice ar (Z0A p h.bins.toNat).length cr]∧(tq≤tq'∧tq'≤tq+100)∧(0≤mx'∧mx'≤4294967295)∧H'=(bk,cel 83 [.slice a0 l0.length c0,.int .i64 (tq'),.int .u32 (mx')])::H∧R'=RowsA none 3 (Zs h.sights)::RowsA ar 1 (irows (Z0A p h.bins.toNat))::RowsA ag 2 (Zy h.gaps)::R):=by
 refine Z8 Tryz.func17 rfl Tryz.ntmps17 rfl ?_
 refine sqt 2 rfl (alc rfl Z2e rfl (fun b6=>pur 1 rfl (sqt 6 rfl (pur 2 rfl ?_))))
 refine ZQ bk ?_
 refine cl rfl Z80 rfl rfl (Z3l l0 a0 c0 bk hgl _ _ (by omega) (by assumption) (2) (nb) (by first | omega | (dsimp only;omega)) _ _) ?_
 rintro _ _ R1 ⟨x15,m15,hx15,rfl,hm15,rfl,hR1⟩
 obtain rfl:=hR1.symm
 refine sp rfl (PE.build (out:=htl ⟨x15,[],[]⟩ (.slice none 0 0) (.slice none 0 0)) Z4Y Z2e rfl rfl) rfl (alc rfl Z2e rfl (fun b8=>?_))
 refine sto rfl rfl rfl Z24 rfl rfl rfl rfl ?_
 refine Z0 (sqt 5 rfl ?_)
 refine ZQ bk ?_
 refine pur 2 rfl (sp rfl (PE.add rfl rfl (by omega)) rfl ?_)
 refine cl rfl Z1y rfl rfl (Z02 l0 a0 c0 bk hgl _ _ (by omega) (by assumption) (ng+1) _ _) ?_
 rintro _ _ R1 ⟨x20,m20,hx20,rfl,hm20,rfl,hR1⟩
 obtain rfl:=hR1.symm
 refine pur 1 rfl (Z2 ?_)
 obtain ⟨n20,rfl⟩:∃ n:Nat,x20=n:=⟨x20.toNat,by omega⟩
 refine Zc (ι:=(x:{x:Nat×List Gp×Int×Int // x.1≤n20∧(x.2.1.length=x.1∧∀ g∈x.2.1,((0≤g.a∧g.a<x15)∧(0≤g.b∧g.b<x15)∧g.a≠g.b))∧(tq≤x.2.2.1∧x.2.2.1≤tq+2+2*x.1)∧(0≤x.2.2.2∧x.2.2.2≤4294967295)})×OSl 130 2 (Zy x.1.2.1)) (fun x=>⟨[(0,.pointer (some ⟨bk,0,none⟩)),(6,.pointer (some ⟨b6,0,none⟩)),(8,.pointer (some ⟨b8,0,none⟩)),(20,.int .i64 n20),(21,.int .i64 x.1.1.1)],
   (bk,cel 83 [.slice a0 l0.length c0,.int .i64 (x.1.1.2.2.1),.int .u32 (x.1.1.2.2.2)])::(x.2.G++(b8,cel 62 (htl ⟨x15,x.1.1.2.1,[]⟩ x.2.fs (.slice none 0 0)))::(b6,cel 62 [.int .i64 0,.slice none 0 0,.slice none 0 0])::H),R⟩) (fun x=>n20-x.1.1.1) ⟨⟨(0,[],tq+1+1,m20),by omega,⟨rfl,by simp⟩,by dsimp only;omega,by assumption⟩,OSl.nil _ _⟩ ?_ (fun x=>?_)
 exact Zi idH
 ·
  obtain ⟨⟨⟨k,l,tq2,mx2⟩,hk,⟨hll,hlg⟩,htq2,hmx2⟩,o⟩:=x
  dsimp only at hk hll hlg htq2 hmx2 o ⊢
  refine sqt 1 rfl (pur 1 rfl (Z0 ?_))
  refine Z1 rfl ?_ ?_<;>intro hc0<;>try simp only [cS] at hc0
  ·
   have hrm:0≤(k:Int)%x15∧(k:Int)%x15<x15:=⟨Int.emod_nonneg _ (by omega),Int.emod_lt_of_pos _ (by omega)⟩
   refine Z3 (Z0 (Z2 (sqt 2 rfl (pur 2 rfl (Z0 ?_)))))
   refine Zd [0,0,2,7,0,0,32,112,255,0,1023] (.tk 0 (.tk 1 (.ld 2 (tks 3 3 (.ld 6 (.any (.alt 7 (.tk 8 (.big 9 (.big 10 .done))) (.alt 9 (.big 7 (.tk 8 (.big 10 .done))) .stop)))))))) Zu (by kernel_rfl) ?_
   refine Zo 1 rfl (tk rfl (PE.fA Z0r rfl) rfl (ld rfl rfl (lh (v:=.int .i64 x15) sc3 rfl rfl) rfl (tk rfl (PE.rem rfl rfl (by omega)) rfl (Zo 1 rfl (tk rfl (PE.fA Z0r rfl) rfl (ld rfl rfl (lh (v:=.int .i64 x15) sc3 rfl rfl) rfl ?_))))))
   refine Zm ?_ ?_
   ·
    refine ZQ bk ?_
    refine cl rfl Z1y rfl rfl (Z02 l0 a0 c0 bk hgl _ _ (by omega) (by assumption) (x15) _ _) ?_
    rintro _ _ R1 ⟨x31,m31,hx31,rfl,hm31,rfl,hR1⟩
    obtain rfl:=hR1.symm
    refine bg (fun w hs=>⟨trivial,(lh (v:=.int .i64 x15) sc3 rfl rfl) w hs,trivial⟩) ?_
    refine tk rfl (PE.build (out:=[.int .i64 ((k:Int)%x15),.int .i64 x31]) ZeL Z6e rfl rfl) rfl (alc rfl Z6e rfl (fun b10=>?_))
    refine bg (fun w hs=>⟨(lh (v:=.int .i64 x15) sc3 rfl rfl) w hs,trivial⟩) ?_
    refine sto rfl rfl rfl Ze4 rfl rfl rfl rfl ?_
    refine bgT (Z0 (sqt 5 rfl (sp rfl (PE.fA Z0E rfl) rfl (spL rfl rfl (lh sc3 rfl rfl) rfl (sp rfl (PE.fA Z0b rfl) rfl (spL rfl rfl (lh sc3 rfl rfl) rfl (pur 1 rfl ?_)))))))
    refine Z3R (ι:={x:Int×Int // ((0≤x.1∧x.1<x15)∧(0≤x.2∧x.2<x15)∧x.1≠x.2)}) (fun x=>⟨[(0,.pointer (some ⟨bk,0,none⟩)),(6,.pointer (some ⟨b6,0,none⟩)),(8,.pointer (some ⟨b8,0,none⟩)),(10,.pointer (some ⟨b10,0,none⟩)),(20,.int .i64 n20),(21,.int .i64 k)],(b10,cel 130 [.int .i64 (x.1.1),.int .i64 (x.1.2)])::(bk,cel 83 [.slice a0 l0.length c0,.int .i64 (tq2+1),.int .u32 (m31)])::(o.G++(b8,cel 62 (htl ⟨x15,l,[]⟩ o.fs (.slice none 0 0)))::(b6,cel 62 [.int .i64 0,.slice none 0 0,.slice none 0 0])::H),R⟩) ?_ ?_
    ·
     refine Z1 rfl ?_ ?_<;>intro hc1<;>try simp only [cS] at hc1
     ·
      have hr2:0≤(x31+1)%x15∧(x31+1)%x15<x15:=⟨Int.emod_nonneg _ (by omega),Int.emod_lt_of_pos _ (by omega)⟩
      have hne:(x31+1)%x15≠x31:=by
        rcases Int.lt_or_le (x31+1) x15 with h9 | h9
        · rw [Int.emod_eq_of_lt (by omega) h9];omega
        · rw [show x31+1=x15 by omega,Int.emod_self];omega
      refine sqr 8 rfl (sp rfl (PE.fA Z0b rfl) rfl (spL rfl rfl (lh sc3 rfl rfl) rfl (sp rfl (PE.add rfl rfl (by omega)) rfl (sp rfl (PE.fA Z0r rfl) rfl (spL rfl rfl (lh (v:=.int .i64 x15) sc3 rfl rfl) rfl (sp rfl (PE.rem rfl rfl (by omega)) rfl (sp rfl (PE.fA Z0b rfl) rfl ?_)))))))
      refine ZU (l':=[.int .i64 ((k:Int)%x15),.int .i64 ((x31+1)%x15)]) rfl rfl rfl cn3 rfl rfl rfl rfl (nl rfl) ?_
      exact ZX ⟨((k:Int)%x15,(x31+1)%x15),⟨hrm,hr2,by dsimp only;omega⟩⟩ (fun w h9=>h9.perm (by first | exact .refl _ | exact List.Perm.swap _ _ _))
     ·
      refine Z3 ?_
      exact ZX ⟨((k:Int)%x15,x31),⟨hrm,by dsimp only;omega,by dsimp only;omega⟩⟩ (fun w h9=>h9.perm (by first | exact .refl _ | exact List.Perm.swap _ _ _))
    rintro ⟨⟨ga,gb⟩,hgo⟩
    dsimp only at hgo ⊢
    refine Z0 (sqt 2 rfl ?_)
    refine ZQ bk ?_
    refine pur 1 rfl ?_
    refine cl rfl ZdY rfl rfl (Z8M l0 a0 c0 bk hgl _ _ (by omega) (by assumption) (2) _ _) ?_
    rintro _ _ R1 ⟨x46,m46,rfl,hm46,rfl,hR1⟩
    obtain rfl:=hR1.symm
    refine Z3R (ι:={x:Int×Int // ((0≤x.1∧x.1<x15)∧(0≤x.2∧x.2<x15)∧x.1≠x.2)}) (fun x=>⟨[(0,.pointer (some ⟨bk,0,none⟩)),(6,.pointer (some ⟨b6,0,none⟩)),(8,.pointer (some ⟨b8,0,none⟩)),(10,.pointer (some ⟨b10,0,none⟩)),(20,.int .i64 n20),(21,.int .i64 k)],(bk,cel 83 [.slice a0 l0.length c0,.int .i64 (tq2+1+1),.int .u32 (m46)])::(b10,cel 130 [.int .i64 (x.1.1),.int .i64 (x.1.2)])::(o.G++(b8,cel 62 (htl ⟨x15,l,[]⟩ o.fs (.slice none 0 0)))::(b6,cel 62 [.int .i64 0,.slice none 0 0,.slice none 0 0])::H),R⟩) ?_ ?_
    refine Z1 rfl ?_ ?_<;>intro hc2
    refine sqr 8 rfl (sp rfl (PE.fA Z0b rfl) rfl (spL rfl rfl (lh sc3 rfl rfl) rfl (sp rfl (PE.fA Z0E rfl) rfl (spL rfl rfl (lh sc3 rfl rfl) rfl (sp rfl (PE.fA Z0E rfl) rfl ?_)))))
    refine ZU (l':=[.int .i64 (gb),.int .i64 (gb)]) rfl rfl rfl cn3 rfl rfl rfl rfl (nl rfl) ?_
    refine sp rfl (PE.fA Z0b rfl) rfl ?_
    refine ZU (l':=[.int .i64 (gb),.int .i64 (ga)]) rfl rfl rfl cn3 rfl rfl rfl rfl (nl rfl) ?_
    first | exact ZX ⟨(gb,ga),⟨hgo.2.1,hgo.1,Ne.symm hgo.2.2⟩⟩ idH | exact ZX ⟨(ga,gb),hgo⟩ idH
    refine Z3 ?_
    first | exact ZX ⟨(gb,ga),⟨hgo.2.1,hgo.1,Ne.symm hgo.2.2⟩⟩ idH | exact ZX ⟨(ga,gb),hgo⟩ idH
    rintro ⟨⟨ua,ub⟩,hgo2⟩
    dsimp only at hgo2 ⊢
    refine sqr 7 rfl (sp rfl (PE.fA Z2l rfl) rfl (spL rfl rfl (lh ZaF rfl rfl) rfl (spL rfl rfl (lhA [.int .i64 ua,.int .i64 ub] Z7U rfl rfl rfl) rfl ?_)))
    refine bsl (out:=[_,_]) rfl Zko Z6e rfl rfl rfl rfl rfl rfl (fun b56=>?_)
    refine apO (o) rfl ZiT rfl rfl (Z0l (row:=Z5n ⟨ua,ub⟩) rfl) rfl rfl ((by rw [Z05];simp only [List.length_singleton];omega)) rfl (fun o57=>?_)
    refine sp rfl (PE.fA Z2l rfl) rfl ?_
    refine ZU (l':=htl ⟨x15,l++[⟨ua,ub⟩],[]⟩ o57.fs (.slice none 0 0)) rfl rfl rfl ZkC rfl (by rw [o57.cells.1];first | done | rfl) (by rw [o57.cells.1];simp [o57.cells.2]) (by rw [o57.cells.1];first | done | rfl) (by rw [o57.cells.1];first | done | exact Nat.le_of_ble_eq_true rfl) ?_
    refine sqr 2 rfl (sp rfl (PE.add rfl rfl (by omega)) rfl (pur 1 rfl ?_))
    exact Z6 ⟨⟨(k+1,l++[⟨ua,ub⟩],tq2+1+1,m46),by dsimp only;omega,⟨by simp [hll],fun g hg=>(List.mem_append.1 hg).elim (hlg g) (fun h9=>by rw [List.mem_singleton.1 h9];exact hgo2)⟩,by dsimp only;omega,by assumption⟩,o57.cast (by simp [Zy])⟩ (fun w h9=>((h9.del b56).del b10).perm (by first | exact .refl _ | exact (ZJ _ [_] _).symm))
   refine Zm ?_ ?_
   ·
    refine alc rfl Z6e rfl (fun b10=>?_)
    refine bg (fun w hs=>⟨(lh (v:=.int .i64 x15) sc3 rfl rfl) w hs,(lh (v:=.int .i64 x15) sc3 rfl rfl) w hs,trivial⟩) ?_
    refine ZQ bk ?_
    refine cl rfl Z1y rfl rfl (Z02 l0 a0 c0 bk hgl _ _ (by omega) (by assumption) (x15) _ _) ?_
    rintro _ _ R1 ⟨x31,m31,hx31,rfl,hm31,rfl,hR1⟩
    obtain rfl:=hR1.symm
    refine bg (fun w hs=>⟨trivial,(lh (v:=.int .i64 x15) sc3 rfl rfl) w hs,trivial⟩) ?_
    refine tk rfl (PE.build (out:=[.int .i64 ((k:Int)%x15),.int .i64 x31]) ZeL Z6e rfl rfl) rfl ?_
    refine sto rfl rfl rfl Ze4 rfl rfl rfl rfl ?_
    refine bgT (Z0 (sqt 5 rfl (sp rfl (PE.fA Z0E rfl) rfl (spL rfl rfl (lh sc3 rfl rfl) rfl (sp rfl (PE.fA Z0b rfl) rfl (spL rfl rfl (lh sc3 rfl rfl) rfl (pur 1 rfl ?_)))))))
    refine Z3R (ι:={x:Int×Int // ((0≤x.1∧x.1<x15)∧(0≤x.2∧x.2<x15)∧x.1≠x.2)}) (fun x=>⟨[(0,.pointer (some ⟨bk,0,none⟩)),(6,.pointer (some ⟨b6,0,none⟩)),(8,.pointer (some ⟨b8,0,none⟩)),(10,.pointer (some ⟨b10,0,none⟩)),(20,.int .i64 n20),(21,.int .i64 k)],(b10,cel 130 [.int .i64 (x.1.1),.int .i64 (x.1.2)])::(bk,cel 83 [.slice a0 l0.length c0,.int .i64 (tq2+1),.int .u32 (m31)])::(o.G++(b8,cel 62 (htl ⟨x15,l,[]⟩ o.fs (.slice none 0 0)))::(b6,cel 62 [.int .i64 0,.slice none 0 0,.slice none 0 0])::H),R⟩) ?_ ?_
    ·
     refine Z1 rfl ?_ ?_<;>intro hc1<;>try simp only [cS] at hc1
     ·
      have hr2:0≤(x31+1)%x15∧(x31+1)%x15<x15:=⟨Int.emod_nonneg _ (by omega),Int.emod_lt_of_pos _ (by omega)⟩
      have hne:(x31+1)%x15≠x31:=by
        rcases Int.lt_or_le (x31+1) x15 with h9 | h9
        · rw [Int.emod_eq_of_lt (by omega) h9];omega
        · rw [show x31+1=x15 by omega,Int.emod_self];omega
      refine sqr 8 rfl (sp rfl (PE.fA Z0b rfl) rfl (spL rfl rfl (lh sc3 rfl rfl) rfl (sp rfl (PE.add rfl rfl (by omega)) rfl (sp rfl (PE.fA Z0r rfl) rfl (spL rfl rfl (lh (v:=.int .i64 x15) sc3 rfl rfl) rfl (sp rfl (PE.rem rfl rfl (by omega)) rfl (sp rfl (PE.fA Z0b rfl) rfl ?_)))))))
      refine ZU (l':=[.int .i64 ((k:Int)%x15),.int .i64 ((x31+1)%x15)]) rfl rfl rfl cn3 rfl rfl rfl rfl (nl rfl) ?_
      exact ZX ⟨((k:Int)%x15,(x31+1)%x15),⟨hrm,hr2,by dsimp only;omega⟩⟩ (fun w h9=>h9.perm (by first | exact .refl _ | exact List.Perm.swap _ _ _))
     ·
      refine Z3 ?_
      exact ZX ⟨((k:Int)%x15,x31),⟨hrm,by dsimp only;omega,by dsimp only;omega⟩⟩ (fun w h9=>h9.perm (by first | exact .refl _ | exact List.Perm.swap _ _ _))
    rintro ⟨⟨ga,gb⟩,hgo⟩
    dsimp only at hgo ⊢
    refine Z0 (sqt 2 rfl ?_)
    refine ZQ bk ?_
    refine pur 1 rfl ?_
    refine cl rfl ZdY rfl rfl (Z8M l0 a0 c0 bk hgl _ _ (by omega) (by assumption) (2) _ _) ?_
    rintro _ _ R1 ⟨x46,m46,rfl,hm46,rfl,hR1⟩
    obtain rfl:=hR1.symm
    refine Z3R (ι:={x:Int×Int // ((0≤x.1∧x.1<x15)∧(0≤x.2∧x.2<x15)∧x.1≠x.2)}) (fun x=>⟨[(0,.pointer (some ⟨bk,0,none⟩)),(6,.pointer (some ⟨b6,0,none⟩)),(8,.pointer (some ⟨b8,0,none⟩)),(10,.pointer (some ⟨b10,0,none⟩)),(20,.int .i64 n20),(21,.int .i64 k)],(bk,cel 83 [.slice a0 l0.length c0,.int .i64 (tq2+1+1),.int .u32 (m46)])::(b10,cel 130 [.int .i64 (x.1.1),.int .i64 (x.1.2)])::(o.G++(b8,cel 62 (htl ⟨x15,l,[]⟩ o.fs (.slice none 0 0)))::(b6,cel 62 [.int .i64 0,.slice none 0 0,.slice none 0 0])::H),R⟩) ?_ ?_
    refine Z1 rfl ?_ ?_<;>intro hc2
    refine sqr 8 rfl (sp rfl (PE.fA Z0b rfl) rfl (spL rfl rfl (lh sc3 rfl rfl) rfl (sp rfl (PE.fA Z0E rfl) rfl (spL rfl rfl (lh sc3 rfl rfl) rfl (sp rfl (PE.fA Z0E rfl) rfl ?_)))))
    refine ZU (l':=[.int .i64 (gb),.int .i64 (gb)]) rfl rfl rfl cn3 rfl rfl rfl rfl (nl rfl) ?_
    refine sp rfl (PE.fA Z0b rfl) rfl ?_
    refine ZU (l':=[.int .i64 (gb),.int .i64 (ga)]) rfl rfl rfl cn3 rfl rfl rfl rfl (nl rfl) ?_
    first | exact ZX ⟨(gb,ga),⟨hgo.2.1,hgo.1,Ne.symm hgo.2.2⟩⟩ idH | exact ZX ⟨(ga,gb),hgo⟩ idH
    refine Z3 ?_
    first | exact ZX ⟨(gb,ga),⟨hgo.2.1,hgo.1,Ne.symm hgo.2.2⟩⟩ idH | exact ZX ⟨(ga,gb),hgo⟩ idH
    rintro ⟨⟨ua,ub⟩,hgo2⟩
    dsimp only at hgo2 ⊢
    refine sqr 7 rfl (sp rfl (PE.fA Z2l rfl) rfl (spL rfl rfl (lh ZaF rfl rfl) rfl (spL rfl rfl (lhA [.int .i64 ua,.int .i64 ub] Z7U rfl rfl rfl) rfl ?_)))
    refine bsl (out:=[_,_]) rfl Zko Z6e rfl rfl rfl rfl rfl rfl (fun b56=>?_)
    refine apO (o) rfl ZiT rfl rfl (Z0l (row:=Z5n ⟨ua,ub⟩) rfl) rfl rfl ((by rw [Z05];simp only [List.length_singleton];omega)) rfl (fun o57=>?_)
    refine sp rfl (PE.fA Z2l rfl) rfl ?_
    refine ZU (l':=htl ⟨x15,l++[⟨ua,ub⟩],[]⟩ o57.fs (.slice none 0 0)) rfl rfl rfl ZkC rfl (by rw [o57.cells.1];first | done | rfl) (by rw [o57.cells.1];simp [o57.cells.2]) (by rw [o57.cells.1];first | done | rfl) (by rw [o57.cells.1];first | done | exact Nat.le_of_ble_eq_true rfl) ?_
    refine sqr 2 rfl (sp rfl (PE.add rfl rfl (by omega)) rfl (pur 1 rfl ?_))
    exact Z6 ⟨⟨(k+1,l++[⟨ua,ub⟩],tq2+1+1,m46),by dsimp only;omega,⟨by simp [hll],fun g hg=>(List.mem_append.1 hg).elim (hlg g) (fun h9=>by rw [List.mem_singleton.1 h9];exact hgo2)⟩,by dsimp only;omega,by assumption⟩,o57.cast (by simp [Zy])⟩ (fun w h9=>((h9.del b56).del b10).perm (by first | exact .refl _ | exact (ZJ _ [_] _).symm))
   exact Zx
  obtain rfl:k=n20:=by omega
  obtain ⟨ag,cg,he,hcg,hf⟩:=o.freezeC
  rw [Z05] at hcg
  rw [he,Z05]
  refine ZQ bk ?_
  refine Sy.heap (H':=_) (fun w h9=>hf (h9.perm (List.perm_middle (l₁:=o.G) (a:=_)).symm)) ?_
  clear he hf
  obtain ⟨B,rfl⟩:∃ B:Nat,x15=B:=⟨x15.toNat,by omega⟩
  refine Z9 (Za (Za (Zn (sqt 1 rfl (pur 1 rfl (Z0 (sqt 3 rfl (sp rfl (PE.fA Z0r rfl) rfl (spL rfl rfl (lh sc3 rfl rfl) rfl (pur 1 rfl (Z2 ?_)))))))))))
  refine Zc (ι:=(x:{x:Nat×(Nat→Bool)×Int×Int // x.1≤B∧(tq≤x.2.2.1∧x.2.2.1≤tq+40+x.1)∧(0≤x.2.2.2∧x.2.2.2≤4294967295)})×OSl 3 1 (irows (Z0A x.1.2.1 x.1.1))) (fun x=>⟨[(0,.pointer (some ⟨bk,0,none⟩)),(6,.pointer (some ⟨b6,0,none⟩)),(8,.pointer (some ⟨b8,0,none⟩)),(11,x.2.fs),(61,.int .i64 B),(62,.int .i64 x.1.1.1)],
    (bk,cel 83 [.slice a0 l0.length c0,.int .i64 (x.1.1.2.2.1),.int .u32 (x.1.1.2.2.2)])::(x.2.G++(b8,cel 62 (htl ⟨B,l,[]⟩ (.slice ag l.length cg) (.slice none 0 0)))::(b6,cel 62 [.int .i64 0,.slice none 0 0,.slice none 0 0])::H),RowsA ag 2 (Zy l)::R⟩) (fun x=>B-x.1.1.1) ⟨⟨(0,fun _=>false,tq2,mx2),by omega,by dsimp only;omega,by assumption⟩,OSl.nil _ _⟩ ?_ (fun x=>?_)
  exact Zi idH
  obtain ⟨⟨⟨i,p,tq3,mx3⟩,hi,htq3,hmx3⟩,o2⟩:=x
  dsimp only at hi htq3 hmx3 o2 ⊢
  have hfl:=Z0M p i
  refine sqt 1 rfl (pur 1 rfl (Z0 ?_))
  refine Z1 rfl ?_ ?_<;>intro hc3<;>try simp only [cS] at hc3
  refine Z3 (Z0 (Z2 (sqt 2 rfl (pur 2 rfl (sqt 2 rfl ?_)))))
  refine ZQ bk ?_
  refine pur 1 rfl ?_
  refine cl rfl ZdY rfl rfl (Z8M l0 a0 c0 bk hgl _ _ (by omega) (by assumption) (3) _ _) ?_
  rintro _ _ R1 ⟨x66,m66,rfl,hm66,rfl,hR1⟩
  obtain rfl:=hR1.symm
  refine Z1 rfl ?_ ?_<;>intro hc4<;>try simp only [cS] at hc4
  refine sqr 5 rfl (pur 2 rfl ?_)
  refine bsl (out:=[_]) rfl Z36 zl3 rfl rfl rfl rfl rfl rfl (fun b69=>?_)
  refine apO (o2) rfl Z6g rfl rfl (Z0l (row:=[.int .i64 i]) rfl) rfl rfl ((by rw [irl];simp only [List.length_singleton];omega)) rfl (fun o70=>?_)
  refine pur 1 rfl (sqr 2 rfl (sp rfl (PE.add rfl rfl (by omega)) rfl (pur 1 rfl ?_)))
  have hput:=Z7o p i true
  exact Z6 ⟨⟨(i+1,fun j=>bif decide (j=i) then true else p j,tq3+1,m66),by dsimp only;omega,by dsimp only;omega,by assumption⟩,o70.cast (by rw [hput];simp [irows])⟩ (fun w h9=>(h9.del b69).perm (by first | exact .refl _ | exact (ZJ _ [_] _).symm))
  refine Z3 (sqr 2 rfl (sp rfl (PE.add rfl rfl (by omega)) rfl (pur 1 rfl ?_)))
  have hput:=Z7o p i false
  exact Z6 ⟨⟨(i+1,fun j=>bif decide (j=i) then false else p j,tq3+1,m66),by dsimp only;omega,by dsimp only;omega,by assumption⟩,o2.cast (by rw [hput];simp [irows])⟩ idH
  obtain rfl:i=B:=by omega
  obtain ⟨ar,cr,he,hcr,hf⟩:=o2.freezeC
  rw [irl] at hcr
  rw [he,irl]
  refine ZQ bk ?_
  refine Sy.heap (H':=_) (fun w h9=>hf (h9.perm (List.perm_middle (l₁:=o2.G) (a:=_)).symm)) ?_
  clear he hf
  refine Z9 (Za (Za (Zn (sqt 4 rfl (spL rfl rfl (lhA (htl ⟨(i:Int),l,[]⟩ (.slice ag l.length cg) (.slice none 0 0)) Z0e rfl rfl rfl) rfl (pur 1 rfl ?_))))))
  refine ZU (l':=htl ⟨(i:Int),l,[]⟩ (.slice ag l.length cg) (.slice none 0 0)) rfl rfl rfl Z24 rfl rfl rfl rfl (Nat.le_refl _) ?_
  refine pur 1 rfl (Z4 ?_)
  exact Zf (vs:=[_,_]) rfl (.cons (RV.cell rfl (lhA [_,_,_] Z0e rfl rfl rfl)) (.cons (RV.tmp rfl) .nil)) rfl ⟨⟨(i:Int),l,[]⟩,p,ag,ar,cg,cr,tq3,mx3,⟨by dsimp only;omega,by dsimp only;omega,hlg,rfl⟩,hcg,hcr,rfl,by omega,by assumption,rfl,rfl⟩ (fun w h9=>St.norows ((h9.del b8).del b6))
theorem Z0C (xs:List Gp) (a:Option Addr) (c:Nat) (hl:xs.length≤1000000) (H:Z7) (R:Z5) [hR:MemRows a 2 (Zy xs) R] :
    Fn Tryz.prog 57 [.slice a xs.length c] H R (fun v H' R'=>∃ o:OSl 130 2 (Zy xs),v=o.fs∧H'=o.G++H∧R'=R∧(a.isSome=true→o.here)):=by
 refine Z8 Tryz.func57 rfl Tryz.ntmps57 rfl ?_
 refine sqt 1 rfl (pur 1 rfl (Z0 (sqt 2 rfl (pur 1 rfl (sp rfl (PE.eqlNil ZbQ rfl rfl) rfl ?_)))))
 refine Z1 rfl ?_ ?_<;>intro hc0
 refine Sy.pre (fun w h=>Z1M (h.now hR.mem) hc0) (fun hnil=>?_)
 obtain rfl:xs=[]:=by simpa [Zy] using hnil
 refine sqt 1 rfl (pur 1 rfl (Z4 ?_))
 first
   | exact rtA rfl rfl rfl ⟨o2.cast (by simp),rfl,rfl,rfl,fun _=>ho2⟩ idH
   | exact rtA rfl rfl rfl ⟨OSl.nil _ _,rfl,rfl,rfl,fun h=>by cases a<;>simp_all⟩ idH
 refine Z3 (sqt 4 rfl ?_)
 refine Zfq rfl Zko rfl (fun o5 ho5=>?_)
 refine pur 1 rfl ?_
 refine ZiC (news:=Zy xs) o5 rfl ZiT rfl rfl (Zcc) (by simp [Zy]) (by simp [Z0Q,Zy,Z5n,Value.oneCell']) ⟨by simp [Zy];omega,by simp [Zy];omega⟩ rfl ho5 (fun o2 ho2=>?_)
 refine pur 1 rfl (Z4 ?_)
 first
   | exact rtA rfl rfl rfl ⟨o2.cast (by simp),rfl,rfl,rfl,fun _=>ho2⟩ idH
   | exact rtA rfl rfl rfl ⟨OSl.nil _ _,rfl,rfl,rfl,fun h=>by cases a<;>simp_all⟩ idH
theorem St.norows2 {s t:Nat} {H:Z7} {R:Z5} {w:World} (h:St H R w):St H (RowsA none s []::RowsA none t []::R) w:=St.norows (St.norows h)
theorem Tru.nil (h:Hse) (l:List Int):Tru h l []:=⟨(fun s hs=>by cases hs),rfl⟩
theorem Zbh:apT Tryz.prog 60=some (74,3,24):=by kernel_rfl
theorem Z9G:cal Tryz.prog 57=true:=by kernel_rfl
theorem Zft:slE Tryz.prog 60=some (74,3):=by kernel_rfl
theorem Zdq:Zw Tryz.prog 74=some ([.int .i64 0,.int .i64 0,.bool false]):=by kernel_rfl
theorem Z37 (a b:List Sgt):Zs (a++b)=Zs a++Zs b:=List.map_append
theorem ZaP (l:List Sgt):(Zs l).flatten.length=l.length*3:=by rw [ZK (Z59 l),ZI]
def Zi7 {e sz:Nat} {rows:List (List Value)} (b cap n:Nat) (junk:List Value) (hl:∀ r∈rows,r.length=sz) (hn:n=rows.length) (h1:rows.length*sz+junk.length=cap*sz) (h2:rows.length≤cap) (h3:cap≤9223372036854775807):OSl e sz rows :=
 ⟨.slice (some ⟨b,0,none⟩) n cap,[(b,cel e (rows.flatten++junk))],hl,.inr ⟨b,cap,junk,by rw [hn],rfl,h1,h2,h3⟩⟩
def Hse.add (h:Hse) (s:Sgt):Hse:=⟨h.bins,h.gaps,h.sights++[s]⟩
def Hse.seeE (h:Hse) (s:Sgt):Int:=bif decide (h.check≠0) then h.check else bif decide (h.sights.length=8) then 9 else (h.add s).check
def Hse.seeH (h:Hse) (s:Sgt):Hse:=bif decide (h.seeE s=0) then h.add s else ⟨0,[],[]⟩
theorem Z1X {h:Hse} {s:Sgt} {e:Int} (he:h.seeE s=e) (h0:e≠0):h.seeH s=⟨0,[],[]⟩:=by unfold Hse.seeH;rw [he,decide_eq_false h0];rfl
theorem Z1i {h:Hse} {s:Sgt} (he:h.seeE s=0):h.seeH s=h.add s:=by unfold Hse.seeH;rw [he];rfl
theorem ZeZ {h:Hse} {s:Sgt} (hc:h.check≠0):h.seeE s=h.check:=by unfold Hse.seeE;rw [decide_eq_true hc];rfl
theorem ZaI {h:Hse} {s:Sgt} (hc:h.check=0) (hl:h.sights.length=8):h.seeE s=9:=by unfold Hse.seeE;rw [decide_eq_false (fun e=>e hc),decide_eq_true hl];rfl
theorem ZaJ {h:Hse} {s:Sgt} (hc:h.check=0) (hl:h.sights.length≠8):h.seeE s=(h.add s).check:=by unfold Hse.seeE;rw [decide_eq_false (fun e=>e hc),decide_eq_false hl];rfl
theorem Z5Z (n:Nat) (a b c:Value):(Z2p n [a,b,c]).length=n*3:=by simp [Z2p]
theorem Zf4 (l:List Sgt):(Zs l).flatten.all (·.oneCell')=true:=List.all_eq_true.2 fun v hv=>by
 obtain ⟨r,hr,h2⟩:=List.mem_flatten.1 hv
 obtain ⟨x,_,rfl⟩:=List.mem_map.1 hr
 simp only [Z1s,List.mem_cons,List.not_mem_nil,or_false] at h2
 rcases h2 with rfl | rfl | rfl<;>rfl
theorem ZaO (l:List Sgt) (a b c:Value):spl (Z2p (l.length+1) [a,b,c]) 0 (Zs l).flatten=(Zs l).flatten++(Z2p (l.length+1) [a,b,c]).drop (l.length*3):=by
 unfold spl
 rw [List.take_zero,List.nil_append,Nat.zero_add,ZaP]
set_option maxHeartbeats 600000 in
theorem ZiV (h:Hse) (ag as_:Option Addr) (cg cs:Nat) (hlg:h.gaps.length≤1000000) (hls:h.sights.length≤1000000) (s:Sgt) (H:Z7) (R:Z5) [hG:MemRows ag 2 (Zy h.gaps) R] [hS:MemRows as_ 3 (Zs h.sights) R] :
    Fn Tryz.prog 23 [h.v (h.sg ag cg) (h.ss as_ cs),.agg (Z1s s).toArray] H R (fun v H' R'=>∃ (ax ay:Option Addr) (cx cy:Nat),((h.seeH s).gaps.length≤cx∧(h.seeH s).sights.length≤cy)∧v = .tuple #[(h.seeH s).v ((h.seeH s).sg ax cx) ((h.seeH s).ss ay cy),.int .i64 (h.seeE s)]∧H'=H∧R'=RowsA ax 2 (Zy (h.seeH s).gaps)::RowsA ay 3 (Zs (h.seeH s).sights)::R):=by
 refine Z8 Tryz.func23 rfl Tryz.ntmps23 rfl ?_
 refine sqt 4 rfl (bx rfl rfl rfl (fun b2=>bx rfl rfl rfl (fun b3=>alc rfl Z2e rfl (fun b4=>pur 1 rfl (Z0 (sqt 3 rfl (spL rfl rfl (lhA (htl h (h.sg ag cg) (h.ss as_ cs)) Z0e rfl rfl rfl) rfl ?_)))))))
 refine clV rfl Z2i rfl rfl (ZG h ag as_ cg cs (by omega) (by omega) _ _) ?_
 refine pur 1 rfl (sqt 2 rfl (pur 2 rfl ?_))
 refine Z1 rfl ?_ ?_<;>intro hc0
 have h0:h.check≠0:=of_decide_eq_true hc0
 have he:=ZeZ (s:=s) h0
 refine sqt 4 rfl (sp rfl (PE.build (out:=htl ⟨0,[],[]⟩ (.slice none 0 0) (.slice none 0 0)) Z4Y Z2e rfl rfl) rfl (pur 1 rfl ?_))
 refine ZU (l':=htl ⟨0,[],[]⟩ (.slice none 0 0) (.slice none 0 0)) rfl rfl rfl Z24 rfl rfl rfl rfl (nl rfl) ?_
 refine pur 1 rfl (Z4 ?_)
 rw [Z1X he h0,he]
 exact Zf (vs:=[_,_]) rfl (.cons (RV.cell rfl (lhA [_,_,_] Z0e rfl rfl rfl)) (.cons (RV.tmp rfl) .nil)) rfl ⟨none,none,0,0,⟨Nat.le_refl _,Nat.le_refl _⟩,rfl,rfl,rfl⟩ (fun w h9=>St.norows2 (St.sub (((h9.del b4).del b3).del b2)))
 have hck:h.check=0:=Classical.byContradiction fun e=>by rw [decide_eq_true e] at hc0;cases hc0
 have hok:=hse_ok.1 hck
 have hgl:=hok.gl
 have hsl:=hok.sl
 refine Z3 (Z0 (sqt 4 rfl (sp rfl (PE.fA Z10 rfl) rfl (spL rfl rfl (lh Z6Z rfl rfl) rfl (sp rfl (PE.lenSl Zaj rfl) rfl (pur 1 rfl ?_))))))
 refine Z1 rfl ?_ ?_<;>intro hc1<;>try simp only [cS] at hc1
 have h0:(9:Int)≠0:=by decide
 have he:=ZaI (s:=s) hck (by omega)
 refine sqt 3 rfl (sp rfl (PE.build (out:=htl ⟨0,[],[]⟩ (.slice none 0 0) (.slice none 0 0)) Z4Y Z2e rfl rfl) rfl ?_)
 refine ZU (l':=htl ⟨0,[],[]⟩ (.slice none 0 0) (.slice none 0 0)) rfl rfl rfl Z24 rfl rfl rfl rfl (nl rfl) ?_
 refine pur 1 rfl (Z4 ?_)
 rw [Z1X he h0,he]
 exact Zf (vs:=[_,_]) rfl (.cons (RV.cell rfl (lhA [_,_,_] Z0e rfl rfl rfl)) (.cons (RV.tmp rfl) .nil)) rfl ⟨none,none,0,0,⟨Nat.le_refl _,Nat.le_refl _⟩,rfl,rfl,rfl⟩ (fun w h9=>St.norows2 (St.sub (((h9.del b4).del b3).del b2)))
 have hgo:=ZaJ (s:=s) hck (by omega)
 refine Z3 (sqt 9 rfl (sp rfl (PE.fA Z10 rfl) rfl (spL rfl rfl (lh Z6Z rfl rfl) rfl (sp rfl (PE.lenSl Zaj rfl) rfl (sp rfl (PE.fA Z10 rfl) rfl (spL rfl rfl (lh Z6Z rfl rfl) rfl (sp rfl (PE.lenSl Zaj rfl) rfl (sp rfl (PE.add rfl rfl (by omega)) rfl ?_))))))))
 rw [show ((h.sights.length:Int)+1)=((h.sights.length+1:Nat):Int) from by omega]
 refine mkS rfl Zbh Zdq rfl rfl (by omega) ⟨by omega,by omega⟩ rfl (fun b28=>?_)
 refine pur 1 rfl (sqt 4 rfl (pur 1 rfl (sp rfl (PE.fA Z10 rfl) rfl (spL rfl rfl (lh Z6Z rfl rfl) rfl ?_))))
 refine ZjT (rows:=Zs h.sights) rfl Zft rfl (by rw [ZI];rfl) (Z59 _) (by rw [ZI];omega) (Zf4 _) (by rw [ZaP,Z5Z];omega) rfl ?_
 rw [ZaO]
 obtain ⟨junk,hjk⟩:∃ junk,junk=(Z2p (h.sights.length+1) [Value.int .i64 0,.int .i64 0,.bool false]).drop (h.sights.length*3):=⟨_,rfl⟩
 rw [← hjk]
 obtain ⟨o28,ho1,ho2⟩:∃ o:OSl 74 3 (Zs h.sights),o.fs = .slice (some ⟨b28,0,none⟩) h.sights.length (h.sights.length+1)∧o.G=[(b28,cel 74 ((Zs h.sights).flatten++junk))]:=⟨Zi7 b28 (h.sights.length+1) h.sights.length junk (Z59 _) (ZI _).symm (by rw [ZI,hjk,List.length_drop,Z5Z];omega) (by rw [ZI];omega) (by omega),rfl,rfl⟩
 rw [← ho1]
 refine Sy.heap (H':=o28.G++_) (fun w h9=>by rw [ho2];exact h9) ?_
 clear ho1 ho2 hjk
 refine Z0 ?_
 refine Zd [0,1,0,4,12,0,0,64,252,511,0,2047] (.tk 0 (.ld 1 (.tk 2 (.ld 3 (.tk 5 (.ld 6 (.any (.alt 4 (.any (.alt 7 (.any (.alt 8 (.tk 9 (.big 10 (.big 11 .done))) (.alt 10 (.big 8 (.tk 9 (.big 11 .done))) .stop))) (.alt 10 (.big 7 (.big 8 (.tk 9 (.big 11 .done)))) .stop))) (.alt 7 (.any (.alt 4 (.any (.alt 8 (.tk 9 (.big 10 (.big 11 .done))) (.alt 10 (.big 8 (.tk 9 (.big 11 .done))) .stop))) (.alt 10 (.big 4 (.big 8 (.tk 9 (.big 11 .done)))) .stop))) (.alt 10 (.any (.alt 4 (.big 7 (.big 8 (.tk 9 (.big 11 .done)))) (.alt 7 (.big 4 (.big 8 (.tk 9 (.big 11 .done)))) .stop))) .stop)))))))))) Zu (by kernel_rfl) ?_
 refine tk rfl (PE.fA Z0r rfl) rfl (ld rfl rfl (lh sc3 rfl rfl) rfl (tk rfl (PE.fA Z2l rfl) rfl (ld rfl rfl (lh ZaF rfl rfl) rfl (Zo 1 rfl (ld rfl rfl (lhA (Z1s s) Zdx rfl rfl rfl) rfl ?_)))))
 refine Zm ?_ ?_
 refine cl rfl Z9G rfl rfl (Z0C h.gaps ag cg (by omega) _ _) ?_
 rintro _ _ R1 ⟨og,rfl,rfl,hR1,_⟩
 obtain rfl:=hR1.symm
 clear hR1
 refine bg (fun w hs=>⟨(lhA (Z1s s) Zdx rfl rfl rfl) w hs,trivial,(lh sc3 rfl rfl) w hs,trivial⟩) ?_
 refine Zm ?_ ?_
 refine bsl (out:=[_,_,_]) rfl Zft Zdq rfl rfl rfl rfl rfl rfl (fun b40=>?_)
 refine bg (fun w hs=>⟨trivial,(lh sc3 rfl rfl) w hs,trivial⟩) ?_
 refine Zm ?_ ?_
 refine apO (o28) rfl Zbh rfl rfl (Z0l (row:=Z1s s) rfl) rfl rfl ((by rw [ZI];simp only [List.length_singleton];omega)) rfl (fun o41=>?_)
 refine bg (fun w hs=>⟨(lh sc3 rfl rfl) w hs,trivial⟩) ?_
 refine tk rfl (PE.build (out:=htl (h.add s) og.fs o41.fs) Z4Y Z2e rfl (by simp only [Z2k,og.cells.1,o41.cells.1,List.getElem?_cons_zero,List.getElem?_cons_succ];rfl)) rfl ?_
 refine alc rfl Z2e rfl (fun b8=>?_)
 refine bg (fun w hs=>⟨(lh sc3 rfl rfl) w hs,trivial⟩) ?_
 refine ZU (l':=htl (h.add s) og.fs o41.fs) rfl rfl rfl Z24 rfl rfl (by show (htl _ og.fs o41.fs).all (·.oneCell')=true;simp only [htl,List.all_cons,List.all_nil,og.cells.2,o41.cells.2,Bool.and_true];rfl) rfl (nl rfl) ?_
 refine bgT (Z0 (sqt 3 rfl ?_))
 obtain ⟨ax,cx,he1,hcx,hz1⟩:=og.freezeC
 obtain ⟨ay,cy,he2,hcy,hz2⟩:=(o41.cast (show Zs h.sights++[Z1s s]=Zs (h.add s).sights from by unfold Hse.add;rw [Z37];rfl)).freezeC
 rw [show o41.fs=_ from he2,ZI,he1,Z05]
 rw [Z05] at hcx
 rw [ZI] at hcy
 refine Sy.heap (fun w h9=>h9.del b40) ?_
 first | refine Sy.heap (H':=_) (fun w h9=>hz1 (h9.perm (List.perm_middle (l₁:=og.G) (a:=_)).symm)) ?_ | refine Sy.heap (H':=_) (fun w h9=>hz1 h9) ?_
 refine Sy.heap (H':=_) (fun w h9=>hz2 (h9.perm (List.perm_middle (l₁:=o41.G) (a:=_)).symm)) ?_
 clear he1 he2 hz1 hz2
 refine spL rfl rfl (lhA (htl (h.add s) (.slice ax h.gaps.length cx) (.slice ay (h.add s).sights.length cy)) Z0e rfl rfl rfl) rfl ?_
 refine clV rfl Z2i rfl rfl (ZG (h.add s) ax ay cx cy (by show h.gaps.length≤_;omega) (by unfold Hse.add;simp only [List.length_append,List.length_singleton];omega) _ _) ?_
 refine pur 1 rfl (sqt 2 rfl (pur 2 rfl ?_))
 refine Z1 rfl ?_ ?_<;>intro hc2
 have h0:(h.add s).check≠0:=of_decide_eq_true hc2
 have he:=hgo
 refine sqt 4 rfl (sp rfl (PE.build (out:=htl ⟨0,[],[]⟩ (.slice none 0 0) (.slice none 0 0)) Z4Y Z2e rfl rfl) rfl (pur 1 rfl ?_))
 refine ZU (l':=htl ⟨0,[],[]⟩ (.slice none 0 0) (.slice none 0 0)) rfl rfl rfl Z24 rfl rfl rfl rfl (nl rfl) ?_
 refine pur 1 rfl (Z4 ?_)
 rw [Z1X he h0,he]
 exact Zf (vs:=[_,_]) rfl (.cons (RV.cell rfl (lhA [_,_,_] Z0e rfl rfl rfl)) (.cons (RV.tmp rfl) .nil)) rfl ⟨none,none,0,0,⟨Nat.le_refl _,Nat.le_refl _⟩,rfl,rfl,rfl⟩ (fun w h9=>St.norows2 (St.sub ((h9.del b8).del b4 |>.del b3 |>.del b2)))
 have h0:(h.add s).check=0:=Classical.byContradiction fun e=>by rw [decide_eq_true e] at hc2;cases hc2
 have he:=hgo.trans h0
 refine Z3 (sqt 3 rfl (spL rfl rfl (lhA (htl (h.add s) (.slice ax h.gaps.length cx) (.slice ay (h.add s).sights.length cy)) Z0e rfl rfl rfl) rfl ?_))
 refine ZU (l':=htl (h.add s) (.slice ax h.gaps.length cx) (.slice ay (h.add s).sights.length cy)) rfl rfl rfl Z24 rfl rfl rfl rfl (nl rfl) ?_
 refine pur 1 rfl (Z4 ?_)
 rw [Z1i he,he]
 exact Zf (vs:=[_,_]) rfl (.cons (RV.cell rfl (lhA [_,_,_] Z0e rfl rfl rfl)) (.cons (RV.tmp rfl) .nil)) rfl ⟨ax,ay,cx,cy,⟨hcx,hcy⟩,rfl,rfl,rfl⟩ (fun w h9=>((h9.del b8).del b4 |>.del b3 |>.del b2).facts (fun g hg=>by simp only [List.mem_cons] at hg ⊢;rcases hg with h8 | h8 | h8<;>simp [h8,Hse.add]))
 refine Zm ?_ ?_
 refine alc rfl Z2e rfl (fun b8=>?_)
 refine bg (fun w hs=>⟨(lh sc3 rfl rfl) w hs,trivial⟩) ?_
 refine apO (o28) rfl Zbh rfl rfl (Z0l (row:=Z1s s) rfl) rfl rfl ((by rw [ZI];simp only [List.length_singleton];omega)) rfl (fun o41=>?_)
 refine bg (fun w hs=>⟨(lh sc3 rfl rfl) w hs,trivial⟩) ?_
 refine tk rfl (PE.build (out:=htl (h.add s) og.fs o41.fs) Z4Y Z2e rfl (by simp only [Z2k,og.cells.1,o41.cells.1,List.getElem?_cons_zero,List.getElem?_cons_succ];rfl)) rfl ?_
 refine ZU (l':=htl (h.add s) og.fs o41.fs) rfl rfl rfl Z24 rfl rfl (by show (htl _ og.fs o41.fs).all (·.oneCell')=true;simp only [htl,List.all_cons,List.all_nil,og.cells.2,o41.cells.2,Bool.and_true];rfl) rfl (nl rfl) ?_
 refine bgT (Z0 (sqt 3 rfl ?_))
 obtain ⟨ax,cx,he1,hcx,hz1⟩:=og.freezeC
 obtain ⟨ay,cy,he2,hcy,hz2⟩:=(o41.cast (show Zs h.sights++[Z1s s]=Zs (h.add s).sights from by unfold Hse.add;rw [Z37];rfl)).freezeC
 rw [show o41.fs=_ from he2,ZI,he1,Z05]
 rw [Z05] at hcx
 rw [ZI] at hcy
 refine Sy.heap (fun w h9=>h9.del b40) ?_
 first | refine Sy.heap (H':=_) (fun w h9=>hz1 (h9.perm (List.perm_middle (l₁:=og.G) (a:=_)).symm)) ?_ | refine Sy.heap (H':=_) (fun w h9=>hz1 h9) ?_
 refine Sy.heap (H':=_) (fun w h9=>hz2 (h9.perm (List.perm_middle (l₁:=o41.G) (a:=_)).symm)) ?_
 clear he1 he2 hz1 hz2
 refine spL rfl rfl (lhA (htl (h.add s) (.slice ax h.gaps.length cx) (.slice ay (h.add s).sights.length cy)) Z0e rfl rfl rfl) rfl ?_
 refine clV rfl Z2i rfl rfl (ZG (h.add s) ax ay cx cy (by show h.gaps.length≤_;omega) (by unfold Hse.add;simp only [List.length_append,List.length_singleton];omega) _ _) ?_
 refine pur 1 rfl (sqt 2 rfl (pur 2 rfl ?_))
 refine Z1 rfl ?_ ?_<;>intro hc2
 have h0:(h.add s).check≠0:=of_decide_eq_true hc2
 have he:=hgo
 refine sqt 4 rfl (sp rfl (PE.build (out:=htl ⟨0,[],[]⟩ (.slice none 0 0) (.slice none 0 0)) Z4Y Z2e rfl rfl) rfl (pur 1 rfl ?_))
 refine ZU (l':=htl ⟨0,[],[]⟩ (.slice none 0 0) (.slice none 0 0)) rfl rfl rfl Z24 rfl rfl rfl rfl (nl rfl) ?_
 refine pur 1 rfl (Z4 ?_)
 rw [Z1X he h0,he]
 exact Zf (vs:=[_,_]) rfl (.cons (RV.cell rfl (lhA [_,_,_] Z0e rfl rfl rfl)) (.cons (RV.tmp rfl) .nil)) rfl ⟨none,none,0,0,⟨Nat.le_refl _,Nat.le_refl _⟩,rfl,rfl,rfl⟩ (fun w h9=>St.norows2 (St.sub ((h9.del b8).del b4 |>.del b3 |>.del b2)))
 have h0:(h.add s).check=0:=Classical.byContradiction fun e=>by rw [decide_eq_true e] at hc2;cases hc2
 have he:=hgo.trans h0
 refine Z3 (sqt 3 rfl (spL rfl rfl (lhA (htl (h.add s) (.slice ax h.gaps.length cx) (.slice ay (h.add s).sights.length cy)) Z0e rfl rfl rfl) rfl ?_))
 refine ZU (l':=htl (h.add s) (.slice ax h.gaps.length cx) (.slice ay (h.add s).sights.length cy)) rfl rfl rfl Z24 rfl rfl rfl rfl (nl rfl) ?_
 refine pur 1 rfl (Z4 ?_)
 rw [Z1i he,he]
 exact Zf (vs:=[_,_]) rfl (.cons (RV.cell rfl (lhA [_,_,_] Z0e rfl rfl rfl)) (.cons (RV.tmp rfl) .nil)) rfl ⟨ax,ay,cx,cy,⟨hcx,hcy⟩,rfl,rfl,rfl⟩ (fun w h9=>((h9.del b8).del b4 |>.del b3 |>.del b2).facts (fun g hg=>by simp only [List.mem_cons] at hg ⊢;rcases hg with h8 | h8 | h8<;>simp [h8,Hse.add]))
 exact Zx
 refine Zm ?_ ?_
 refine alc rfl Z2e rfl (fun b8=>?_)
 refine bg (fun w hs=>⟨(lhA (Z1s s) Zdx rfl rfl rfl) w hs,(lh sc3 rfl rfl) w hs,trivial⟩) ?_
 refine bsl (out:=[_,_,_]) rfl Zft Zdq rfl rfl rfl rfl rfl rfl (fun b40=>?_)
 refine bg (fun w hs=>⟨trivial,(lh sc3 rfl rfl) w hs,trivial⟩) ?_
 refine apO (o28) rfl Zbh rfl rfl (Z0l (row:=Z1s s) rfl) rfl rfl ((by rw [ZI];simp only [List.length_singleton];omega)) rfl (fun o41=>?_)
 refine bg (fun w hs=>⟨(lh sc3 rfl rfl) w hs,trivial⟩) ?_
 refine tk rfl (PE.build (out:=htl (h.add s) og.fs o41.fs) Z4Y Z2e rfl (by simp only [Z2k,og.cells.1,o41.cells.1,List.getElem?_cons_zero,List.getElem?_cons_succ];rfl)) rfl ?_
 refine ZU (l':=htl (h.add s) og.fs o41.fs) rfl rfl rfl Z24 rfl rfl (by show (htl _ og.fs o41.fs).all (·.oneCell')=true;simp only [htl,List.all_cons,List.all_nil,og.cells.2,o41.cells.2,Bool.and_true];rfl) rfl (nl rfl) ?_
 refine bgT (Z0 (sqt 3 rfl ?_))
 obtain ⟨ax,cx,he1,hcx,hz1⟩:=og.freezeC
 obtain ⟨ay,cy,he2,hcy,hz2⟩:=(o41.cast (show Zs h.sights++[Z1s s]=Zs (h.add s).sights from by unfold Hse.add;rw [Z37];rfl)).freezeC
 rw [show o41.fs=_ from he2,ZI,he1,Z05]
 rw [Z05] at hcx
 rw [ZI] at hcy
 refine Sy.heap (fun w h9=>h9.del b40) ?_
 first | refine Sy.heap (H':=_) (fun w h9=>hz1 (h9.perm (List.perm_middle (l₁:=og.G) (a:=_)).symm)) ?_ | refine Sy.heap (H':=_) (fun w h9=>hz1 h9) ?_
 refine Sy.heap (H':=_) (fun w h9=>hz2 (h9.perm (List.perm_middle (l₁:=o41.G) (a:=_)).symm)) ?_
 clear he1 he2 hz1 hz2
 refine spL rfl rfl (lhA (htl (h.add s) (.slice ax h.gaps.length cx) (.slice ay (h.add s).sights.length cy)) Z0e rfl rfl rfl) rfl ?_
 refine clV rfl Z2i rfl rfl (ZG (h.add s) ax ay cx cy (by show h.gaps.length≤_;omega) (by unfold Hse.add;simp only [List.length_append,List.length_singleton];omega) _ _) ?_
 refine pur 1 rfl (sqt 2 rfl (pur 2 rfl ?_))
 refine Z1 rfl ?_ ?_<;>intro hc2
 have h0:(h.add s).check≠0:=of_decide_eq_true hc2
 have he:=hgo
 refine sqt 4 rfl (sp rfl (PE.build (out:=htl ⟨0,[],[]⟩ (.slice none 0 0) (.slice none 0 0)) Z4Y Z2e rfl rfl) rfl (pur 1 rfl ?_))
 refine ZU (l':=htl ⟨0,[],[]⟩ (.slice none 0 0) (.slice none 0 0)) rfl rfl rfl Z24 rfl rfl rfl rfl (nl rfl) ?_
 refine pur 1 rfl (Z4 ?_)
 rw [Z1X he h0,he]
 exact Zf (vs:=[_,_]) rfl (.cons (RV.cell rfl (lhA [_,_,_] Z0e rfl rfl rfl)) (.cons (RV.tmp rfl) .nil)) rfl ⟨none,none,0,0,⟨Nat.le_refl _,Nat.le_refl _⟩,rfl,rfl,rfl⟩ (fun w h9=>St.norows2 (St.sub ((h9.del b8).del b4 |>.del b3 |>.del b2)))
 have h0:(h.add s).check=0:=Classical.byContradiction fun e=>by rw [decide_eq_true e] at hc2;cases hc2
 have he:=hgo.trans h0
 refine Z3 (sqt 3 rfl (spL rfl rfl (lhA (htl (h.add s) (.slice ax h.gaps.length cx) (.slice ay (h.add s).sights.length cy)) Z0e rfl rfl rfl) rfl ?_))
 refine ZU (l':=htl (h.add s) (.slice ax h.gaps.length cx) (.slice ay (h.add s).sights.length cy)) rfl rfl rfl Z24 rfl rfl rfl rfl (nl rfl) ?_
 refine pur 1 rfl (Z4 ?_)
 rw [Z1i he,he]
 exact Zf (vs:=[_,_]) rfl (.cons (RV.cell rfl (lhA [_,_,_] Z0e rfl rfl rfl)) (.cons (RV.tmp rfl) .nil)) rfl ⟨ax,ay,cx,cy,⟨hcx,hcy⟩,rfl,rfl,rfl⟩ (fun w h9=>((h9.del b8).del b4 |>.del b3 |>.del b2).facts (fun g hg=>by simp only [List.mem_cons] at hg ⊢;rcases hg with h8 | h8 | h8<;>simp [h8,Hse.add]))
 exact Zx
 refine Zm ?_ ?_
 refine bsl (out:=[_,_,_]) rfl Zft Zdq rfl rfl rfl rfl rfl rfl (fun b40=>?_)
 refine bg (fun w hs=>⟨trivial,(lh ZaF rfl rfl) w hs,(lh sc3 rfl rfl) w hs,trivial⟩) ?_
 refine Zm ?_ ?_
 refine cl rfl Z9G rfl rfl (Z0C h.gaps ag cg (by omega) _ _) ?_
 rintro _ _ R1 ⟨og,rfl,rfl,hR1,_⟩
 obtain rfl:=hR1.symm
 clear hR1
 refine bg (fun w hs=>⟨trivial,(lh sc3 rfl rfl) w hs,trivial⟩) ?_
 refine Zm ?_ ?_
 refine apO (o28) rfl Zbh rfl rfl (Z0l (row:=Z1s s) rfl) rfl rfl ((by rw [ZI];simp only [List.length_singleton];omega)) rfl (fun o41=>?_)
 refine bg (fun w hs=>⟨(lh sc3 rfl rfl) w hs,trivial⟩) ?_
 refine tk rfl (PE.build (out:=htl (h.add s) og.fs o41.fs) Z4Y Z2e rfl (by simp only [Z2k,og.cells.1,o41.cells.1,List.getElem?_cons_zero,List.getElem?_cons_succ];rfl)) rfl ?_
 refine alc rfl Z2e rfl (fun b8=>?_)
 refine bg (fun w hs=>⟨(lh sc3 rfl rfl) w hs,trivial⟩) ?_
 refine ZU (l':=htl (h.add s) og.fs o41.fs) rfl rfl rfl Z24 rfl rfl (by show (htl _ og.fs o41.fs).all (·.oneCell')=true;simp only [htl,List.all_cons,List.all_nil,og.cells.2,o41.cells.2,Bool.and_true];rfl) rfl (nl rfl) ?_
 refine bgT (Z0 (sqt 3 rfl ?_))
 obtain ⟨ax,cx,he1,hcx,hz1⟩:=og.freezeC
 obtain ⟨ay,cy,he2,hcy,hz2⟩:=(o41.cast (show Zs h.sights++[Z1s s]=Zs (h.add s).sights from by unfold Hse.add;rw [Z37];rfl)).freezeC
 rw [show o41.fs=_ from he2,ZI,he1,Z05]
 rw [Z05] at hcx
 rw [ZI] at hcy
 refine Sy.heap (fun w h9=>h9.del b40) ?_
 first | refine Sy.heap (H':=_) (fun w h9=>hz1 (h9.perm (List.perm_middle (l₁:=og.G) (a:=_)).symm)) ?_ | refine Sy.heap (H':=_) (fun w h9=>hz1 h9) ?_
 refine Sy.heap (H':=_) (fun w h9=>hz2 (h9.perm (List.perm_middle (l₁:=o41.G) (a:=_)).symm)) ?_
 clear he1 he2 hz1 hz2
 refine spL rfl rfl (lhA (htl (h.add s) (.slice ax h.gaps.length cx) (.slice ay (h.add s).sights.length cy)) Z0e rfl rfl rfl) rfl ?_
 refine clV rfl Z2i rfl rfl (ZG (h.add s) ax ay cx cy (by show h.gaps.length≤_;omega) (by unfold Hse.add;simp only [List.length_append,List.length_singleton];omega) _ _) ?_
 refine pur 1 rfl (sqt 2 rfl (pur 2 rfl ?_))
 refine Z1 rfl ?_ ?_<;>intro hc2
 have h0:(h.add s).check≠0:=of_decide_eq_true hc2
 have he:=hgo
 refine sqt 4 rfl (sp rfl (PE.build (out:=htl ⟨0,[],[]⟩ (.slice none 0 0) (.slice none 0 0)) Z4Y Z2e rfl rfl) rfl (pur 1 rfl ?_))
 refine ZU (l':=htl ⟨0,[],[]⟩ (.slice none 0 0) (.slice none 0 0)) rfl rfl rfl Z24 rfl rfl rfl rfl (nl rfl) ?_
 refine pur 1 rfl (Z4 ?_)
 rw [Z1X he h0,he]
 exact Zf (vs:=[_,_]) rfl (.cons (RV.cell rfl (lhA [_,_,_] Z0e rfl rfl rfl)) (.cons (RV.tmp rfl) .nil)) rfl ⟨none,none,0,0,⟨Nat.le_refl _,Nat.le_refl _⟩,rfl,rfl,rfl⟩ (fun w h9=>St.norows2 (St.sub ((h9.del b8).del b4 |>.del b3 |>.del b2)))
 have h0:(h.add s).check=0:=Classical.byContradiction fun e=>by rw [decide_eq_true e] at hc2;cases hc2
 have he:=hgo.trans h0
 refine Z3 (sqt 3 rfl (spL rfl rfl (lhA (htl (h.add s) (.slice ax h.gaps.length cx) (.slice ay (h.add s).sights.length cy)) Z0e rfl rfl rfl) rfl ?_))
 refine ZU (l':=htl (h.add s) (.slice ax h.gaps.length cx) (.slice ay (h.add s).sights.length cy)) rfl rfl rfl Z24 rfl rfl rfl rfl (nl rfl) ?_
 refine pur 1 rfl (Z4 ?_)
 rw [Z1i he,he]
 exact Zf (vs:=[_,_]) rfl (.cons (RV.cell rfl (lhA [_,_,_] Z0e rfl rfl rfl)) (.cons (RV.tmp rfl) .nil)) rfl ⟨ax,ay,cx,cy,⟨hcx,hcy⟩,rfl,rfl,rfl⟩ (fun w h9=>((h9.del b8).del b4 |>.del b3 |>.del b2).facts (fun g hg=>by simp only [List.mem_cons] at hg ⊢;rcases hg with h8 | h8 | h8<;>simp [h8,Hse.add]))
 refine Zm ?_ ?_
 refine alc rfl Z2e rfl (fun b8=>?_)
 refine bg (fun w hs=>⟨(lh sc3 rfl rfl) w hs,trivial⟩) ?_
 refine apO (o28) rfl Zbh rfl rfl (Z0l (row:=Z1s s) rfl) rfl rfl ((by rw [ZI];simp only [List.length_singleton];omega)) rfl (fun o41=>?_)
 refine bg (fun w hs=>⟨(lh sc3 rfl rfl) w hs,trivial⟩) ?_
 refine tk rfl (PE.build (out:=htl (h.add s) og.fs o41.fs) Z4Y Z2e rfl (by simp only [Z2k,og.cells.1,o41.cells.1,List.getElem?_cons_zero,List.getElem?_cons_succ];rfl)) rfl ?_
 refine ZU (l':=htl (h.add s) og.fs o41.fs) rfl rfl rfl Z24 rfl rfl (by show (htl _ og.fs o41.fs).all (·.oneCell')=true;simp only [htl,List.all_cons,List.all_nil,og.cells.2,o41.cells.2,Bool.and_true];rfl) rfl (nl rfl) ?_
 refine bgT (Z0 (sqt 3 rfl ?_))
 obtain ⟨ax,cx,he1,hcx,hz1⟩:=og.freezeC
 obtain ⟨ay,cy,he2,hcy,hz2⟩:=(o41.cast (show Zs h.sights++[Z1s s]=Zs (h.add s).sights from by unfold Hse.add;rw [Z37];rfl)).freezeC
 rw [show o41.fs=_ from he2,ZI,he1,Z05]
 rw [Z05] at hcx
 rw [ZI] at hcy
 refine Sy.heap (fun w h9=>h9.del b40) ?_
 first | refine Sy.heap (H':=_) (fun w h9=>hz1 (h9.perm (List.perm_middle (l₁:=og.G) (a:=_)).symm)) ?_ | refine Sy.heap (H':=_) (fun w h9=>hz1 h9) ?_
 refine Sy.heap (H':=_) (fun w h9=>hz2 (h9.perm (List.perm_middle (l₁:=o41.G) (a:=_)).symm)) ?_
 clear he1 he2 hz1 hz2
 refine spL rfl rfl (lhA (htl (h.add s) (.slice ax h.gaps.length cx) (.slice ay (h.add s).sights.length cy)) Z0e rfl rfl rfl) rfl ?_
 refine clV rfl Z2i rfl rfl (ZG (h.add s) ax ay cx cy (by show h.gaps.length≤_;omega) (by unfold Hse.add;simp only [List.length_append,List.length_singleton];omega) _ _) ?_
 refine pur 1 rfl (sqt 2 rfl (pur 2 rfl ?_))
 refine Z1 rfl ?_ ?_<;>intro hc2
 have h0:(h.add s).check≠0:=of_decide_eq_true hc2
 have he:=hgo
 refine sqt 4 rfl (sp rfl (PE.build (out:=htl ⟨0,[],[]⟩ (.slice none 0 0) (.slice none 0 0)) Z4Y Z2e rfl rfl) rfl (pur 1 rfl ?_))
 refine ZU (l':=htl ⟨0,[],[]⟩ (.slice none 0 0) (.slice none 0 0)) rfl rfl rfl Z24 rfl rfl rfl rfl (nl rfl) ?_
 refine pur 1 rfl (Z4 ?_)
 rw [Z1X he h0,he]
 exact Zf (vs:=[_,_]) rfl (.cons (RV.cell rfl (lhA [_,_,_] Z0e rfl rfl rfl)) (.cons (RV.tmp rfl) .nil)) rfl ⟨none,none,0,0,⟨Nat.le_refl _,Nat.le_refl _⟩,rfl,rfl,rfl⟩ (fun w h9=>St.norows2 (St.sub ((h9.del b8).del b4 |>.del b3 |>.del b2)))
 have h0:(h.add s).check=0:=Classical.byContradiction fun e=>by rw [decide_eq_true e] at hc2;cases hc2
 have he:=hgo.trans h0
 refine Z3 (sqt 3 rfl (spL rfl rfl (lhA (htl (h.add s) (.slice ax h.gaps.length cx) (.slice ay (h.add s).sights.length cy)) Z0e rfl rfl rfl) rfl ?_))
 refine ZU (l':=htl (h.add s) (.slice ax h.gaps.length cx) (.slice ay (h.add s).sights.length cy)) rfl rfl rfl Z24 rfl rfl rfl rfl (nl rfl) ?_
 refine pur 1 rfl (Z4 ?_)
 rw [Z1i he,he]
 exact Zf (vs:=[_,_]) rfl (.cons (RV.cell rfl (lhA [_,_,_] Z0e rfl rfl rfl)) (.cons (RV.tmp rfl) .nil)) rfl ⟨ax,ay,cx,cy,⟨hcx,hcy⟩,rfl,rfl,rfl⟩ (fun w h9=>((h9.del b8).del b4 |>.del b3 |>.del b2).facts (fun g hg=>by simp only [List.mem_cons] at hg ⊢;rcases hg with h8 | h8 | h8<;>simp [h8,Hse.add]))
 exact Zx
 refine Zm ?_ ?_
 refine alc rfl Z2e rfl (fun b8=>?_)
 refine bg (fun w hs=>⟨(lh ZaF rfl rfl) w hs,(lh sc3 rfl rfl) w hs,trivial⟩) ?_
 refine cl rfl Z9G rfl rfl (Z0C h.gaps ag cg (by omega) _ _) ?_
 rintro _ _ R1 ⟨og,rfl,rfl,hR1,_⟩
 obtain rfl:=hR1.symm
 clear hR1
 refine bg (fun w hs=>⟨trivial,(lh sc3 rfl rfl) w hs,trivial⟩) ?_
 refine apO (o28) rfl Zbh rfl rfl (Z0l (row:=Z1s s) rfl) rfl rfl ((by rw [ZI];simp only [List.length_singleton];omega)) rfl (fun o41=>?_)
 refine bg (fun w hs=>⟨(lh sc3 rfl rfl) w hs,trivial⟩) ?_
 refine tk rfl (PE.build (out:=htl (h.add s) og.fs o41.fs) Z4Y Z2e rfl (by simp only [Z2k,og.cells.1,o41.cells.1,List.getElem?_cons_zero,List.getElem?_cons_succ];rfl)) rfl ?_
 refine ZU (l':=htl (h.add s) og.fs o41.fs) rfl rfl rfl Z24 rfl rfl (by show (htl _ og.fs o41.fs).all (·.oneCell')=true;simp only [htl,List.all_cons,List.all_nil,og.cells.2,o41.cells.2,Bool.and_true];rfl) rfl (nl rfl) ?_
 refine bgT (Z0 (sqt 3 rfl ?_))
 obtain ⟨ax,cx,he1,hcx,hz1⟩:=og.freezeC
 obtain ⟨ay,cy,he2,hcy,hz2⟩:=(o41.cast (show Zs h.sights++[Z1s s]=Zs (h.add s).sights from by unfold Hse.add;rw [Z37];rfl)).freezeC
 rw [show o41.fs=_ from he2,ZI,he1,Z05]
 rw [Z05] at hcx
 rw [ZI] at hcy
 refine Sy.heap (fun w h9=>h9.del b40) ?_
 first | refine Sy.heap (H':=_) (fun w h9=>hz1 (h9.perm (List.perm_middle (l₁:=og.G) (a:=_)).symm)) ?_ | refine Sy.heap (H':=_) (fun w h9=>hz1 h9) ?_
 refine Sy.heap (H':=_) (fun w h9=>hz2 (h9.perm (List.perm_middle (l₁:=o41.G) (a:=_)).symm)) ?_
 clear he1 he2 hz1 hz2
 refine spL rfl rfl (lhA (htl (h.add s) (.slice ax h.gaps.length cx) (.slice ay (h.add s).sights.length cy)) Z0e rfl rfl rfl) rfl ?_
 refine clV rfl Z2i rfl rfl (ZG (h.add s) ax ay cx cy (by show h.gaps.length≤_;omega) (by unfold Hse.add;simp only [List.length_append,List.length_singleton];omega) _ _) ?_
 refine pur 1 rfl (sqt 2 rfl (pur 2 rfl ?_))
 refine Z1 rfl ?_ ?_<;>intro hc2
 have h0:(h.add s).check≠0:=of_decide_eq_true hc2
 have he:=hgo
 refine sqt 4 rfl (sp rfl (PE.build (out:=htl ⟨0,[],[]⟩ (.slice none 0 0) (.slice none 0 0)) Z4Y Z2e rfl rfl) rfl (pur 1 rfl ?_))
 refine ZU (l':=htl ⟨0,[],[]⟩ (.slice none 0 0) (.slice none 0 0)) rfl rfl rfl Z24 rfl rfl rfl rfl (nl rfl) ?_
 refine pur 1 rfl (Z4 ?_)
 rw [Z1X he h0,he]
 exact Zf (vs:=[_,_]) rfl (.cons (RV.cell rfl (lhA [_,_,_] Z0e rfl rfl rfl)) (.cons (RV.tmp rfl) .nil)) rfl ⟨none,none,0,0,⟨Nat.le_refl _,Nat.le_refl _⟩,rfl,rfl,rfl⟩ (fun w h9=>St.norows2 (St.sub ((h9.del b8).del b4 |>.del b3 |>.del b2)))
 have h0:(h.add s).check=0:=Classical.byContradiction fun e=>by rw [decide_eq_true e] at hc2;cases hc2
 have he:=hgo.trans h0
 refine Z3 (sqt 3 rfl (spL rfl rfl (lhA (htl (h.add s) (.slice ax h.gaps.length cx) (.slice ay (h.add s).sights.length cy)) Z0e rfl rfl rfl) rfl ?_))
 refine ZU (l':=htl (h.add s) (.slice ax h.gaps.length cx) (.slice ay (h.add s).sights.length cy)) rfl rfl rfl Z24 rfl rfl rfl rfl (nl rfl) ?_
 refine pur 1 rfl (Z4 ?_)
 rw [Z1i he,he]
 exact Zf (vs:=[_,_]) rfl (.cons (RV.cell rfl (lhA [_,_,_] Z0e rfl rfl rfl)) (.cons (RV.tmp rfl) .nil)) rfl ⟨ax,ay,cx,cy,⟨hcx,hcy⟩,rfl,rfl,rfl⟩ (fun w h9=>((h9.del b8).del b4 |>.del b3 |>.del b2).facts (fun g hg=>by simp only [List.mem_cons] at hg ⊢;rcases hg with h8 | h8 | h8<;>simp [h8,Hse.add]))
 exact Zx
 refine Zm ?_ ?_
 refine alc rfl Z2e rfl (fun b8=>?_)
 refine bg (fun w hs=>⟨(lhA (Z1s s) Zdx rfl rfl rfl) w hs,(lh ZaF rfl rfl) w hs,(lh sc3 rfl rfl) w hs,trivial⟩) ?_
 refine Zm ?_ ?_
 refine cl rfl Z9G rfl rfl (Z0C h.gaps ag cg (by omega) _ _) ?_
 rintro _ _ R1 ⟨og,rfl,rfl,hR1,_⟩
 obtain rfl:=hR1.symm
 clear hR1
 refine bg (fun w hs=>⟨(lhA (Z1s s) Zdx rfl rfl rfl) w hs,trivial,(lh sc3 rfl rfl) w hs,trivial⟩) ?_
 refine bsl (out:=[_,_,_]) rfl Zft Zdq rfl rfl rfl rfl rfl rfl (fun b40=>?_)
 refine bg (fun w hs=>⟨trivial,(lh sc3 rfl rfl) w hs,trivial⟩) ?_
 refine apO (o28) rfl Zbh rfl rfl (Z0l (row:=Z1s s) rfl) rfl rfl ((by rw [ZI];simp only [List.length_singleton];omega)) rfl (fun o41=>?_)
 refine bg (fun w hs=>⟨(lh sc3 rfl rfl) w hs,trivial⟩) ?_
 refine tk rfl (PE.build (out:=htl (h.add s) og.fs o41.fs) Z4Y Z2e rfl (by simp only [Z2k,og.cells.1,o41.cells.1,List.getElem?_cons_zero,List.getElem?_cons_succ];rfl)) rfl ?_
 refine ZU (l':=htl (h.add s) og.fs o41.fs) rfl rfl rfl Z24 rfl rfl (by show (htl _ og.fs o41.fs).all (·.oneCell')=true;simp only [htl,List.all_cons,List.all_nil,og.cells.2,o41.cells.2,Bool.and_true];rfl) rfl (nl rfl) ?_
 refine bgT (Z0 (sqt 3 rfl ?_))
 obtain ⟨ax,cx,he1,hcx,hz1⟩:=og.freezeC
 obtain ⟨ay,cy,he2,hcy,hz2⟩:=(o41.cast (show Zs h.sights++[Z1s s]=Zs (h.add s).sights from by unfold Hse.add;rw [Z37];rfl)).freezeC
 rw [show o41.fs=_ from he2,ZI,he1,Z05]
 rw [Z05] at hcx
 rw [ZI] at hcy
 refine Sy.heap (fun w h9=>h9.del b40) ?_
 first | refine Sy.heap (H':=_) (fun w h9=>hz1 (h9.perm (List.perm_middle (l₁:=og.G) (a:=_)).symm)) ?_ | refine Sy.heap (H':=_) (fun w h9=>hz1 h9) ?_
 refine Sy.heap (H':=_) (fun w h9=>hz2 (h9.perm (List.perm_middle (l₁:=o41.G) (a:=_)).symm)) ?_
 clear he1 he2 hz1 hz2
 refine spL rfl rfl (lhA (htl (h.add s) (.slice ax h.gaps.length cx) (.slice ay (h.add s).sights.length cy)) Z0e rfl rfl rfl) rfl ?_
 refine clV rfl Z2i rfl rfl (ZG (h.add s) ax ay cx cy (by show h.gaps.length≤_;omega) (by unfold Hse.add;simp only [List.length_append,List.length_singleton];omega) _ _) ?_
 refine pur 1 rfl (sqt 2 rfl (pur 2 rfl ?_))
 refine Z1 rfl ?_ ?_<;>intro hc2
 have h0:(h.add s).check≠0:=of_decide_eq_true hc2
 have he:=hgo
 refine sqt 4 rfl (sp rfl (PE.build (out:=htl ⟨0,[],[]⟩ (.slice none 0 0) (.slice none 0 0)) Z4Y Z2e rfl rfl) rfl (pur 1 rfl ?_))
 refine ZU (l':=htl ⟨0,[],[]⟩ (.slice none 0 0) (.slice none 0 0)) rfl rfl rfl Z24 rfl rfl rfl rfl (nl rfl) ?_
 refine pur 1 rfl (Z4 ?_)
 rw [Z1X he h0,he]
 exact Zf (vs:=[_,_]) rfl (.cons (RV.cell rfl (lhA [_,_,_] Z0e rfl rfl rfl)) (.cons (RV.tmp rfl) .nil)) rfl ⟨none,none,0,0,⟨Nat.le_refl _,Nat.le_refl _⟩,rfl,rfl,rfl⟩ (fun w h9=>St.norows2 (St.sub ((h9.del b8).del b4 |>.del b3 |>.del b2)))
 have h0:(h.add s).check=0:=Classical.byContradiction fun e=>by rw [decide_eq_true e] at hc2;cases hc2
 have he:=hgo.trans h0
 refine Z3 (sqt 3 rfl (spL rfl rfl (lhA (htl (h.add s) (.slice ax h.gaps.length cx) (.slice ay (h.add s).sights.length cy)) Z0e rfl rfl rfl) rfl ?_))
 refine ZU (l':=htl (h.add s) (.slice ax h.gaps.length cx) (.slice ay (h.add s).sights.length cy)) rfl rfl rfl Z24 rfl rfl rfl rfl (nl rfl) ?_
 refine pur 1 rfl (Z4 ?_)
 rw [Z1i he,he]
 exact Zf (vs:=[_,_]) rfl (.cons (RV.cell rfl (lhA [_,_,_] Z0e rfl rfl rfl)) (.cons (RV.tmp rfl) .nil)) rfl ⟨ax,ay,cx,cy,⟨hcx,hcy⟩,rfl,rfl,rfl⟩ (fun w h9=>((h9.del b8).del b4 |>.del b3 |>.del b2).facts (fun g hg=>by simp only [List.mem_cons] at hg ⊢;rcases hg with h8 | h8 | h8<;>simp [h8,Hse.add]))
 refine Zm ?_ ?_
 refine bsl (out:=[_,_,_]) rfl Zft Zdq rfl rfl rfl rfl rfl rfl (fun b40=>?_)
 refine bg (fun w hs=>⟨trivial,(lh ZaF rfl rfl) w hs,(lh sc3 rfl rfl) w hs,trivial⟩) ?_
 refine cl rfl Z9G rfl rfl (Z0C h.gaps ag cg (by omega) _ _) ?_
 rintro _ _ R1 ⟨og,rfl,rfl,hR1,_⟩
 obtain rfl:=hR1.symm
 clear hR1
 refine bg (fun w hs=>⟨trivial,(lh sc3 rfl rfl) w hs,trivial⟩) ?_
 refine apO (o28) rfl Zbh rfl rfl (Z0l (row:=Z1s s) rfl) rfl rfl ((by rw [ZI];simp only [List.length_singleton];omega)) rfl (fun o41=>?_)
 refine bg (fun w hs=>⟨(lh sc3 rfl rfl) w hs,trivial⟩) ?_
 refine tk rfl (PE.build (out:=htl (h.add s) og.fs o41.fs) Z4Y Z2e rfl (by simp only [Z2k,og.cells.1,o41.cells.1,List.getElem?_cons_zero,List.getElem?_cons_succ];rfl)) rfl ?_
 refine ZU (l':=htl (h.add s) og.fs o41.fs) rfl rfl rfl Z24 rfl rfl (by show (htl _ og.fs o41.fs).all (·.oneCell')=true;simp only [htl,List.all_cons,List.all_nil,og.cells.2,o41.cells.2,Bool.and_true];rfl) rfl (nl rfl) ?_
 refine bgT (Z0 (sqt 3 rfl ?_))
 obtain ⟨ax,cx,he1,hcx,hz1⟩:=og.freezeC
 obtain ⟨ay,cy,he2,hcy,hz2⟩:=(o41.cast (show Zs h.sights++[Z1s s]=Zs (h.add s).sights from by unfold Hse.add;rw [Z37];rfl)).freezeC
 rw [show o41.fs=_ from he2,ZI,he1,Z05]
 rw [Z05] at hcx
 rw [ZI] at hcy
 refine Sy.heap (fun w h9=>h9.del b40) ?_
 first | refine Sy.heap (H':=_) (fun w h9=>hz1 (h9.perm (List.perm_middle (l₁:=og.G) (a:=_)).symm)) ?_ | refine Sy.heap (H':=_) (fun w h9=>hz1 h9) ?_
 refine Sy.heap (H':=_) (fun w h9=>hz2 (h9.perm (List.perm_middle (l₁:=o41.G) (a:=_)).symm)) ?_
 clear he1 he2 hz1 hz2
 refine spL rfl rfl (lhA (htl (h.add s) (.slice ax h.gaps.length cx) (.slice ay (h.add s).sights.length cy)) Z0e rfl rfl rfl) rfl ?_
 refine clV rfl Z2i rfl rfl (ZG (h.add s) ax ay cx cy (by show h.gaps.length≤_;omega) (by unfold Hse.add;simp only [List.length_append,List.length_singleton];omega) _ _) ?_
 refine pur 1 rfl (sqt 2 rfl (pur 2 rfl ?_))
 refine Z1 rfl ?_ ?_<;>intro hc2
 have h0:(h.add s).check≠0:=of_decide_eq_true hc2
 have he:=hgo
 refine sqt 4 rfl (sp rfl (PE.build (out:=htl ⟨0,[],[]⟩ (.slice none 0 0) (.slice none 0 0)) Z4Y Z2e rfl rfl) rfl (pur 1 rfl ?_))
 refine ZU (l':=htl ⟨0,[],[]⟩ (.slice none 0 0) (.slice none 0 0)) rfl rfl rfl Z24 rfl rfl rfl rfl (nl rfl) ?_
 refine pur 1 rfl (Z4 ?_)
 rw [Z1X he h0,he]
 exact Zf (vs:=[_,_]) rfl (.cons (RV.cell rfl (lhA [_,_,_] Z0e rfl rfl rfl)) (.cons (RV.tmp rfl) .nil)) rfl ⟨none,none,0,0,⟨Nat.le_refl _,Nat.le_refl _⟩,rfl,rfl,rfl⟩ (fun w h9=>St.norows2 (St.sub ((h9.del b8).del b4 |>.del b3 |>.del b2)))
 have h0:(h.add s).check=0:=Classical.byContradiction fun e=>by rw [decide_eq_true e] at hc2;cases hc2
 have he:=hgo.trans h0
 refine Z3 (sqt 3 rfl (spL rfl rfl (lhA (htl (h.add s) (.slice ax h.gaps.length cx) (.slice ay (h.add s).sights.length cy)) Z0e rfl rfl rfl) rfl ?_))
 refine ZU (l':=htl (h.add s) (.slice ax h.gaps.length cx) (.slice ay (h.add s).sights.length cy)) rfl rfl rfl Z24 rfl rfl rfl rfl (nl rfl) ?_
 refine pur 1 rfl (Z4 ?_)
 rw [Z1i he,he]
 exact Zf (vs:=[_,_]) rfl (.cons (RV.cell rfl (lhA [_,_,_] Z0e rfl rfl rfl)) (.cons (RV.tmp rfl) .nil)) rfl ⟨ax,ay,cx,cy,⟨hcx,hcy⟩,rfl,rfl,rfl⟩ (fun w h9=>((h9.del b8).del b4 |>.del b3 |>.del b2).facts (fun g hg=>by simp only [List.mem_cons] at hg ⊢;rcases hg with h8 | h8 | h8<;>simp [h8,Hse.add]))
 exact Zx
 exact Zx
theorem Z9Q {y:List Nat} {n:Nat} (hp:y.Pairwise (· < ·)) (hn:∀ j∈y,j<n):cnt n (msk (y.map fun (j:Nat)=>(j:Int)))=y.length:=by
 rw [← Z1J]
 congr 1
 refine Z7N (List.pairwise_lt_range.filter _) hp fun x=>?_
 rw [List.mem_filter,List.mem_range,Z1c (fun j hj=>by obtain ⟨k,_,rfl⟩:=List.mem_map.1 hj;omega)]
 constructor
 · rintro ⟨_,h⟩
   obtain ⟨k,hk,e⟩:=List.mem_map.1 h
   obtain rfl:k=x:=by omega
   exact hk
 · intro h;exact ⟨hn x h,List.mem_map.2 ⟨x,h,rfl⟩⟩
theorem ZbW {n m:Nat} (h:m<2 ^ n):msk (((List.range n).filter fun i=>m.testBit i).map fun (j:Nat)=>(j:Int))=m:=Z0P fun k=>by
 rw [Bool.eq_iff_iff,Z1c (fun j hj=>by obtain ⟨k,_,rfl⟩:=List.mem_map.1 hj;omega)]
 constructor
 · intro h1
   obtain ⟨j,hj,e⟩:=List.mem_map.1 h1
   obtain rfl:j=k:=by omega
   exact (List.mem_filter.1 hj).2
 · intro h1;exact List.mem_map.2 ⟨k,List.mem_filter.2 ⟨List.mem_range.2 (bits_lt h h1),h1⟩,rfl⟩
structure Org (h:Hse) (few:List Int):Prop where
 lt:∀ x∈few,0≤x∧x<h.bins
 srt:few.Pairwise (· < ·)
 ex:expl h.gaps (msk few) h.sights=true
 len:few.length=cnt h.bins.toNat (msk few)
 min:∀ m,m<2 ^ h.bins.toNat→expl h.gaps m h.sights=true→few.length≤cnt h.bins.toNat m
theorem Zi6 {h:Hse} (hk:h.ok) (ha:h.agr h.sights=true):∃ few,h.orgR=(few,0)∧Org h few:=by
 have hb:=hk.bins
 obtain ⟨m,hm,he⟩:=(Z4u hk hk.sights).1 ha
 have hset:∀ m,m<2 ^ h.bins.toNat→expl h.gaps m h.sights=true→(fun l=>expl h.gaps (msk l) h.sights) (((List.range h.bins.toNat).filter fun i=>m.testBit i).map fun (j:Nat)=>(j:Int))=true:=fun m hm he=>by
   dsimp only;rw [ZbW hm];exact he
 obtain ⟨x,hx⟩:=Z8k (has:=fun l=>expl h.gaps (msk l) h.sights) (n:=h.bins.toNat) (y:=(List.range h.bins.toNat).filter fun i=>m.testBit i) (List.pairwise_lt_range.filter _) (fun j hj=>List.mem_range.1 (List.mem_filter.1 hj).1) (hset m hm he)
 refine ⟨x,?_,?_⟩
 · unfold Hse.orgR
   rw [hse_ok.2 hk,ha,hx];rfl
 · obtain ⟨⟨y,rfl,h1,h2,h3⟩,h4⟩:=Z72 hx
   refine ⟨fun z hz=>?_,h1.map _ (fun a b hab=>by omega),h3,by rw [Z9Q h1 h2,List.length_map],fun m' hm' he'=>?_⟩
   · obtain ⟨j,hj,rfl⟩:=List.mem_map.1 hz
     have:=h2 j hj;omega
   · have h5:=h4 ((List.range h.bins.toNat).filter fun i=>m'.testBit i) (Nat.le_trans (List.length_filter_le _ _) (by simp)) (List.pairwise_lt_range.filter _) (fun j hj=>List.mem_range.1 (List.mem_filter.1 hj).1) (hset m' hm' he')
     unfold ahB at h5
     rw [List.length_map,List.length_map,Z1J] at h5
     rw [List.length_map]
     rcases Nat.lt_or_ge (cnt h.bins.toNat m') y.length with h6 | h6
     · rw [decide_eq_true (show cnt h.bins.toNat m'≠y.length by omega),decide_eq_true h6] at h5;cases h5
     · exact h6
theorem Zdh {h:Hse} (hk:h.ok) (ha:h.agr h.sights=true) {w:Int} (hw:0≤w∧w≤9):(h.surR w).2=0∧∀ x:Int,x∈(h.surR w).1↔∃ k:Nat,k<h.bins.toNat∧x=k∧∀ m,m<2 ^ h.bins.toNat→expl h.gaps m h.sights=true→(lv h.gaps 0 m w.toNat).testBit k=true:=by
 have hi:(!inB w 0 9)=false:=by simp [inB];omega
 have e:=ZaR (Z7S (hse_ok.2 hk) hi ha)
 rw [e]
 refine ⟨rfl,fun x=>?_⟩
 dsimp only
 rw [fltK_mem]
 refine exists_congr fun k=>?_
 have h1:=Zcs hk hk.sights (k:=k) hw
 unfold Hse.surB
 constructor
 · rintro ⟨h2,h3,h4⟩;exact ⟨h2,h4,h1.1 (by simpa using h3)⟩
 · rintro ⟨h2,h4,h3⟩;exact ⟨h2,by rw [h1.2 h3];rfl,h4⟩
theorem Zd8 {h:Hse} (hk:h.ok) (ha:h.agr h.sights=true) {w:Int} (hw:0≤w∧w≤9):(h.perR w).2=0∧∀ x:Int,x∈(h.perR w).1↔∃ k:Nat,k<h.bins.toNat∧x=k∧∃ m,m<2 ^ h.bins.toNat∧expl h.gaps m h.sights=true∧(lv h.gaps 0 m w.toNat).testBit k=true:=by
 have hi:(!inB w 0 9)=false:=by simp [inB];omega
 have e:=Zas (Z7S (hse_ok.2 hk) hi ha)
 have hl:=hk.lt
 rw [e]
 refine ⟨rfl,fun x=>?_⟩
 dsimp only
 rw [fltK_mem]
 refine exists_congr fun k=>?_
 have h1:=Zc3 hk hk.sights ha (k:=k) (week:=w)
 have h5:=Z8n (k:=k) hk.wth (Zie (Hse.ok.lt h hk).1 (Z5B hk (ss:=h.sights) (but := -1) (week:=0))) (cl:=0) (t:=w.toNat) (by unfold far;omega)
 rw [show ((w.toNat:Nat):Int)=w by omega] at h5
 unfold Hse.perB
 constructor
 · rintro ⟨h2,h3,h4⟩;exact ⟨h2,h4,h1.1 (h5.1 (of_decide_eq_true h3))⟩
 · rintro ⟨h2,h4,h3⟩;exact ⟨h2,decide_eq_true (h5.2 (h1.2 h3)),h4⟩
theorem Zfa (h:Hse) (w:Int):(h.surR w).1.length≤h.bins.toNat:=by
 unfold Hse.surR
 cases decide (h.wkE w=0) with
 | true=>exact Z0M _ _
 | false=>exact Nat.zero_le _
theorem ZeK (h:Hse) (w:Int):(h.perR w).1.length≤h.bins.toNat:=by
 unfold Hse.perR
 cases decide (h.wkE w=0) with
 | true=>exact Z0M _ _
 | false=>exact Nat.zero_le _
structure DelI (l:List Int) (p:Int→Bool) (i j:Nat) (c:List Int):Prop where
 len:c.length=l.length
 le:i<j∧j≤l.length
 pre:c.take i=(l.take j).filter (fun x=>!p x)
 suf:∀ q,j≤q→c[q]?=l[q]?
theorem Z1Q {l:List Int} {j:Nat} {x:Int} (h:l[j]?=some x):l.take (j+1)=l.take j++[x]:=by rw [List.take_add_one,h];rfl
theorem DelI.start {l:List Int} {p:Int→Bool} {k:Nat} (h:l.findIdx? p=some k):DelI l p k (k+1) l:=by
 obtain ⟨h1,h2,h3⟩:=List.findIdx?_eq_some_iff_getElem.1 h
 refine ⟨rfl,⟨by omega,by omega⟩,?_,fun _ _=>rfl⟩
 rw [Z1Q (List.getElem?_eq_getElem h1),List.filter_append,List.filter_cons,h2]
 have:(l.take k).filter (fun x=>!p x)=l.take k:=List.filter_eq_self.2 fun x hx=>by
   obtain ⟨q,hq,rfl⟩:=List.mem_iff_getElem.1 hx
   rw [List.length_take] at hq
   rw [List.getElem_take]
   have:=h3 q (by omega)
   simpa using this
 rw [this];simp
theorem DelI.skip {l:List Int} {p:Int→Bool} {i j:Nat} {c:List Int} (h:DelI l p i j c) {x:Int} (hx:l[j]?=some x) (hp:p x=true):DelI l p i (j+1) c:=by
 have hj:=(List.getElem?_eq_some_iff.1 hx).1
 refine ⟨h.len,⟨by have:=h.le;omega,by omega⟩,?_,fun q hq=>h.suf q (by omega)⟩
 rw [h.pre,Z1Q hx,List.filter_append,List.filter_cons,hp];simp
theorem DelI.keep {l:List Int} {p:Int→Bool} {i j:Nat} {c:List Int} (h:DelI l p i j c) {x:Int} (hx:l[j]?=some x) (hp:p x=false):DelI l p (i+1) (j+1) (c.set i x):=by
 have hj:=(List.getElem?_eq_some_iff.1 hx).1
 have hl:=h.le
 have hn:=h.len
 refine ⟨by rw [List.length_set];exact hn,⟨by omega,by omega⟩,?_,fun q hq=>by rw [List.getElem?_set_ne (by omega)];exact h.suf q (by omega)⟩
 rw [Z1Q hx,List.filter_append,List.filter_cons,hp,← h.pre,Z1Q (l:=c.set i x) (x:=x) (by rw [List.getElem?_set_self (by omega)]),List.take_set_of_le (Nat.le_refl _)];rfl
theorem DelI.done {l:List Int} {p:Int→Bool} {i:Nat} {c:List Int} (h:DelI l p i l.length c):c.take i=l.filter (fun x=>!p x)∧i=(l.filter (fun x=>!p x)).length:=by
 have h1:=h.pre
 rw [List.take_length] at h1
 refine ⟨h1,?_⟩
 rw [← h1,List.length_take,h.len]
 have:=h.le;omega
end Go.Proofs.YthijcgkicjljhaaGreat.Wv
namespace Go.Proofs.YthijcgkicjljhaaGreat
set_option linter.unusedSimpArgs false
set_option linter.unusedVariables false
open Go
theorem Z2f:Z1r Tryz.prog 126=some 6:=by kernel_rfl
theorem Zjg:cal Tryz.prog 43=true:=by kernel_rfl
theorem Zjh:cal Tryz.prog 44=true:=by kernel_rfl
theorem Zji:cal Tryz.prog 45=true:=by kernel_rfl
theorem Zjj:cal Tryz.prog 46=true:=by kernel_rfl
theorem Zjk:cal Tryz.prog 47=true:=by kernel_rfl
theorem Zjl:cal Tryz.prog 48=true:=by kernel_rfl
theorem Zjm:cal Tryz.prog 49=true:=by kernel_rfl
theorem ZjK:ZF Tryz.prog 126=some 6:=by kernel_rfl
theorem Z41:Z3a Tryz.prog 68=true:=by kernel_rfl
theorem Zk2:ZM Tryz.prog 126=some [(0,1),(1,1),(2,1),(3,1),(4,1),(5,1)]:=by kernel_rfl
theorem Zc6:ZM Tryz.prog 188=some [(0,1),(1,2)]:=by kernel_rfl
theorem Zi9:ZM Tryz.prog 190=some [(0,1),(1,1)]:=by kernel_rfl
theorem ZeO:ZM Tryz.prog 192=some [(0,1),(1,1),(2,1)]:=by kernel_rfl
theorem ZiG:ZM Tryz.prog 34=some [(0,1),(1,1)]:=by kernel_rfl
theorem Zf2:slE Tryz.prog 122=some (188,3):=by kernel_rfl
theorem Zkk:slE Tryz.prog 123=some (190,2):=by kernel_rfl
theorem Zkl:slE Tryz.prog 124=some (192,3):=by kernel_rfl
theorem Z36:slE Tryz.prog 30=some (3,1):=by kernel_rfl
theorem Zix:Zw Tryz.prog 126=some ([.int .i64 0,.int .i64 0,.int .i64 0,.slice none 0 0,.slice none 0 0,.slice none 0 0]):=by kernel_rfl
theorem Z3U:Zw Tryz.prog 188=some ([.int .i64 0,.int .i64 0,.int .i64 0]):=by kernel_rfl
theorem Zb7:Zw Tryz.prog 190=some ([.int .i64 0,.int .i64 0]):=by kernel_rfl
theorem Z8t:Zw Tryz.prog 192=some ([.int .i64 0,.int .i64 0,.int .i64 0]):=by kernel_rfl
theorem zl3:Zw Tryz.prog 3=some ([.int .i64 0]):=by kernel_rfl
theorem ZiL:Zw Tryz.prog 34=some ([.int .i64 0,.int .i64 0]):=by kernel_rfl
namespace Hn
def spF:List Spl:=[⟨0,0,6⟩,⟨1,5,14⟩,⟨2,14,20⟩]
def wtF:Wt:=⟨24,1,3,[⟨0,100,102⟩,⟨6,90,92⟩,⟨12,80,84⟩,⟨20,70,71⟩],[⟨4,-2⟩,⟨15,10⟩],spF⟩
theorem wtF_ok:wtF.ok where
 hours:=by decide
 allow:=by decide
 hands:=by decide
 nc:=by decide
 nb:=by decide
 ns:=by decide
 cnt:=fun c hc=>by
   simp only [wtF,List.mem_cons,List.not_mem_nil,or_false] at hc
   rcases hc with rfl | rfl | rfl | rfl<;>simp [wtF]
 bks:=fun c hc=>by
   simp only [wtF,List.mem_cons,List.not_mem_nil,or_false] at hc
   rcases hc with rfl | rfl<;>simp [wtF]
 spl:=fun c hc=>by
   simp only [wtF,spF,List.mem_cons,List.not_mem_nil,or_false] at hc
   rcases hc with rfl | rfl | rfl<;>simp [wtF]
 inc:=fun i c d h1 h2=>by
   match i,h1,h2 with
   | 0,h1,h2=>cases h1;cases h2;decide
   | 1,h1,h2=>cases h1;cases h2;decide
   | 2,h1,h2=>cases h1;cases h2;decide
   | 3,h1,h2=>cases h2
   | i+4,h1,h2=>cases h1
theorem wtF_clash:wtF.clash=false:=by decide
theorem wtF_prv:wtF.prv wtF.full=17:=by decide
end Hn
theorem ZdE (H:Z7) (R:Z5) :
    Fn Tryz.prog 49 [.int .i64 14] H R (fun v H' R'=>∃ a c,v = .slice a Hn.spF.length c∧H'=H∧R'=RowsA a 3 (Hn.sprows Hn.spF)::R):=by
 refine Z8 Tryz.func49 rfl Tryz.ntmps49 rfl ?_
 refine sqt 1 rfl (pur 1 rfl (sqt 6 rfl (sp rfl (PE.build (out:=[_,_,_]) ZeO Z8t rfl rfl) rfl (pur 1 rfl (sp rfl (PE.build (out:=[_,_,_]) ZeO Z8t rfl rfl) rfl (sp rfl (PE.build (out:=[_,_,_]) ZeO Z8t rfl rfl) rfl ?_))))))
 refine bsl (out:=[_,_,_,_,_,_,_,_,_]) rfl Zkl Z8t rfl rfl rfl rfl rfl rfl (fun b7=>?_)
 refine pur 1 rfl (Z4 ?_)
 refine Sy.heap (fun w h=>St.rows (b:=b7) (sz:=3) (rows:=Hn.sprows Hn.spF) (rest:=[]) ((h).pull b7) (by simp [Hn.crow,Hn.crows,Hn.bkrow,Hn.bkrows,Hn.sprow,Hn.sprows,Hn.wtF,Hn.spF])) ?_
 exact rtA rfl rfl rfl ⟨some ⟨b7,0,none⟩,3,rfl,rfl,rfl⟩ idH
theorem ZdF (a:Option Addr) (c:Nat) (H:Z7) (R:Z5) :
    Fn Tryz.prog 48 [.slice a Hn.spF.length c] H R (fun v H' R'=>∃ a1 a2 k1 k2,v=Hn.wtF.v a1 a2 a k1 k2 c∧H'=H∧R'=RowsA a2 2 (Hn.bkrows Hn.wtF.books)::RowsA a1 3 (Hn.crows Hn.wtF.counts)::R):=by
 refine Z8 Tryz.func48 rfl Tryz.ntmps48 rfl ?_
 refine sqt 1 rfl (alc rfl Zix rfl (fun b2=>sqt 15 rfl (sp rfl (PE.build (out:=[_,_]) ZiG ZiL rfl rfl) rfl (sp rfl (PE.build (out:=[_,_,_]) Zc6 Z3U rfl rfl) rfl (sp rfl (PE.build (out:=[_,_]) ZiG ZiL rfl rfl) rfl (sp rfl (PE.build (out:=[_,_,_]) Zc6 Z3U rfl rfl) rfl (sp rfl (PE.build (out:=[_,_]) ZiG ZiL rfl rfl) rfl (sp rfl (PE.build (out:=[_,_,_]) Zc6 Z3U rfl rfl) rfl (sp rfl (PE.build (out:=[_,_]) ZiG ZiL rfl rfl) rfl (sp rfl (PE.build (out:=[_,_,_]) Zc6 Z3U rfl rfl) rfl ?_))))))))))
 refine bsl (out:=[_,_,_,_,_,_,_,_,_,_,_,_]) rfl Zf2 Z3U rfl rfl rfl rfl rfl rfl (fun b11=>?_)
 refine sp rfl (PE.build (out:=[_,_]) Zi9 Zb7 rfl rfl) rfl (sp rfl (PE.build (out:=[_,_]) Zi9 Zb7 rfl rfl) rfl ?_)
 refine bsl (out:=[_,_,_,_]) rfl Zkk Zb7 rfl rfl rfl rfl rfl rfl (fun b14=>?_)
 refine pur 1 rfl (sp rfl (PE.build (out:=[_,_,_,_,_,_]) Zk2 Zix rfl rfl) rfl ?_)
 refine sto rfl rfl rfl ZjK rfl rfl rfl rfl ?_
 refine Z4 ?_
 refine Sy.heap (fun w h=>St.rows (b:=b14) (sz:=2) (rows:=Hn.bkrows Hn.wtF.books) (rest:=[]) ((St.rows (b:=b11) (sz:=3) (rows:=Hn.crows Hn.wtF.counts) (rest:=[]) ((h).pull b11) (by simp [Hn.crow,Hn.crows,Hn.bkrow,Hn.bkrows,Hn.sprow,Hn.sprows,Hn.wtF,Hn.spF])).pull b14) (by simp [Hn.crow,Hn.crows,Hn.bkrow,Hn.bkrows,Hn.sprow,Hn.sprows,Hn.wtF,Hn.spF])) ?_
 exact Zf (vs:=[_]) rfl (.cons (RV.cell rfl (lhA (Hn.wtl Hn.wtF (some ⟨b11,0,none⟩) (some ⟨b14,0,none⟩) a 4 2 c) Z2f rfl rfl rfl)) .nil) rfl ⟨some ⟨b11,0,none⟩,some ⟨b14,0,none⟩,4,2,rfl,rfl,rfl⟩ (fun w h=>h.del b2)
set_option maxHeartbeats 400000 in
theorem Z8P (H:Z7) (R:Z5) :
    FnV Tryz.prog 16 [] H R (.bool true):=by
 refine Z8 Tryz.func16 rfl Tryz.ntmps16 rfl ?_
 refine sqt 1 rfl (pur 1 rfl (sqt 8 rfl ?_))
 refine bsl (out:=[_,_,_]) rfl Z36 zl3 rfl rfl rfl rfl rfl rfl (fun b8=>?_)
 refine Sy.heap (fun w h=>St.rows (b:=b8) (sz:=1) (rows:=Ro.irows [0,1,2]) (rest:=[]) (h.pull b8) (by simp)) ?_
 refine cl rfl Zjh rfl rfl (Ro.c_Three (some ⟨b8,0,none⟩) 3 _ _) ?_
 rintro _ _ _ ⟨att,ct,rfl,rfl,rfl⟩
 refine cl rfl Zjg rfl rfl (Ro.c_FewestT att ct _ _) ?_
 rintro _ _ R1 ⟨afw,cfw,rfl,rfl,hR1⟩
 obtain rfl:=hR1.symm
 clear hR1
 refine pur 5 rfl (sqt 7 rfl ?_)
 refine cl rfl Zjj rfl rfl (Fl.c_Two _ _) ?_
 rintro _ _ _ ⟨pa,pb,pc,pd,pe,pf,rfl,rfl,rfl⟩
 refine clV rfl Zji rfl rfl (Fl.c_MostT pa pb pc pd pe pf _ _) ?_
 refine pur 5 rfl (sqt 8 rfl ?_)
 refine cl rfl Zjm rfl rfl (ZdE _ _) ?_
 rintro _ _ _ ⟨asp,csp,rfl,rfl,rfl⟩
 refine cl rfl Zjl rfl rfl (ZdF asp csp _ _) ?_
 rintro _ _ _ ⟨a1,a2,k1,k2,rfl,rfl,rfl⟩
 refine cl rfl Zjk rfl rfl (Hn.c_Missing Hn.wtF a1 a2 asp k1 k2 csp Hn.wtF_ok Hn.wtF_clash _ _) ?_
 rintro _ _ R1 ⟨rfl,rfl,hR1⟩
 obtain rfl:=hR1.symm
 clear hR1
 rw [Hn.wtF_prv]
 refine pur 5 rfl (sqt 24 rfl (pur 3 rfl ?_))
 refine Zr 26 rfl ?_ ?_<;>intro g26
 refine pur 4 rfl ?_
 refine Zr 30 rfl ?_ ?_<;>intro g30
 refine pur 4 rfl ?_
 refine Zr 34 rfl ?_ ?_<;>intro g34
 refine pur 1 rfl ?_
 refine spG rfl rfl rfl rfl (PE.lenSl Z41 rfl) rfl ?_
 refine pur 3 rfl ?_
 refine Zr 39 rfl ?_ ?_<;>intro g39
 refine pur 4 rfl ?_
 refine Zr 43 rfl ?_ ?_<;>intro g43
 refine pur 4 rfl (Z4 ?_)
 exact rtA rfl rfl rfl ⟨rfl,rfl,rfl⟩ (fun w h=>St.sub h)
 exact absurd g43 (by simp)
 exact absurd g39 (by simp)
 exact absurd g34 (by simp)
 exact absurd g30 (by simp)
 exact absurd g26 (by simp)
end Go.Proofs.YthijcgkicjljhaaGreat
namespace Go.Proofs.YthijcgkicjljhaaGreat.Wv
set_option linter.unusedSimpArgs false
set_option linter.unusedVariables false
open Go
theorem ZaT {h:Hse} (hk:h.ok) (ha:h.agr h.sights=true) {l:List Int} (hl:∀ x∈l,0≤x∧x<h.bins) (he:expl h.gaps (msk l) h.sights=true) {w:Int} (hw:0≤w∧w≤9) {b:Nat} (hb:b<h.bins.toNat) :
   (Z4f (h.surR w).1 (b:Int)=true→na (Z6h h.gaps (clP []) (msk l) h.bins.toNat) b≤w)∧(na (Z6h h.gaps (clP []) (msk l) h.bins.toNat) b≤w→Z4f (h.perR w).1 (b:Int)=true)∧(Z4f (h.surR w).1 (b:Int)=true→Z4f (h.perR w).1 (b:Int)=true):=by
 have hbn:=hk.bins
 have hm:msk l<2 ^ h.bins.toNat:=Z2n fun x hx=>by have:=hl x hx;omega
 have hf:na (Z6h h.gaps (clP []) (msk l) h.bins.toNat) b≤w↔(lv h.gaps 0 (msk l) w.toNat).testBit b=true:=by
   rw [Z4P hb,show clP []=fun _=>0 from rfl,← ZhR hk.wth (Zie (Hse.ok.lt h hk).1 hm) (show w.toNat<100 by omega),show ((w.toNat:Nat):Int)=w by omega]
 have h1:Z4f (h.surR w).1 (b:Int)=true→(lv h.gaps 0 (msk l) w.toNat).testBit b=true:=fun hs=>by
   obtain ⟨k,_,h3,h4⟩:=((Zdh hk ha hw).2 _).1 (hasI_iff.1 hs)
   obtain rfl:b=k:=by omega
   exact h4 _ hm he
 have h2:(lv h.gaps 0 (msk l) w.toNat).testBit b=true→Z4f (h.perR w).1 (b:Int)=true:=fun hv=>hasI_iff.2 (((Zd8 hk ha hw).2 _).2 ⟨b,hb,rfl,_,hm,he,hv⟩)
 exact ⟨fun hs=>hf.2 (h1 hs),fun hv=>h2 (hf.1 hv),fun hs=>h2 (h1 hs)⟩
theorem ZbE {h:Hse} {few:List Int} (hf:Org h few) {p:Nat→Bool} (he:expl h.gaps (msk (Z0A p h.bins.toNat)) h.sights=true):few.length≤(Z0A p h.bins.toNat).length:=by
 have h1:∀ j∈(List.range h.bins.toNat).filter p,j<h.bins.toNat:=fun j hj=>List.mem_range.1 (List.mem_filter.1 hj).1
 have h2:=Z9Q (n:=h.bins.toNat) (y:=(List.range h.bins.toNat).filter p) (List.pairwise_lt_range.filter _) h1
 have h3:=hf.min (msk (Z0A p h.bins.toNat)) (Z2n fun x hx=>by obtain ⟨k,h5,_,rfl⟩:=fltK_mem.1 hx;omega) he
 rw [show msk (Z0A p h.bins.toNat)=msk (((List.range h.bins.toNat).filter p).map fun (j:Nat)=>(j:Int)) from rfl,h2] at h3
 unfold Z0A;rw [List.length_map];exact h3
theorem Z6m (h:Hse) (ag as_:Option Addr) (cg cs:Nat) (hok:h.ok) (l:List Int) (a:Option Addr) (c:Nat) (hle:Z1S h.bins l=0) (he:expl h.gaps (msk l) h.sights=true) (hl:l.length≤1000000) (hlc:l.length≤c) (H:Z7) (R:Z5) [hG:MemRows ag 2 (Zy h.gaps) R] [hS:MemRows as_ 3 (Zs h.sights) R] [hR:MemRows a 1 (irows l) R]:FnV Tryz.prog 24 [h.v (h.sg ag cg) (h.ss as_ cs),.slice a l.length c] H R (.tuple #[.bool true,.int .i64 0]):=by
 have h1:=Z7V h ag as_ cg cs (by have:=hok.gl;omega) (by have:=hok.sl;omega) l a c (by omega) hlc H R
 rw [(Zal (hse_ok.2 hok)).trans hle,he] at h1
 exact h1
theorem Z4q {h:Hse} (hk:h.ok) (l:List Int):(h.weeksV l).length=h.bins.toNat:=by
 unfold Hse.weeksV
 rw [List.length_take,Z2T,ZV]
 have:=hk.bins;omega
theorem Zb3 {h:Hse} (hk:h.ok) (l:List Int) {k:Nat} (hk2:k<h.bins.toNat):na (h.weeksV l) k=wkN h.gaps (msk l) k:=by
 have hb:=hk.bins
 unfold na Hse.weeksV wkR
 rw [List.getD_eq_getElem?_getD,List.getElem?_take,if_pos hk2,List.getElem?_map,na_get (by rw [ZV];omega),Z1n (by omega)];rfl
theorem ZbR {h:Hse} (hk:h.ok) {l:List Int} (hl:Z1S h.bins l=0):h.lsE l=0:=(Zal (hse_ok.2 hk)).trans hl
theorem ZbH {h:Hse} (hk:h.ok) {l:List Int} (hm:msk l<2 ^ 7) {k:Nat} (hk2:k<h.bins.toNat):(99<na (Z6h h.gaps (clP []) (msk l) h.bins.toNat) k∧na (h.weeksV l) k = -1)∨(¬ 99<na (Z6h h.gaps (clP []) (msk l) h.bins.toNat) k∧na (h.weeksV l) k=na (Z6h h.gaps (clP []) (msk l) h.bins.toNat) k):=by
 rw [Zb3 hk l hk2,Z4P hk2,show clP []=fun _=>0 from rfl,Z7x hk.wth hm]
 unfold wkN
 have h3:=Z5i h.gaps 0 (msk l) k
 by_cases h1:far≤wk h.gaps 0 (msk l) k
 · rw [decide_eq_true h1];exact .inl ⟨by show (99:Int)<100;decide,rfl⟩
 · rw [decide_eq_false h1];exact .inr ⟨by show ¬ 99<wk h.gaps 0 (msk l) k;unfold far at *;omega,rfl⟩
theorem Zbp (h:Hse) (ag as_:Option Addr) (cg cs:Nat) (hok:h.ok) (l:List Int) (a:Option Addr) (c:Nat) (hle:Z1S h.bins l=0) (hl:l.length≤1000000) (hlc:l.length≤c) (H:Z7) (R:Z5) [hG:MemRows ag 2 (Zy h.gaps) R] [hS:MemRows as_ 3 (Zs h.sights) R] [hR:MemRows a 1 (irows l) R]:Fn Tryz.prog 18 [h.v (h.sg ag cg) (h.ss as_ cs),.slice a l.length c] H R (fun v H' R'=>∃ a c',v = .tuple #[.slice a h.bins.toNat c',.int .i64 0]∧H'=H∧R'=RowsA a 1 (irows (h.weeksV l))::R):=fun w hw=>by
 refine CallsIn.mono (ZdH h ag as_ cg cs (by have:=hok.gl;omega) (by have:=hok.sl;omega) l a c (by omega) hlc H R w hw) ?_
 rintro e' w' ⟨u,H',R',⟨a',c',h1,rfl,rfl,rfl⟩,he,hs'⟩
 have e:=Z6d (ZbR hok hle)
 rw [e] at hs' he
 exact ⟨_,_,_,⟨a',c',by rw [Z4q hok],rfl,rfl⟩,he,hs'⟩
end Go.Proofs.YthijcgkicjljhaaGreat.Wv
