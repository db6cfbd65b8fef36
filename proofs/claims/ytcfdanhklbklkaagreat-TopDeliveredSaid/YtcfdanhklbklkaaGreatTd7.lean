/- Walks of the functions of the program, and the laws that join them: what the last theorem of this claim needs, in order. -/
import Derived.Test.YtcfdanhklbklkaaGreatTd6
namespace Go.Proofs.YtcfdanhklbklkaaGreat.Gt
set_option linter.unusedSimpArgs false
set_option linter.unusedVariables false
open Go
theorem Z1y:Z0W Tryz.prog 153=some 8:=by kernel_rfl
theorem Z2R:Z0W Tryz.prog 37=some 2:=by kernel_rfl
theorem Z5H:Z0W Tryz.prog 65=some 3:=by kernel_rfl
theorem Z2b:Z0W Tryz.prog 68=some 3:=by kernel_rfl
theorem Z30:arN Tryz.prog 153=some (4,2):=by kernel_rfl
theorem Zkj:arE Tryz.prog 153=some (4,37):=by kernel_rfl
theorem Z54:cal Tryz.prog 105=true:=by kernel_rfl
theorem ZkS:cal Tryz.prog 106=true:=by kernel_rfl
theorem ZgT:cal Tryz.prog 169=true:=by kernel_rfl
theorem Zlm:cal Tryz.prog 170=true:=by kernel_rfl
theorem Zfs:cal Tryz.prog 52=true:=by kernel_rfl
theorem Z33:Zz Tryz.prog 153=some 8:=by kernel_rfl
theorem Z34:Zz Tryz.prog 37=some 2:=by kernel_rfl
theorem Zk6:Zz Tryz.prog 79=some 5:=by kernel_rfl
theorem Zn2:eqB Tryz.prog 10000 153=some (true,8):=by kernel_rfl
theorem Zb4:eqB Tryz.prog 10000 37=some (true,2):=by kernel_rfl
theorem Zn4:Tryz.prog.eqGuardType Tryz.prog.depth 153=false:=by kernel_rfl
theorem ZcJ:Tryz.prog.eqGuardType Tryz.prog.depth 37=false:=by kernel_rfl
theorem ZiY:ZG Tryz.prog 216 0=some 0:=by kernel_rfl
theorem Z8W:ZG Tryz.prog 220 0=some 0:=by kernel_rfl
theorem Z6P:ZG Tryz.prog 220 1=some 3:=by kernel_rfl
theorem ZH:ZG Tryz.prog 37 0=some 0:=by kernel_rfl
theorem ZI:ZG Tryz.prog 37 1=some 1:=by kernel_rfl
theorem ZpC:ZD Tryz.prog 220=some [(0,3),(3,3)]:=by kernel_rfl
theorem Z3Z:ZD Tryz.prog 37=some [(0,1),(1,1)]:=by kernel_rfl
theorem Z49:Zp Tryz.prog 153=some ([.int .i64 0,.int .i64 0,.int .i64 0,.int .i64 0,.int .i64 0,.int .i64 0,.int .i64 0,.int .i64 0]):=by kernel_rfl
theorem Zq8:Zp Tryz.prog 220=some ([.int .i64 0,.int .i64 0,.slice none 0 0,.int .i64 0,.int .i64 0,.slice none 0 0]):=by kernel_rfl
theorem Z1s:Zp Tryz.prog 37=some ([.int .i64 0,.int .i64 0]):=by kernel_rfl
theorem Zk0:Zp Tryz.prog 79=some ([.int .i64 0,.int .i64 0,.int .i64 0,.int .i64 0,.int .i64 0]):=by kernel_rfl
theorem Zf7 {b:Box} (hb:b.length=8) {k:Nat} (hk:k<4):(Ze b).drop (0+((k:Nat):Int).toNat*2)=[.int .i64 (bl b k),.int .i64 (bh b k)]++(Ze b).drop (2*k+2):=by
 obtain ⟨a0,a1,a2,a3,a4,a5,a6,a7,rfl⟩:=Z6Y hb
 rcases lt4 hk with rfl | rfl | rfl | rfl<;>rfl
theorem Z4Q {b:Box} (hb:b.length=8) {k:Nat} (hk:k<4) (s:Int×Int):(Ze (Z2S b k s)).drop (0+((k:Nat):Int).toNat*2)=[.int .i64 s.1,.int .i64 s.2]++(Ze b).drop (2*k+2):=by
 obtain ⟨a0,a1,a2,a3,a4,a5,a6,a7,rfl⟩:=Z6Y hb
 rcases lt4 hk with rfl | rfl | rfl | rfl<;>rfl
theorem Z9j {b:Box} (hb:b.length=8) {k:Nat} (hk:k<4) (x y:Int):spl (Ze b) (0+((k:Nat):Int).toNat*2) [.int .i64 x,.int .i64 y]=Ze (Z2S b k (x,y)):=by
 obtain ⟨a0,a1,a2,a3,a4,a5,a6,a7,rfl⟩:=Z6Y hb
 rcases lt4 hk with rfl | rfl | rfl | rfl<;>rfl
theorem ZbM {b:Box} (hb:b.length=8) {k:Nat} (hk:k<4) (s t:Int×Int):Z2S (Z2S b k s) k t=Z2S b k t:=by
 obtain ⟨a0,a1,a2,a3,a4,a5,a6,a7,rfl⟩:=Z6Y hb
 rcases lt4 hk with rfl | rfl | rfl | rfl<;>rfl
theorem Zf8 {b:Box} (hb:b.length=8) {k:Nat} (hk:k<4):(b.drop (k*2)).take 2=[bl b k,bh b k]:=by
 obtain ⟨a0,a1,a2,a3,a4,a5,a6,a7,rfl⟩:=Z6Y hb
 rcases lt4 hk with rfl | rfl | rfl | rfl<;>rfl
theorem Zdh {h:Hnd} {k:Nat} (hk:k<4):(Z2d h)[0+1+((k:Nat):Int).toNat*1]?=some (.int .i64 (nn h.gs k)):=by
 rcases lt4 hk with rfl | rfl | rfl | rfl<;>rfl
theorem mix_at {m:List Int} (hm:m.length=4) {k:Nat} (hk:k<4):(Ze m)[0+((k:Nat):Int).toNat*1]?=some (.int .i64 (nn m k)):=by
 obtain ⟨a,b,c,d,rfl⟩:=Z37 hm
 rcases lt4 hk with rfl | rfl | rfl | rfl<;>rfl
theorem Z7g {m:List Int} (hm:m.length=4) {k:Nat} (hk:k<4) (v:Int):spl (Ze m) (0+((k:Nat):Int).toNat*1) [.int .i64 v]=Ze (m.set k v):=by
 obtain ⟨a,b,c,d,rfl⟩:=Z37 hm
 rcases lt4 hk with rfl | rfl | rfl | rfl<;>rfl
theorem Z9r {m n:Int} (hm : -1000000≤m∧m≤1000000) (hn:1≤n):IntKind.i64.wrap (m.tdiv n)=m.tdiv n:=by
 have h : -1000000≤m.tdiv n∧m.tdiv n≤1000000:=by
   by_cases h0:0≤m
   · rw [Int.tdiv_eq_ediv_of_nonneg h0]
     have:=Int.ediv_le_self (a:=m) n h0
     have:=Int.ediv_nonneg h0 (show 0≤n by omega)
     omega
   · have h4:m.tdiv n = -((-m).tdiv n):=by rw [Int.neg_tdiv];omega
     have h5:0≤(-m).tdiv n:=Int.tdiv_nonneg (by omega) (by omega)
     have h6:(-m).tdiv n ≤ -m:=by rw [Int.tdiv_eq_ediv_of_nonneg (by omega)];exact Int.ediv_le_self n (by omega)
     omega
 exact Z1f (by omega) (by omega)
def ZgD (miss:Int) (hs:List Hnd) (f:Nat→Bool):Nat→Box
 | 0=>[0,0,0,0,0,0,0,0]
 | k+1=>Z2S (ZgD miss hs f k) k (Z4t miss hs f k)
theorem Z9C (miss:Int) (hs:List Hnd) (f:Nat→Bool):∀ k,(ZgD miss hs f k).length=8
 | 0=>rfl
 | k+1=>by unfold ZgD;rw [Z3h,Z9C miss hs f k]
theorem Zf6 (miss:Int) (hs:List Hnd) (f:Nat→Bool):ZgD miss hs f 4=Z5T miss hs f:=rfl
theorem Zek {miss:Int} {hs:List Hnd} {f:Nat→Bool} {k n:Nat} {h:Hnd} (hh:hs[n]?=some h) (hf:f n=true):Z0r miss hs f k (n+1)=met (Z0r miss hs f k n).1 (Z0r miss hs f k n).2 (ZfW miss h k).1 (ZfW miss h k).2:=by
 rw [Z0r,hh];simp only [hf,cond_true]
theorem Zbj {miss:Int} {hs:List Hnd} {f:Nat→Bool} {k n:Nat} {h:Hnd} (hh:hs[n]?=some h) (hf:f n=false):Z0r miss hs f k (n+1)=Z0r miss hs f k n:=by
 rw [Z0r,hh];simp only [hf,cond_false]
def Z5o (f:Nat→Int) (k:Nat):Nat→Int
 | 0=>0
 | j+1=>Z5o f k j+bif j == k then 0 else f j
theorem ZdU (f:Nat→Int) {k:Nat} (hk:k<4):Z5o f k 4=oth f k:=by
 rcases lt4 hk with rfl | rfl | rfl | rfl<;>simp [Z5o,oth]
theorem ZdT {b:Box} (hb:Bok b) (k:Nat):∀ j,j≤4→(0≤Z5o (bl b) k j∧Z5o (bl b) k j≤40*j)∧(0≤Z5o (bh b) k j∧Z5o (bh b) k j≤40*j)
 | 0,_=>by simp [Z5o]
 | j+1,hj=>by
   have ih:=ZdT hb k j (by omega)
   have h:=hb.at_ j (by omega)
   unfold Z5o
   cases j == k<;>simp only [cond_true,cond_false]<;>omega
theorem Ze6 {b:Box} {k:Nat}:∀ {j:Nat},Z5F b k=none→k≤j→Z5F b j=none
 | 0,h,hj=>by
   have:k=0:=by omega
   subst this;exact h
 | j+1,h,hj=>by
   rcases Nat.lt_or_ge j k with h1 | h1
   · obtain rfl:k=j+1:=by omega
     exact h
   · unfold Z5F;rw [Ze6 h h1]
theorem Z1j (g:Gat) (ag:Option Addr) (cg:Nat) (hlg:g.grs.length≤9223372036854775807) (c:Crt) (ah:Option Addr) (ch:Nat) (hlh:c.hs.length≤9223372036854775807) (H:Z6) (R:Z5) [hG:MemRows ag 5 (grows g.grs) R] [hA:MemRows ah 5 (hrows c.hs) R] :
    Fn Tryz.prog 51 [g.v (g.sl ag cg),c.v (c.sl ah ch)] H R (fun v H' R'=>H'=H∧((Z1J g c≠0∧v = .tuple #[.pointer none,.int .i64 (Z1J g c)]∧R'=R)∨(g.ok∧c.ok∧Z1J g c=0∧∃ bw,v = .tuple #[.pointer (some ⟨bw,0,none⟩),.int .i64 0]∧R'=RowsA (some ⟨bw,0,none⟩) 6 [Zgu g c (g.sl ag cg) (c.sl ah ch)]::R))):=by
 refine Zc Tryz.func51 rfl Tryz.ntmps51 rfl ?_
 refine sqt 4 rfl (bx rfl rfl rfl (fun b2=>bx rfl rfl rfl (fun b3=>pur 2 rfl (Z0 (sqt 3 rfl (spL rfl rfl (lhA [_,_,_] Z5H rfl rfl rfl) rfl ?_))))))
 refine clV rfl ZkS rfl rfl (Z1K g ag cg hlg _ _) ?_
 refine pur 1 rfl (sqt 2 rfl (pur 2 rfl ?_))
 refine Z1 rfl ?_ ?_<;>intro hc0
 have e:Z1J g c=g.check:=by simp [Z1J,hc0]
 have hne:Z1J g c≠0:=by rw [e];simpa using hc0
 refine sqt 3 rfl (pur 3 rfl (Z4 ?_))
 first
   | (rw [h1] at e;refine Sy.heap (fun w h=>St.rows (sz:=6) (rows:=[Zgu g c (g.sl ag cg) (c.sl ah ch)]) (rest:=[]) h (by intro r hr;obtain rfl:=List.mem_singleton.1 hr;rfl)) ?_;exact rtB rfl rfl rfl rfl ⟨rfl,.inr ⟨gat_ok.1 h0,crt_ok.1 h1,e,_,rfl,rfl⟩⟩ drp)
   | (rw [← e];exact rtB rfl rfl rfl rfl ⟨rfl,.inl ⟨hne,rfl,rfl⟩⟩ drp)
 have h0:g.check=0:=by simpa using hc0
 have e:Z1J g c=c.check:=by simp [Z1J,h0]
 refine Z3 (Z0 (sqt 3 rfl (spL rfl rfl (lhA [_,_,_] Z2b rfl rfl rfl) rfl ?_)))
 refine clV rfl Zfs rfl rfl (Z1L c ah ch hlh _ _) ?_
 refine pur 1 rfl (sqt 2 rfl (pur 2 rfl ?_))
 refine Z1 rfl ?_ ?_<;>intro hc1
 have hne:Z1J g c≠0:=by rw [e];simpa using hc1
 refine sqt 3 rfl (pur 3 rfl (Z4 ?_))
 first
   | (rw [h1] at e;refine Sy.heap (fun w h=>St.rows (sz:=6) (rows:=[Zgu g c (g.sl ag cg) (c.sl ah ch)]) (rest:=[]) h (by intro r hr;obtain rfl:=List.mem_singleton.1 hr;rfl)) ?_;exact rtB rfl rfl rfl rfl ⟨rfl,.inr ⟨gat_ok.1 h0,crt_ok.1 h1,e,_,rfl,rfl⟩⟩ drp)
   | (rw [← e];exact rtB rfl rfl rfl rfl ⟨rfl,.inl ⟨hne,rfl,rfl⟩⟩ drp)
 have h1:c.check=0:=by simpa using hc1
 refine Z3 (sqt 6 rfl (spL rfl rfl (lhA [_,_,_] Z2b rfl rfl rfl) rfl (spL rfl rfl (lhA [_,_,_] Z5H rfl rfl rfl) rfl (sp rfl (PE.build (out:=Zgu g c (g.sl ag cg) (c.sl ah ch)) ZpC Zq8 rfl rfl) rfl (bx rfl rfl rfl (fun b21=>pur 2 rfl (Z4 ?_)))))))
 first
   | (rw [h1] at e;refine Sy.heap (fun w h=>St.rows (sz:=6) (rows:=[Zgu g c (g.sl ag cg) (c.sl ah ch)]) (rest:=[]) h (by intro r hr;obtain rfl:=List.mem_singleton.1 hr;rfl)) ?_;exact rtB rfl rfl rfl rfl ⟨rfl,.inr ⟨gat_ok.1 h0,crt_ok.1 h1,e,_,rfl,rfl⟩⟩ drp)
   | (rw [← e];exact rtB rfl rfl rfl rfl ⟨rfl,.inl ⟨hne,rfl,rfl⟩⟩ drp)
theorem Zfh (g:Gat) (hg:g.ok) (ag:Option Addr) (cg:Nat) (c:Crt) (hc:c.ok) (ah:Option Addr) (ch:Nat) (bw:Nat) (H:Z6) (R:Z5) [hW:MemRows (some ⟨bw,0,none⟩) 6 [Zgu g c (g.sl ag cg) (c.sl ah ch)] R] [hG:MemRows ag 5 (grows g.grs) R] [hA:MemRows ah 5 (hrows c.hs) R] :
    FnV Tryz.prog 50 [.pointer (some ⟨bw,0,none⟩)] H R (spv (max 0 (c.full-c.empty-2*g.err)) (max 0 (c.full-c.empty+2*g.err))):=by
 refine Zc Tryz.func50 rfl Tryz.ntmps50 rfl ?_
 refine sqt 1 rfl (alc rfl Z1s rfl (fun b2=>Z0 ?_))
 refine Za [0,1,3,7,15,0,32,96,224,480,1023,2047] (tks 0 4 (.ld 4 (tks 5 4 (.ld 9 (.tk 10 (.tk 11 .done)))))) Zl (by kernel_rfl) ?_
 refine Zg 1 rfl (tk rfl (PE.nilCheck rfl) rfl (tk rfl (PE.fA Z8W rfl) rfl (tk rfl (PE.fA Zd3 rfl) rfl (ld rfl rfl (lfB (sz:=6) sc3 rfl) rfl (Zg 1 rfl (tk rfl (PE.nilCheck rfl) rfl (tk rfl (PE.fA Z8W rfl) rfl (tk rfl (PE.fA Zd4 rfl) rfl (ld rfl rfl (lfB (sz:=6) sc3 rfl) rfl (tk rfl (PE.sub rfl rfl (by have:=hc.full;have:=hc.empty;have:=hg.err;omega)) rfl (Zg 1 rfl (Z0 ?_))))))))))))
 refine Za [0,0,2,6,14,30,62,127,255,511,0,0,2048,6144,14336,30720,63488,130048,261120,524287,1048575,2097151] (tks 0 5 (.ld 5 (.tk 6 (.tk 7 (tks 10 5 (.ld 15 (.tk 16 (.tk 17 (.any (.alt 8 (.any (.alt 9 (.big 18 (.big 19 (.tk 20 (.big 21 .done)))) (.alt 18 (.big 9 (.big 19 (.tk 20 (.big 21 .done)))) .stop))) (.alt 18 (.big 8 (.big 9 (.big 19 (.tk 20 (.big 21 .done))))) .stop))))))))))) Zl (by kernel_rfl) ?_
 refine Zg 2 rfl (tk rfl (PE.nilCheck rfl) rfl (tk rfl (PE.fA Z6P rfl) rfl (tk rfl (PE.fA Zd2 rfl) rfl (ld rfl rfl (lfB (sz:=6) sc3 rfl) rfl (tk rfl (PE.mul rfl rfl (by have:=hc.full;have:=hc.empty;have:=hg.err;omega)) rfl (tk rfl (PE.sub rfl rfl (by have:=hc.full;have:=hc.empty;have:=hg.err;omega)) rfl (Zg 2 rfl (tk rfl (PE.nilCheck rfl) rfl (tk rfl (PE.fA Z6P rfl) rfl (tk rfl (PE.fA Zd2 rfl) rfl (ld rfl rfl (lfB (sz:=6) sc3 rfl) rfl (tk rfl (PE.mul rfl rfl (by have:=hc.full;have:=hc.empty;have:=hg.err;omega)) rfl (tk rfl (PE.add rfl rfl (by have:=hc.full;have:=hc.empty;have:=hg.err;omega)) rfl ?_)))))))))))))
 refine ZL ?_ ?_
 refine bsl (out:=[_]) rfl Z1H zl3 rfl rfl rfl rfl rfl rfl (fun b23=>?_)
 refine bg (fun w hs=>⟨(lfB (sz:=6) sc3 rfl) w hs,trivial,trivial⟩) ?_
 refine ZL ?_ ?_
 refine clV rfl Z54 rfl rfl (Z1N _ b23 _ _) ?_
 refine bg (fun w hs=>⟨(lfB (sz:=6) sc3 rfl) w hs,trivial⟩) ?_
 refine bsl (out:=[_]) rfl Z1H zl3 rfl rfl rfl rfl rfl rfl (fun b33=>?_)
 refine bgT ?_
 refine clV rfl Z54 rfl rfl (Z1N _ b33 _ _) ?_
 refine bgT (tk rfl (PE.build (out:=[_,_]) Z3Z Z1s rfl rfl) rfl ?_)
 refine sto rfl rfl rfl Z34 rfl rfl rfl rfl ?_
 refine bgT (Z4 ?_)
 exact Z9 (vs:=[_]) rfl (.cons (RV.cell rfl (lhA [_,_] Z2R rfl rfl rfl)) .nil) rfl ⟨rfl,rfl,rfl⟩ drp
 refine ZL ?_ ?_
 refine bsl (out:=[_]) rfl Z1H zl3 rfl rfl rfl rfl rfl rfl (fun b33=>?_)
 refine bgT ?_
 refine clV rfl Z54 rfl rfl (Z1N _ b23 _ _) ?_
 refine bgT ?_
 refine clV rfl Z54 rfl rfl (Z1N _ b33 _ _) ?_
 refine bgT (tk rfl (PE.build (out:=[_,_]) Z3Z Z1s rfl rfl) rfl ?_)
 refine sto rfl rfl rfl Z34 rfl rfl rfl rfl ?_
 refine bgT (Z4 ?_)
 exact Z9 (vs:=[_]) rfl (.cons (RV.cell rfl (lhA [_,_] Z2R rfl rfl rfl)) .nil) rfl ⟨rfl,rfl,rfl⟩ drp
 exact Z0f
 refine ZL ?_ ?_
 refine bsl (out:=[_]) rfl Z1H zl3 rfl rfl rfl rfl rfl rfl (fun b33=>?_)
 refine bg (fun w hs=>⟨trivial,(lfB (sz:=6) sc3 rfl) w hs,trivial⟩) ?_
 refine bsl (out:=[_]) rfl Z1H zl3 rfl rfl rfl rfl rfl rfl (fun b23=>?_)
 refine bgT ?_
 refine clV rfl Z54 rfl rfl (Z1N _ b23 _ _) ?_
 refine bgT ?_
 refine clV rfl Z54 rfl rfl (Z1N _ b33 _ _) ?_
 refine bgT (tk rfl (PE.build (out:=[_,_]) Z3Z Z1s rfl rfl) rfl ?_)
 refine sto rfl rfl rfl Z34 rfl rfl rfl rfl ?_
 refine bgT (Z4 ?_)
 exact Z9 (vs:=[_]) rfl (.cons (RV.cell rfl (lhA [_,_] Z2R rfl rfl rfl)) .nil) rfl ⟨rfl,rfl,rfl⟩ drp
 exact Z0f
theorem ZkB (g:Gat) (hg:g.ok) (ag:Option Addr) (cg:Nat) (c:Crt) (hc:c.ok) (ah:Option Addr) (ch:Nat) (bw:Nat) (h:Hnd) (hh:h.ok) (k:Nat) (hk:k<4) (H:Z6) (R:Z5) [hW:MemRows (some ⟨bw,0,none⟩) 6 [Zgu g c (g.sl ag cg) (c.sl ah ch)] R] [hG:MemRows ag 5 (grows g.grs) R] [hA:MemRows ah 5 (hrows c.hs) R] :
    FnV Tryz.prog 170 [.pointer (some ⟨bw,0,none⟩),.agg (Z2d h).toArray,.int .i64 k] H R (spv (ZfW g.miss h k).1 (ZfW g.miss h k).2):=by
 have hm:=hg.miss
 have ht:=hh.tot
 have hgr:=hh.at_ k hk
 have hab:∀ x∈[h.a,h.b,h.c,h.d],-1000000≤x∧x≤1000000000000000:=fun x hx=>by
   obtain ⟨a0,a1,a2,a3⟩:=Z7E hh.at_
   simp only [nn,Hnd.gs,List.getD_cons_zero,List.getD_cons_succ] at a0 a1 a2 a3
   simp only [List.mem_cons,List.not_mem_nil,or_false] at hx
   rcases hx with rfl | rfl | rfl | rfl<;>omega
 refine Zc Tryz.func170 rfl Tryz.ntmps170 rfl ?_
 refine sqt 2 rfl (bx rfl rfl rfl (fun b4=>alc rfl Z1s rfl (fun b6=>Z0 ?_)))
 refine Za [0,1,3,0,0,24,56,7,255] (.tk 0 (.ld 1 (tks 3 3 (.ld 6 (.big 2 (.tk 7 (.tk 8 .done))))))) Zl (by kernel_rfl) ?_
 refine tk rfl (PE.fA Z1B rfl) rfl (ld rfl rfl (lhA [.int .i64 h.a,.int .i64 h.b,.int .i64 h.c,.int .i64 h.d] Z5I rfl rfl rfl) rfl (Zg 1 rfl (tk rfl (PE.fA Z1B rfl) rfl (tk rfl (PE.indexArr Z4y rfl rfl (by omega) (by omega)) rfl (ld rfl rfl (lh sc3 rfl (Zdh hk)) rfl ?_)))))
 refine clV rfl ZgL rfl rfl (ZkL h.a h.b h.c h.d hab _ _) ?_
 refine bg (fun w hs=>⟨(lh sc3 rfl (Zdh hk)) w hs,trivial,trivial⟩) ?_
 refine Zg 2 rfl (Z0 ?_)
 refine Za [0,0,2,6,14,30,63,127,0,0,512,1536,3584,7680,16128,32512,255,131071] (tks 0 5 (.ld 5 (tks 6 7 (.ld 13 (tks 14 4 .done))))) Zl (by kernel_rfl) ?_
 rw [show h.a+h.b+h.c+h.d=h.tot from rfl]
 refine Zg 2 rfl (tk rfl (PE.nilCheck rfl) rfl (tk rfl (PE.fA Z6P rfl) rfl (tk rfl (PE.fA Z80 rfl) rfl (ld rfl rfl (lfB (sz:=6) sc3 rfl) rfl (tk rfl (PE.sub rfl rfl (by omega)) rfl (tk rfl (PE.mul rfl rfl (by omega)) rfl (Zg 2 rfl (tk rfl (PE.nilCheck rfl) rfl (tk rfl (PE.fA Z6P rfl) rfl (tk rfl (PE.fA Z80 rfl) rfl (ld rfl rfl (lfB (sz:=6) sc3 rfl) rfl (tk rfl (PE.add rfl rfl (by omega)) rfl (tk rfl (PE.mul rfl rfl (by omega)) rfl (Zg 2 rfl (Z0 ?_)))))))))))))))
 refine Za [0,0,3,7,0,31,63,127,0,0,768,1792,4095,8191] (tks 0 6 (tks 8 4 (.big 6 (.big 7 (.tk 12 (.big 13 .done)))))) Zl (by kernel_rfl) ?_
 refine Zg 2 rfl (tk rfl (PE.add rfl rfl (by omega)) rfl (tk rfl (PE.sub rfl rfl (by omega)) rfl (Zg 1 rfl ?_)))
 refine tk rfl ((PE.quoW rfl rfl (by omega)).to (by rw [Z9r (by omega) (by omega)])) rfl ?_
 refine Zg 2 rfl ?_
 refine tk rfl ((PE.quoW rfl rfl (by omega)).to (by rw [Z9r (by omega) (by omega)])) rfl ?_
 refine tk rfl (PE.min rfl rfl) rfl ?_
 refine bsl (out:=[_]) rfl Z1H zl3 rfl rfl rfl rfl rfl rfl (fun b40=>?_)
 refine bgT ?_
 refine clV rfl Z54 rfl rfl (Z1N _ b40 _ _) ?_
 refine bgT (tk rfl (PE.build (out:=[_,_]) Z3Z Z1s rfl rfl) rfl ?_)
 refine sto rfl rfl rfl Z34 rfl rfl rfl rfl ?_
 refine bgT (Z4 ?_)
 exact Z9 (vs:=[_]) rfl (.cons (RV.cell rfl (lhA [_,_] Z2R rfl rfl rfl)) .nil) rfl ⟨rfl,rfl,rfl⟩ drp
theorem ZkD (l h l2 h2:Int) (H:Z6) (R:Z5) :
    FnV Tryz.prog 169 [spv l h,spv l2 h2] H R (spv (met l h l2 h2).1 (met l h l2 h2).2):=by
 refine Zc Tryz.func169 rfl Tryz.ntmps169 rfl ?_
 refine sqt 3 rfl (bx rfl rfl rfl (fun b2=>bx rfl rfl rfl (fun b3=>alc rfl Z1s rfl (fun b4=>sqt 13 rfl (sp rfl (PE.fA ZH rfl) rfl (spL rfl rfl (lh sc3 rfl rfl) rfl (sp rfl (PE.fA ZH rfl) rfl (spL rfl rfl (lh sc3 rfl rfl) rfl (sp rfl (PE.max rfl rfl) rfl (sp rfl (PE.fA ZI rfl) rfl (spL rfl rfl (lh sc3 rfl rfl) rfl (sp rfl (PE.fA ZI rfl) rfl (spL rfl rfl (lh sc3 rfl rfl) rfl (sp rfl (PE.min rfl rfl) rfl (sp rfl (PE.build (out:=[_,_]) Z3Z Z1s rfl rfl) rfl ?_)))))))))))))))
 refine alc rfl Z1s rfl (fun b5=>?_)
 refine sto rfl rfl rfl Z34 rfl rfl rfl rfl ?_
 refine Z0 (sqt 5 rfl (sp rfl (PE.fA ZH rfl) rfl (spL rfl rfl (lh sc3 rfl rfl) rfl (sp rfl (PE.fA ZI rfl) rfl (spL rfl rfl (lh sc3 rfl rfl) rfl (pur 1 rfl ?_))))))
 refine Z1 rfl ?_ ?_<;>intro hc0
 have e:met l h l2 h2=(1,0):=by unfold met;rw [dT (show min h h2<max l l2 by simpa using hc0)];rfl
 refine sqt 2 rfl (sp rfl (PE.build (out:=[_,_]) Z3Z Z1s rfl rfl) rfl ?_)
 refine sto rfl rfl rfl Z34 rfl rfl rfl rfl ?_
 refine Z4 ?_
 rw [e]
 exact Z9 (vs:=[_]) rfl (.cons (RV.cell rfl (lhA [_,_] Z2R rfl rfl rfl)) .nil) rfl ⟨rfl,rfl,rfl⟩ drp
 have e:met l h l2 h2=(max l l2,min h h2):=by unfold met;rw [dF (show ¬ min h h2<max l l2 by simpa using hc0)];rfl
 refine Z3 (sqt 2 rfl (spL rfl rfl (lhA [_,_] Z2R rfl rfl rfl) rfl ?_))
 refine sto rfl rfl rfl Z34 rfl rfl rfl rfl ?_
 refine Z4 ?_
 rw [e]
 exact Z9 (vs:=[_]) rfl (.cons (RV.cell rfl (lhA [_,_] Z2R rfl rfl rfl)) .nil) rfl ⟨rfl,rfl,rfl⟩ drp
theorem ZoA (g:Gat) (hg:g.ok) (ag:Option Addr) (cg:Nat) (c:Crt) (hc:c.ok) (ah:Option Addr) (ch:Nat) (bw:Nat) (gf:Nat) (cap:List Value) (f:Nat→Bool) (hgf:cal Tryz.prog gf=true) (H:Z6) (R:Z5) [hW:MemRows (some ⟨bw,0,none⟩) 6 [Zgu g c (g.sl ag cg) (c.sl ah ch)] R] [hG:MemRows ag 5 (grows g.grs) R] [hA:MemRows ah 5 (hrows c.hs) R] (hf:∀ (G:Z6) (i:Nat),i<c.hs.length→FnV Tryz.prog gf ([.int .i64 i]++cap) (G++H) R (.bool (f i))) :
    FnV Tryz.prog 102 [.pointer (some ⟨bw,0,none⟩),.agg #[.func (.func gf) #[] cap.toArray]] H R (bxv (Z5T g.miss c.hs f)):=by
 refine Zc Tryz.func102 rfl Tryz.ntmps102 rfl ?_
 refine sqt 2 rfl (bx rfl rfl rfl (fun b3=>alc rfl Z49 rfl (fun b4=>sqt 1 rfl (alc rfl Z49 rfl (fun b5=>Z0 (sqt 1 rfl (pur 1 rfl (Z2 ?_))))))))
 refine Zd (ι:={k:Nat // k≤4}) (fun k=>⟨[(0,.pointer (some ⟨bw,0,none⟩)),(3,.pointer (some ⟨b3,0,none⟩)),(4,.pointer (some ⟨b4,0,none⟩)),(5,.pointer (some ⟨b5,0,none⟩)),(9,.int .i64 k.1)],(b5,cel 153 (Ze (ZgD g.miss c.hs f k.1)))::(b4,cel 153 (Ze [0,0,0,0,0,0,0,0]))::(b3,cel 216 [.func (.func gf) #[] cap.toArray])::H,R⟩) (fun k=>4-k.1) ⟨0,by omega⟩ ?_ (fun k=>?_)
 exact Zf idH
 obtain ⟨k,hk⟩:=k
 dsimp only at hk ⊢
 refine sqt 1 rfl (pur 1 rfl (Z0 ?_))
 refine Z1 rfl ?_ ?_<;>intro hc0<;>try simp only [cS] at hc0
 have hk4:k<4:=by omega
 have hbl:=Z9C g.miss c.hs f k
 refine Z3 (Z0 (Z2 (sqt 2 rfl (pur 2 rfl (sqt 4 rfl (pur 1 rfl (sp rfl (PE.build (out:=[_,_]) Z3Z Z1s rfl rfl) rfl (sp rfl (PE.indexArr Z30 rfl rfl (by omega) (by omega)) rfl ?_))))))))
 refine Zy (l':=Ze (Z2S (ZgD g.miss c.hs f k) k (0,40))) rfl rfl rfl Z34 rfl rfl rfl (Z9j hbl hk4 0 40) (by rw [ints_length,hbl];show 0+((k:Nat):Int).toNat*2+2≤8;omega) ?_
 refine sqt 7 rfl (pur 1 rfl (sp rfl (PE.nilCheck rfl) rfl (sp rfl (PE.fA Z8W rfl) rfl (sp rfl (PE.fA Z0U rfl) rfl (spL rfl rfl (lfB (sz:=6) Z7A rfl) rfl (sp rfl (PE.lenSl Z91 rfl) rfl (pur 1 rfl (Z2 ?_))))))))
 refine Zd (ι:={i:Nat // i≤c.hs.length}) (fun i=>⟨[(0,.pointer (some ⟨bw,0,none⟩)),(3,.pointer (some ⟨b3,0,none⟩)),(4,.pointer (some ⟨b4,0,none⟩)),(5,.pointer (some ⟨b5,0,none⟩)),(9,.int .i64 k),(6,.int .i64 k),(19,c.sl ah ch),(20,.int .i64 c.hs.length),(21,.int .i64 i.1)],(b5,cel 153 (Ze (Z2S (ZgD g.miss c.hs f k) k (Z0r g.miss c.hs f k i.1))))::(b4,cel 153 (Ze [0,0,0,0,0,0,0,0]))::(b3,cel 216 [.func (.func gf) #[] cap.toArray])::H,R⟩) (fun i=>c.hs.length-i.1) ⟨0,by omega⟩ ?_ (fun i=>?_)
 exact Zf idH
 obtain ⟨i,hi⟩:=i
 dsimp only at hi ⊢
 have hmany:=hc.many
 refine sqt 1 rfl (pur 1 rfl (Z0 ?_))
 refine Z1 rfl ?_ ?_<;>intro hc1<;>try simp only [cS] at hc1
 obtain ⟨h,hh⟩:∃ h,c.hs[i]?=some h:=⟨_,List.getElem?_eq_getElem (by omega)⟩
 have hok:=hc.hs h (List.mem_of_getElem? hh)
 refine Zj (a:=ah) (sz:=5) (rows:=hrows c.hs) (by intro h0;simp [hrows] at h0;simp [h0] at hh) (fun ba oa he=>?_)
 subst he
 refine Z3 (Z0 (Z2 (sqt 6 rfl (pur 1 rfl (sp rfl (PE.indexAddr Zob rfl rfl (by omega) (by omega)) rfl (spL rfl rfl (lfA ZeO (row:=Z2d h) (Znc (by simpa using hh)) rfl) rfl (alc rfl Zk0 rfl (fun b8=>pur 1 rfl ?_))))))))
 refine sto rfl rfl rfl Zk6 rfl rfl rfl rfl ?_
 refine sqt 4 rfl (sp rfl (PE.fA ZiY rfl) rfl (spL rfl rfl (lh Z1G rfl rfl) rfl (pur 1 rfl ?_)))
 refine Z2c rfl rfl (hgf) rfl rfl (hf [_,_,_,_] i (by omega)) ?_
 refine Z1 rfl ?_ ?_<;>intro hc2
 have hst:=Zek (miss:=g.miss) (k:=k) hh hc2
 refine Za [0,0,2,6,0,0,0,112,254,511,1023] (tks 0 3 (.ld 3 (.tk 4 (.ld 5 (.tk 6 (.big 7 (.big 8 (.tk 9 (.big 10 .done))))))))) Zl (by kernel_rfl) ?_
 refine Zg 2 rfl (tk rfl (PE.indexArr Z30 rfl rfl (by omega) (by omega)) rfl (ld rfl rfl (lhA [.int .i64 (Z0r g.miss c.hs f k i).1,.int .i64 (Z0r g.miss c.hs f k i).2] Z2R rfl (Z4Q hbl hk4 _) rfl) rfl (Zg 1 rfl (ld rfl rfl (lhA [_,_,_,_,_] ZeO rfl rfl rfl) rfl (Zg 1 rfl ?_)))))
 refine clV rfl Zlm rfl rfl (ZkB g hg ag cg c hc (some ⟨ba,oa,none⟩) ch bw h hok k hk4 _ _) ?_
 refine bg (fun w hs=>⟨trivial,(lhA [.int .i64 (Z0r g.miss c.hs f k i).1,.int .i64 (Z0r g.miss c.hs f k i).2] Z2R rfl (Z4Q hbl hk4 _) rfl) w hs,trivial⟩) ?_
 refine clV rfl ZgT rfl rfl (ZkD _ _ _ _ _ _) ?_
 refine bgT (tk rfl (PE.indexArr Z30 rfl rfl (by omega) (by omega)) rfl ?_)
 rw [← hst]
 refine Zy (l':=Ze (Z2S (ZgD g.miss c.hs f k) k (Z0r g.miss c.hs f k (i+1)))) rfl rfl rfl Z34 rfl rfl rfl (by show spl _ _ [.int .i64 _,.int .i64 _]=_;rw [Z9j (by rw [Z3h];exact hbl) hk4,ZbM hbl hk4]) (by rw [ints_length,Z3h,hbl];show 0+((k:Nat):Int).toNat*2+2≤8;omega) ?_
 refine bgT (sqr 2 rfl (sp rfl (PE.add rfl rfl (by omega)) rfl (pur 1 rfl ?_)))
 first
   | exact Zh ⟨i+1,by omega⟩ (by dsimp only;omega) (fun w h=>h.del b8)
   | exact Zh ⟨i+1,by omega⟩ (by dsimp only;omega) (fun w h=>by dsimp only;rw [hst];exact h.del b8)
 have hst:=Zbj (miss:=g.miss) (k:=k) hh hc2
 refine Z3 (sqr 2 rfl (sp rfl (PE.add rfl rfl (by omega)) rfl (pur 1 rfl ?_)))
 first
   | exact Zh ⟨i+1,by omega⟩ (by dsimp only;omega) (fun w h=>h.del b8)
   | exact Zh ⟨i+1,by omega⟩ (by dsimp only;omega) (fun w h=>by dsimp only;rw [hst];exact h.del b8)
 obtain rfl:i=c.hs.length:=by omega
 refine Z7 (Z8 (Z8 (Zi (sqr 2 rfl (sp rfl (PE.add rfl rfl (by omega)) rfl (pur 1 rfl ?_))))))
 exact Zb ⟨k+1,by omega⟩ idH
 obtain rfl:k=4:=by omega
 rw [Zf6]
 refine Z7 (Z8 (Z8 (Zi (sqt 2 rfl (spL rfl rfl (lhA [_,_,_,_,_,_,_,_] Z1y rfl rfl rfl) rfl ?_)))))
 refine sto rfl rfl rfl Z33 rfl rfl rfl rfl ?_
 refine Z4 ?_
 exact Z9 (vs:=[_]) rfl (.cons (RV.cell rfl (lhA [_,_,_,_,_,_,_,_] Z1y rfl rfl rfl)) .nil) rfl ⟨rfl,rfl,rfl⟩ drp
theorem Zfd (b:Box) (hb:Bok b) (H:Z6) (R:Z5) :
    Fn Tryz.prog 104 [bxv b] H R (fun v H' R'=>H'=H∧R'=R∧∃ c,c.length=8∧v = .tuple #[bxv c,.bool (clo b).isSome]∧((clo b).isSome=true→clo b=some c)):=by
 refine Zc Tryz.func104 rfl Tryz.ntmps104 rfl ?_
 refine sqt 3 rfl (bx rfl rfl rfl (fun b1=>alc rfl Z49 rfl (fun b2=>pur 1 rfl (sqt 3 rfl (sp rfl (PE.build (out:=[_,_]) Z3Z Z1s rfl rfl) rfl (alc rfl Z1s rfl (fun b4=>?_)))))))
 refine sto rfl rfl rfl Z34 rfl rfl rfl rfl ?_
 refine Z2 ?_
 refine Zd (ι:={d:Box // Bok d∧∀ r,CloseR d r→CloseR b r}) (fun d=>⟨[(1,.pointer (some ⟨b1,0,none⟩)),(2,.pointer (some ⟨b2,0,none⟩)),(4,.pointer (some ⟨b4,0,none⟩))],(b1,cel 153 (Ze d.1))::(b4,cel 37 (Ze [1,0]))::(b2,cel 153 (Ze [0,0,0,0,0,0,0,0]))::H,R⟩) (fun d=>wid d.1) ⟨b,hb,fun _ h=>h⟩ ?_ (fun d=>?_)
 exact Zf (fun _ h=>St.sub (((h.pull b2).pull b4).pull b1))
 obtain ⟨d,hd,hdr⟩:=d
 dsimp only at hd hdr ⊢
 refine Z2 (sqt 3 rfl (spL rfl rfl (lhA (Ze d) Z1y rfl (rest:=[]) (by simp) (by rw [ints_length];exact hd.len)) rfl (alc rfl Z49 rfl (fun b5=>?_))))
 refine Z2V rfl rfl rfl Z33 rfl (by rw [ints_length];exact hd.len) rfl (Zs _) ?_
 refine Z0 (sqt 1 rfl (pur 1 rfl (Z2 ?_)))
 refine Zd (ι:={x:Nat×Box // x.1≤4∧Z5F d x.1=some x.2∧Bok x.2}) (fun x=>⟨[(1,.pointer (some ⟨b1,0,none⟩)),(2,.pointer (some ⟨b2,0,none⟩)),(4,.pointer (some ⟨b4,0,none⟩)),(5,.pointer (some ⟨b5,0,none⟩)),(13,.int .i64 x.1.1)],(b5,cel 153 (Ze d))::(b1,cel 153 (Ze x.1.2))::(b4,cel 37 (Ze [1,0]))::(b2,cel 153 (Ze [0,0,0,0,0,0,0,0]))::H,R⟩) (fun x=>4-x.1.1) ⟨(0,d),by omega,rfl,hd⟩ ?_ (fun x=>?_)
 exact Zf idH
 obtain ⟨⟨k,e⟩,hk,hr,he⟩:=x
 dsimp only at hk hr he ⊢
 refine sqt 1 rfl (pur 1 rfl (Z0 ?_))
 refine Z1 rfl ?_ ?_<;>intro hc0<;>try simp only [cS] at hc0
 have hk4:k<4:=by omega
 refine Z3 (Z0 (Z2 (sqt 2 rfl (pur 2 rfl (sqt 2 rfl (pur 2 rfl (Z0 (sqt 2 rfl (spL rfl rfl (lhA (Ze e) Z1y rfl (rest:=[]) (by simp) (by rw [ints_length];exact he.len)) rfl (pur 1 rfl (Z2 ?_)))))))))))
 refine Zd (ι:={j:Nat // j≤4}) (fun j=>⟨[(1,.pointer (some ⟨b1,0,none⟩)),(2,.pointer (some ⟨b2,0,none⟩)),(4,.pointer (some ⟨b4,0,none⟩)),(5,.pointer (some ⟨b5,0,none⟩)),(6,.int .i64 k),(7,.int .i64 (Z5o (bl e) k j.1)),(8,.int .i64 (Z5o (bh e) k j.1)),(13,.int .i64 k),(16,bxv e),(17,.int .i64 j.1)],(b5,cel 153 (Ze d))::(b1,cel 153 (Ze e))::(b4,cel 37 (Ze [1,0]))::(b2,cel 153 (Ze [0,0,0,0,0,0,0,0]))::H,R⟩) (fun j=>4-j.1) ⟨0,by omega⟩ ?_ (fun j=>?_)
 exact Zf idH
 obtain ⟨j,hj⟩:=j
 dsimp only at hj ⊢
 have hob:=ZdT he k j hj
 refine sqt 1 rfl (pur 1 rfl (Z0 ?_))
 refine Z1 rfl ?_ ?_<;>intro hc1<;>try simp only [cS] at hc1
 have hj4:j<4:=by omega
 have hej:=he.at_ j hj4
 refine Z3 (Z0 (Z2 (sqt 5 rfl (pur 1 rfl ?_))))
 refine sp rfl ((PE.indexI (l:=e) Zkj (Z17 10000 37 true 2 Zb4) (by simp) rfl rfl hj4 (by rw [he.len];omega)).to (by rw [Zf8 he.len hj4])) rfl ?_
 refine alc rfl Z1s rfl (fun b10=>pur 1 rfl ?_)
 refine sto rfl rfl rfl Z34 rfl rfl rfl rfl ?_
 refine sqt 3 rfl (pur 3 rfl ?_)
 refine Z1 rfl ?_ ?_<;>intro hc2<;>try simp only [cS] at hc2
 have e1:Z5o (bl e) k (j+1)=Z5o (bl e) k j+bl e j:=by rw [Z5o,show (j == k)=false from by simp;omega];rfl
 have e2:Z5o (bh e) k (j+1)=Z5o (bh e) k j+bh e j:=by rw [Z5o,show (j == k)=false from by simp;omega];rfl
 refine Za [0,0,2,7,0,0,32,112,15,511] (.tk 0 (.tk 1 (.ld 2 (tks 3 3 (.ld 6 (tks 7 3 .done)))))) Zl (by kernel_rfl) ?_
 refine Zg 1 rfl (tk rfl (PE.fA ZH rfl) rfl (ld rfl rfl (lh sc3 rfl rfl) rfl (tk rfl (PE.add rfl rfl (by omega)) rfl (Zg 1 rfl (tk rfl (PE.fA ZI rfl) rfl (ld rfl rfl (lh sc3 rfl rfl) rfl (tk rfl (PE.add rfl rfl (by omega)) rfl (Zg 2 rfl (sqr 2 rfl (sp rfl (PE.add rfl rfl (by omega)) rfl (pur 1 rfl ?_)))))))))))
 exact Zv ⟨j+1,by omega⟩ (by dsimp only;omega) (by dsimp only;rw [e1,e2];exact sbA) (fun w h=>h.del b10)
 have e1:Z5o (bl e) k (j+1)=Z5o (bl e) k j:=by rw [Z5o,show (j == k)=true from by simp;omega];simp
 have e2:Z5o (bh e) k (j+1)=Z5o (bh e) k j:=by rw [Z5o,show (j == k)=true from by simp;omega];simp
 refine Z3 (sqr 2 rfl (sp rfl (PE.add rfl rfl (by omega)) rfl (pur 1 rfl ?_)))
 exact Zv ⟨j+1,by omega⟩ (by dsimp only;omega) (by dsimp only;rw [e1,e2];exact sbA) (fun w h=>h.del b10)
 obtain rfl:j=4:=by omega
 rw [ZdU _ hk4,ZdU _ hk4] at *
 refine Z7 (Z8 (Z8 (Zi (sqt 12 rfl (pur 2 rfl (sp rfl (PE.indexArr Z30 rfl rfl (by omega) (by omega)) rfl (spL rfl rfl (lhA [.int .i64 (bl e k),.int .i64 (bh e k)] Z2R rfl (Zf7 he.len hk4) rfl) rfl (pur 1 rfl (sp rfl (PE.sub rfl rfl (by omega)) rfl (pur 1 rfl (sp rfl (PE.sub rfl rfl (by omega)) rfl (sp rfl (PE.build (out:=[_,_]) Z3Z Z1s rfl rfl) rfl ?_))))))))))))
 refine clV rfl ZgT rfl rfl (ZkD _ _ _ _ _ _) ?_
 refine sp rfl (PE.indexArr Z30 rfl rfl (by omega) (by omega)) rfl ?_
 refine Zy (l':=Ze (Z2S e k (ZY e k))) rfl rfl rfl Z34 rfl rfl rfl (Z9j he.len hk4 _ _) (by rw [ints_length,he.len];show 0+((k:Nat):Int).toNat*2+2≤8;omega) ?_
 have hbk:Bok (Z2S e k (ZY e k)):=he.set hk4
 refine Z0 ?_
 refine Za [0,1,3,0,15] (.tk 0 (.tk 1 (.ld 2 (.ld 3 (.tk 4 .done))))) Zl (by kernel_rfl) ?_
 refine Zg 1 rfl (tk rfl (PE.indexArr Z30 rfl rfl (by omega) (by omega)) rfl (ld rfl rfl (lhA [.int .i64 (ZY e k).1,.int .i64 (ZY e k).2] Z2R rfl (Z4Q he.len hk4 _) rfl) rfl (ld rfl rfl (lhA [_,_] Z2R rfl rfl rfl) rfl (tk rfl (PE.eqlAgg [(ZY e k).1,(ZY e k).2] [1,0] (Z17 10000 37 true 2 Zb4) ZcJ rfl rfl rfl rfl) rfl ?_))))
 refine Z1 rfl ?_ ?_<;>intro hc3
 have hs1:ZY e k=(1,0):=by simpa [Prod.ext_iff] using hc3
 have hrn:Z5F d 4=none:=Ze6 (k:=k+1) (by unfold Z5F;rw [hr];simp [hs1]) (by omega)
 have hcl:=(hdr _ (.no hrn)).clo hb
 refine sqt 3 rfl (spL rfl rfl (lhA (Ze (Z2S e k (ZY e k))) Z1y rfl (rest:=[]) (by simp) (by rw [ints_length];exact hbk.len)) rfl ?_)
 refine Z2V rfl rfl rfl Z33 rfl (by rw [ints_length];exact hbk.len) rfl (Zs _) ?_
 refine pur 1 rfl (Z4 ?_)
 rw [hcl]
 first
   | exact Z9 (vs:=[_,_]) rfl (.cons (RV.cell rfl (lhA (Ze e) Z1y rfl (rest:=[]) (by simp) (by rw [ints_length];exact he.len))) (.cons (RV.tmp rfl) .nil)) rfl ⟨rfl,rfl,e,he.len,rfl,fun _=>rfl⟩ (fun w h=>((h.del b5).del b1).tail.tail)
   | exact Z9 (vs:=[_,_]) rfl (.cons (RV.cell rfl (lhA (Ze (Z2S e k (ZY e k))) Z1y rfl (rest:=[]) (by simp) (by rw [ints_length];exact hbk.len))) (.cons (RV.tmp rfl) .nil)) rfl ⟨rfl,rfl,Z2S e k (ZY e k),hbk.len,rfl,fun h=>by cases h⟩ (fun w h=>((h.del b5).del b1).tail.tail)
 have hs1:ZY e k≠(1,0):=by simpa [Prod.ext_iff] using hc3
 have hrn:Z5F d (k+1)=some (Z2S e k (ZY e k)):=by
   unfold Z5F
   rw [hr]
   show (bif ZY e k == (1,0) then none else some (Z2S e k (ZY e k)))=_
   rw [show (ZY e k == (1,0))=false from by rw [beq_eq_false_iff_ne];exact hs1]
   rfl
 refine Z3 (sqr 2 rfl (sp rfl (PE.add rfl rfl (by omega)) rfl (pur 1 rfl ?_)))
 exact Zb ⟨(k+1,Z2S e k (ZY e k)),by omega,hrn,hbk⟩ idH
 obtain rfl:k=4:=by omega
 refine Z7 (Z8 (Z8 (Zi (sqt 3 rfl (spL rfl rfl (lhA (Ze e) Z1y rfl (rest:=[]) (by simp) (by rw [ints_length];exact he.len)) rfl (spL rfl rfl (lhA (Ze d) Z1y rfl (rest:=[]) (by simp) (by rw [ints_length];exact hd.len)) rfl (sp rfl (PE.eqlAgg e d (Z17 10000 153 true 8 Zn2) Zn4 rfl rfl he.len hd.len) rfl ?_)))))))
 refine Z1 rfl ?_ ?_<;>intro hc4
 obtain rfl:e=d:=by simpa using hc4
 have hcl:=(hdr _ (.fix hr)).clo hb
 refine sqt 3 rfl (spL rfl rfl (lhA (Ze e) Z1y rfl (rest:=[]) (by simp) (by rw [ints_length];exact he.len)) rfl ?_)
 refine Z2V rfl rfl rfl Z33 rfl (by rw [ints_length];exact he.len) rfl (Zs _) ?_
 refine pur 1 rfl (Z4 ?_)
 rw [hcl]
 first
   | exact Z9 (vs:=[_,_]) rfl (.cons (RV.cell rfl (lhA (Ze e) Z1y rfl (rest:=[]) (by simp) (by rw [ints_length];exact he.len))) (.cons (RV.tmp rfl) .nil)) rfl ⟨rfl,rfl,e,he.len,rfl,fun _=>rfl⟩ (fun w h=>((h.del b5).del b1).tail.tail)
   | exact Z9 (vs:=[_,_]) rfl (.cons (RV.cell rfl (lhA (Ze (Z2S e k (ZY e k))) Z1y rfl (rest:=[]) (by simp) (by rw [ints_length];exact hbk.len))) (.cons (RV.tmp rfl) .nil)) rfl ⟨rfl,rfl,Z2S e k (ZY e k),hbk.len,rfl,fun h=>by cases h⟩ (fun w h=>((h.del b5).del b1).tail.tail)
 have hne:e≠d:=by simpa using hc4
 refine Z3 ?_
 exact Zh ⟨e,he,fun r h=>hdr r (.go hr hne h)⟩ (Ze7 hd hr hne) (fun w h=>h.del b5)
theorem Zor:Z0W Tryz.prog 216=some 1:=by kernel_rfl
theorem ZkP:cal Tryz.prog 102=true:=by kernel_rfl
theorem ZkQ:cal Tryz.prog 103=true:=by kernel_rfl
theorem ZkR:cal Tryz.prog 104=true:=by kernel_rfl
theorem Zln:cal Tryz.prog 171=true:=by kernel_rfl
theorem Zfr:cal Tryz.prog 50=true:=by kernel_rfl
theorem ZmF:cal Tryz.prog 51=true:=by kernel_rfl
theorem Zpi:Zz Tryz.prog 216=some 1:=by kernel_rfl
theorem ZpB:ZD Tryz.prog 216=some [(0,1)]:=by kernel_rfl
theorem Zo3:Zp Tryz.prog 216=some ([.nilFunc]):=by kernel_rfl
theorem Z2W {l:List Int} {i j:Nat} {v:Int} (h:i<l.length):nn (l.set i v) j=bif i == j then v else nn l j:=by
 unfold nn
 simp only [List.getD_eq_getElem?_getD,List.getElem?_set]
 by_cases hij:i=j
 · subst hij;simp [h]
 · have:(i == j)=false:=by simpa using hij
   simp [hij,this]
theorem Z44 {l:List Int} (h:l.length=4) {i:Nat} (hi:i<4) (v:Int):Z3B (l.set i v)=Z3B l+v-nn l i:=by
 obtain ⟨a,b,c,d,rfl⟩:=Z37 h
 rcases lt4 hi with rfl | rfl | rfl | rfl<;>simp [Z3B,nn]<;>omega
def Z0C (g:Gat) (c:Crt) (bad:Bool):Int:=bif decide (Z1J g c≠0) then Z1J g c else bif bad then 1 else bif (clo (Z5T g.miss c.hs fun _=>true)).isNone then 7 else 0
def zbx:Box:=[0,0,0,0,0,0,0,0]
theorem Zfa (H:Z6) (R:Z5) :
    FnV Tryz.prog 103 [] H R (.agg #[.func (.func 171) #[] #[]]):=by
 refine Zc Tryz.func103 rfl Tryz.ntmps103 rfl ?_
 refine sqt 1 rfl (alc rfl Zo3 rfl (fun b0=>sqt 2 rfl (sp rfl (PE.build (out:=[_]) ZpB Zo3 rfl rfl) rfl ?_)))
 refine sto rfl rfl rfl Zpi rfl rfl rfl rfl ?_
 refine Z4 ?_
 exact Z9 (vs:=[_]) rfl (.cons (RV.cell rfl (lhA [_] Zor rfl rfl rfl)) .nil) rfl ⟨rfl,rfl,rfl⟩ drp
theorem ZbP (i:Int) (H:Z6) (R:Z5) :
    FnV Tryz.prog 171 [.int .i64 i] H R (.bool true):=by
 refine Zc Tryz.func171 rfl Tryz.ntmps171 rfl ?_
 refine sqt 1 rfl (pur 1 rfl (sqt 1 rfl (pur 1 rfl (Z4 ?_))))
 exact rtA rfl rfl rfl ⟨rfl,rfl,rfl⟩ drp
theorem Zcl (g:Gat) (ag:Option Addr) (cg:Nat) (hlg:g.grs.length≤9223372036854775807) (c:Crt) (ah:Option Addr) (ch:Nat) (hlh:c.hs.length≤9223372036854775807) (bad:Bool) (H:Z6) (R:Z5) [hG:MemRows ag 5 (grows g.grs) R] [hA:MemRows ah 5 (hrows c.hs) R] :
    Fn Tryz.prog 48 [g.v (g.sl ag cg),c.v (c.sl ah ch),.bool bad] H R (fun v H' R'=>H'=H∧((Z0C g c bad≠0∧v = .tuple #[.pointer none,bxv zbx,.int .i64 (Z0C g c bad)]∧R'=R)∨(Z0C g c bad=0∧g.ok∧c.ok∧∃ bw b,clo (Z5T g.miss c.hs fun _=>true)=some b∧v = .tuple #[.pointer (some ⟨bw,0,none⟩),bxv b,.int .i64 0]∧R'=RowsA (some ⟨bw,0,none⟩) 6 [Zgu g c (g.sl ag cg) (c.sl ah ch)]::R))):=by
 refine Zc Tryz.func48 rfl Tryz.ntmps48 rfl ?_
 refine sqt 5 rfl (bx rfl rfl rfl (fun b3=>bx rfl rfl rfl (fun b4=>pur 1 rfl (alc rfl Z49 rfl (fun b7=>pur 1 rfl (sqt 8 rfl (spL rfl rfl (lhA [_,_,_] Z5H rfl rfl rfl) rfl (spL rfl rfl (lhA [_,_,_] Z2b rfl rfl rfl) rfl ?_))))))))
 refine cl rfl ZmF rfl rfl (Z1j g ag cg hlg c ah ch hlh _ _) ?_
 rintro _ _ _ ⟨rfl,ho⟩
 rcases ho with ⟨hne,rfl,rfl⟩ | ⟨hg,hc,h0,bw,rfl,rfl⟩
 refine pur 5 rfl (Z0 (Z2 (sqt 3 rfl (pur 3 rfl ?_))))
 refine Z1 rfl ?_ ?_<;>intro hc0
 have e:Z0C g c bad=Z1J g c:=by simp [Z0C,hne]
 refine sqt 5 rfl (sp rfl (PE.zero (.inr (by rw [Z30];rfl)) Z49) rfl (pur 2 rfl ?_))
 refine sto rfl rfl rfl Z33 rfl rfl rfl rfl ?_
 refine pur 1 rfl (Z4 ?_)
 rw [← e]
 rw [← e] at hne
 exact Z9 (vs:=[_,_,_]) rfl (.cons (RV.tmp rfl) (.cons (RV.cell rfl (lhA (Ze zbx) Z1y rfl rfl rfl)) (.cons (RV.tmp rfl) .nil))) rfl ⟨rfl,.inl ⟨hne,rfl,rfl⟩⟩ drp
 exact absurd hc0 (by simp [hne])
 refine pur 5 rfl (Z0 (Z2 (sqt 3 rfl (pur 3 rfl ?_))))
 refine Z1 rfl ?_ ?_<;>intro hc0
 exact absurd hc0 (by simp)
 refine sqt 2 rfl (pur 2 rfl ?_)
 refine Z1 rfl ?_ ?_<;>intro hc1
 have e:Z0C g c bad=1:=by simp [Z0C,h0,hc1]
 have hne:Z0C g c bad≠0:=by omega
 refine sqt 4 rfl (sp rfl (PE.zero (.inr (by rw [Z30];rfl)) Z49) rfl (pur 1 rfl ?_))
 refine sto rfl rfl rfl Z33 rfl rfl rfl rfl ?_
 refine pur 1 rfl (Z4 ?_)
 first
   | exact Z9 (vs:=[_,_,_]) rfl (.cons (RV.tmp rfl) (.cons (RV.cell rfl (lhA (Ze b) Z1y rfl (rest:=[]) (by rw [List.append_nil];rfl) (by rw [ints_length];exact hbl))) (.cons (RV.tmp rfl) .nil))) rfl ⟨rfl,.inr ⟨e,hg,hc,bw,b,hb,rfl,rfl⟩⟩ drp
   | (rw [e] at *;exact Z9 (vs:=[_,_,_]) rfl (.cons (RV.tmp rfl) (.cons (RV.cell rfl (lhA (Ze zbx) Z1y rfl rfl rfl)) (.cons (RV.tmp rfl) .nil))) rfl ⟨rfl,.inl ⟨hne,rfl,rfl⟩⟩ drp)
 subst hc1
 refine Z3 (sqt 10 rfl (pur 1 rfl ?_))
 refine clV rfl ZkQ rfl rfl (Zfa _ _) ?_
 refine clV rfl ZkP rfl rfl (ZoA g hg ag cg c hc ah ch bw 171 [] (fun _=>true) Zln _ _ (fun G i _=>ZbP i _ _)) ?_
 refine cl rfl ZkR rfl rfl (Zfd (Z5T g.miss c.hs fun _=>true) (Z6m _ _ _) _ _) ?_
 rintro _ _ _ ⟨rfl,rfl,b,hbl,rfl,hcl⟩
 refine pur 3 rfl (alc rfl Z49 rfl (fun b11=>?_))
 refine Z2V rfl rfl rfl Z33 rfl (by rw [ints_length];exact hbl) rfl (Zs _) ?_
 refine pur 1 rfl (Z0 (sqt 2 rfl (pur 2 rfl ?_)))
 refine Z1 rfl ?_ ?_<;>intro hc2
 have hn:clo (Z5T g.miss c.hs fun _=>true)=none:=by simpa using hc2
 have e:Z0C g c false=7:=by simp [Z0C,h0,hn]
 have hne:Z0C g c false≠0:=by omega
 refine sqt 4 rfl (sp rfl (PE.zero (.inr (by rw [Z30];rfl)) Z49) rfl (pur 1 rfl ?_))
 refine sto rfl rfl rfl Z33 rfl rfl rfl rfl ?_
 refine pur 1 rfl (Z4 ?_)
 first
   | exact Z9 (vs:=[_,_,_]) rfl (.cons (RV.tmp rfl) (.cons (RV.cell rfl (lhA (Ze b) Z1y rfl (rest:=[]) (by rw [List.append_nil];rfl) (by rw [ints_length];exact hbl))) (.cons (RV.tmp rfl) .nil))) rfl ⟨rfl,.inr ⟨e,hg,hc,bw,b,hb,rfl,rfl⟩⟩ drp
   | (rw [e] at *;exact Z9 (vs:=[_,_,_]) rfl (.cons (RV.tmp rfl) (.cons (RV.cell rfl (lhA (Ze zbx) Z1y rfl rfl rfl)) (.cons (RV.tmp rfl) .nil))) rfl ⟨rfl,.inl ⟨hne,rfl,rfl⟩⟩ drp)
 have hs:(clo (Z5T g.miss c.hs fun _=>true)).isSome=true:=by simpa using hc2
 have hb:=hcl hs
 have e:Z0C g c false=0:=by simp [Z0C,h0,hb]
 refine Z3 (Z0 ?_)
 refine Za [0,0,1,7,15] (.tk 0 (.ld 1 (.tk 2 (.big 3 (.tk 4 .done))))) Zl (by kernel_rfl) ?_
 refine Zg 1 rfl (ld rfl rfl (lhA (Ze b) Z1y rfl (rest:=[]) (by rw [List.append_nil];rfl) (by rw [ints_length];exact hbl)) rfl (Zg 1 rfl ?_))
 refine Z2V rfl rfl rfl Z33 rfl (by rw [ints_length];exact hbl) rfl (Zs _) ?_
 refine bgT (Zg 1 rfl (Z4 ?_))
 first
   | exact Z9 (vs:=[_,_,_]) rfl (.cons (RV.tmp rfl) (.cons (RV.cell rfl (lhA (Ze b) Z1y rfl (rest:=[]) (by rw [List.append_nil];rfl) (by rw [ints_length];exact hbl))) (.cons (RV.tmp rfl) .nil))) rfl ⟨rfl,.inr ⟨e,hg,hc,bw,b,hb,rfl,rfl⟩⟩ drp
   | (rw [e] at *;exact Z9 (vs:=[_,_,_]) rfl (.cons (RV.tmp rfl) (.cons (RV.cell rfl (lhA (Ze zbx) Z1y rfl rfl rfl)) (.cons (RV.tmp rfl) .nil))) rfl ⟨rfl,.inl ⟨hne,rfl,rfl⟩⟩ drp)
def netP (g:Gat) (c:Crt):Int×Int:=(max 0 (c.full-c.empty-2*g.err),max 0 (c.full-c.empty+2*g.err))
def Znt (g:Gat) (c:Crt):Value:=bif decide (Z1J g c≠0) then .tuple #[spv 0 0,.int .i64 (Z1J g c)] else .tuple #[spv (netP g c).1 (netP g c).2,.int .i64 0]
def Zk4 (g:Gat) (c:Crt):Box:=bif decide (Z0C g c false≠0) then zbx else (clo (Z5T g.miss c.hs fun _=>true)).getD zbx
theorem Z46 {g:Gat} {c:Crt} {b:Box} (h:clo (Z5T g.miss c.hs fun _=>true)=some b):Tight b:=(Z3k (Z6m _ _ _) h).1
theorem c_Net (g:Gat) (ag:Option Addr) (cg:Nat) (hlg:g.grs.length≤9223372036854775807) (c:Crt) (ah:Option Addr) (ch:Nat) (hlh:c.hs.length≤9223372036854775807) (H:Z6) (R:Z5) [hG:MemRows ag 5 (grows g.grs) R] [hA:MemRows ah 5 (hrows c.hs) R] :
    FnV Tryz.prog 18 [g.v (g.sl ag cg),c.v (c.sl ah ch)] H R (Znt g c):=by
 refine Zc Tryz.func18 rfl Tryz.ntmps18 rfl ?_
 refine sqt 4 rfl (bx rfl rfl rfl (fun b2=>bx rfl rfl rfl (fun b3=>alc rfl Z1s rfl (fun b4=>pur 1 rfl (sqt 8 rfl (spL rfl rfl (lhA [_,_,_] Z5H rfl rfl rfl) rfl (spL rfl rfl (lhA [_,_,_] Z2b rfl rfl rfl) rfl ?_)))))))
 refine cl rfl ZmF rfl rfl (Z1j g ag cg hlg c ah ch hlh _ _) ?_
 rintro _ _ _ ⟨rfl,ho⟩
 rcases ho with ⟨hne,rfl,rfl⟩ | ⟨hg,hc,h0,bw,rfl,rfl⟩
 refine pur 5 rfl (Z0 (sqt 2 rfl (pur 2 rfl ?_)))
 refine Z1 rfl ?_ ?_<;>intro hc0
 refine sqt 4 rfl (sp rfl (PE.build (out:=[_,_]) Z3Z Z1s rfl rfl) rfl (pur 1 rfl ?_))
 refine sto rfl rfl rfl Z34 rfl rfl rfl rfl ?_
 refine pur 1 rfl (Z4 ?_)
 exact Z9 (vs:=[_,_]) rfl (.cons (RV.cell rfl (lhA [_,_] Z2R rfl rfl rfl)) (.cons (RV.tmp rfl) .nil)) (by unfold Znt;rw [dT hne];rfl) ⟨rfl,rfl,rfl⟩ drp
 exact absurd hc0 (by simp [hne])
 refine pur 5 rfl (Z0 (sqt 2 rfl (pur 2 rfl ?_)))
 refine Z1 rfl ?_ ?_<;>intro hc0
 exact absurd hc0 (by simp)
 refine Z3 (sqt 4 rfl (pur 1 rfl ?_))
 refine clV rfl Zfr rfl rfl (Zfh g hg ag cg c hc ah ch bw _ _) ?_
 refine sto rfl rfl rfl Z34 rfl rfl rfl rfl ?_
 refine pur 1 rfl (Z4 ?_)
 exact Z9 (vs:=[_,_]) rfl (.cons (RV.cell rfl (lhA [_,_] Z2R rfl rfl rfl)) (.cons (RV.tmp rfl) .nil)) (by unfold Znt;rw [dF (by omega)];rfl) ⟨rfl,rfl,rfl⟩ drp
theorem Yd.ftail {P:Program} {l:Nat} {a:List Value} {H:Z6} {R:Z5} {f:World→Prop} {Q:Value→Z6→Z5→Prop} (h:Yd P l a H R Q):Yd P l a H (f::R) Q:=fun w hs=>h w hs.ftail
def mxv (b:Box):Value:=.agg (Ze (Znp b)).toArray
structure KOk (l:List Grd) (b:Box) (k:Nat) (kv:KV):Prop where
 one:∀ e∈kv,e.1.length=1
 at_:∀ j:Int,kv.get [j]=bif decide (-1≤j)&&decide (j<(k:Int)-1) then (Z8w l b j).map mxv else none
theorem KOk.nil (l:List Grd) (b:Box):KOk l b 0 []:=⟨by simp,fun j=>by
 have:(decide (-1≤j)&&decide (j<((0:Nat):Int)-1))=false:=by rw [← Bool.decide_and];exact decide_eq_false (by omega)
 rw [this];rfl⟩
theorem KOk.skip {l:List Grd} {b:Box} {k:Nat} {kv:KV} (h:KOk l b k kv) (hn:Z8w l b ((k:Int)-1)=none):KOk l b (k+1) kv:=⟨h.one,fun j=>by
 rw [h.at_ j]
 by_cases hj:j=(k:Int)-1
 · subst hj
   have e1:(decide (-1≤(k:Int)-1)&&decide ((k:Int)-1<(k:Int)-1))=false:=by rw [← Bool.decide_and];exact decide_eq_false (by omega)
   rw [e1,hn];cases decide (-1≤(k:Int)-1)&&decide ((k:Int)-1<((k+1:Nat):Int)-1)<;>rfl
 · have e1:(decide (-1≤j)&&decide (j<(k:Int)-1))=(decide (-1≤j)&&decide (j<((k+1:Nat):Int)-1)):=by
     rw [← Bool.decide_and,← Bool.decide_and];exact decide_eq_decide.2 (by omega)
   rw [e1]⟩
theorem KOk.put {l:List Grd} {b x:Box} {k:Nat} {kv:KV} (h:KOk l b k kv) (hn:Z8w l b ((k:Int)-1)=some x):KOk l b (k+1) (kv.put [(k:Int)-1] (mxv x)):=⟨fun e he=>by
 rcases KV.put_mem he with rfl | he
 · rfl
 · exact h.one e he,fun j=>by
 rw [KV.get_put]
 by_cases hj:(k:Int)-1=j
 · subst hj
   have e1:(decide (-1≤(k:Int)-1)&&decide ((k:Int)-1<((k+1:Nat):Int)-1))=true:=by rw [← Bool.decide_and];exact decide_eq_true (by omega)
   rw [e1,hn];simp
 · have e0:decide (([(k:Int)-1]:List Int)=[j])=false:=by simpa using hj
   have e1:(decide (-1≤j)&&decide (j<(k:Int)-1))=(decide (-1≤j)&&decide (j<((k+1:Nat):Int)-1)):=by
     rw [← Bool.decide_and,← Bool.decide_and];exact decide_eq_decide.2 (by omega)
   rw [e0,h.at_ j,e1];rfl⟩
theorem Ziu:cal Tryz.prog 48=true:=by kernel_rfl
def Zpe (l:List Grd) (b:Box) (k:Nat):List Int:=((List.range k).filter fun (i:Nat)=>(Z8w l b (i:Nat)).isSome).map fun (i:Nat)=>(i:Int)
theorem Zfv (l:List Grd) (b:Box) (k:Nat):(Zpe l b k).length≤k:=by
 unfold Zpe
 rw [List.length_map]
 exact Nat.le_trans (List.length_filter_le _ _) (by simp)
theorem Zcu (l:List Grd) (b:Box):(Zix l b).length≤l.length+1:=by
 have h:=Zfv l b l.length
 show (Zpe l b l.length++_).length≤_
 rw [List.length_append]
 cases (Z8w l b (-1)).isSome<;>simp<;>omega
def ZmL (g:Gat) (c:Crt):List Int:=bif decide (Z0C g c false≠0) then [] else Zix g.grs (Zk4 g c)
theorem Z5S {g:Gat} {c:Crt} {b:Box} (h0:Z0C g c false=0) (hb:clo (Z5T g.miss c.hs fun _=>true)=some b):Zk4 g c=b:=by
 unfold Zk4;rw [decide_eq_false (by omega),hb];rfl
theorem Ziy {g:Gat} {c:Crt} {b:Box} (h0:Z0C g c false=0) (hb:clo (Z5T g.miss c.hs fun _=>true)=some b):ZmL g c=Zix g.grs b:=by
 unfold ZmL;rw [decide_eq_false (by omega),Z5S h0 hb];rfl
theorem ZdM {g:Gat} {c:Crt} (hg:g.ok) (hc:c.ok):(0≤(netP g c).1∧(netP g c).1≤10100)∧(0≤(netP g c).2∧(netP g c).2≤10100):=by
 have:=hg.err;have:=hc.full;have:=hc.empty
 unfold netP;simp only;omega
theorem mul_b {a b A B:Int} (h1:0≤a) (h2:a≤A) (h3:0≤b) (h4:b≤B):0≤a*b∧a*b≤A*B:=by
 have e1:=Int.mul_nonneg h1 h3
 have e2:=Int.mul_le_mul h2 h4 h3 (by omega)
 exact ⟨e1,e2⟩
def wgtR (g:Gat) (c:Crt) (k:Int):Value:=bif decide (Z0C g c (!(inb k 0 3))≠0) then .tuple #[spv 0 0,.int .i64 (Z0C g c (!(inb k 0 3)))] else .tuple #[spv ((netP g c).1*bl (Zk4 g c) k.toNat / 40) ((netP g c).2*bh (Zk4 g c) k.toNat / 40),.int .i64 0]
theorem Z7r {g:Gat} {c:Crt} (h:Z0C g c true=0):False:=by
 unfold Z0C at h
 cases hb:decide (Z1J g c≠0) with
 | true=>rw [hb] at h;simp only [cond_true] at h;have:=of_decide_eq_true hb;omega
 | false=>rw [hb] at h;cases h
theorem Z6n {b:Box} (hb:b.length=8) {k:Nat} (hk:k<4):(Ze b)[0+((k:Nat):Int).toNat*2+0]?=some (.int .i64 (bl b k))∧(Ze b)[0+((k:Nat):Int).toNat*2+1]?=some (.int .i64 (bh b k)):=by
 obtain ⟨a0,a1,a2,a3,a4,a5,a6,a7,rfl⟩:=Z6Y hb
 rcases lt4 hk with rfl | rfl | rfl | rfl<;>exact ⟨rfl,rfl⟩
theorem c_Weight (g:Gat) (ag:Option Addr) (cg:Nat) (hlg:g.grs.length≤9223372036854775807) (c:Crt) (ah:Option Addr) (ch:Nat) (hlh:c.hs.length≤9223372036854775807) (k:Int) (H:Z6) (R:Z5) [hG:MemRows ag 5 (grows g.grs) R] [hA:MemRows ah 5 (hrows c.hs) R] :
    FnV Tryz.prog 17 [g.v (g.sl ag cg),c.v (c.sl ah ch),.int .i64 k] H R (wgtR g c k):=by
 refine Zc Tryz.func17 rfl Tryz.ntmps17 rfl ?_
 refine sqt 4 rfl (bx rfl rfl rfl (fun b3=>bx rfl rfl rfl (fun b4=>alc rfl Z1s rfl (fun b6=>pur 1 rfl (Z0 ?_)))))
 refine Za [0,0,0,4,12,31,63,127,127,127,0,1279,3583,8191] (.ld 0 (.ld 1 (.tk 2 (.any (.alt 3 (.tk 4 (.any (.alt 5 (tks 6 4 (.big 10 (.tk 11 (.big 12 (.tk 13 .done))))) (.alt 10 (.big 5 (tks 6 4 (.tk 11 (.big 12 (.tk 13 .done))))) .stop)))) (.alt 10 (.big 3 (.tk 4 (.big 5 (tks 6 4 (.tk 11 (.big 12 (.tk 13 .done))))))) .stop)))))) Zl (by kernel_rfl) ?_
 refine ld rfl rfl (lhA [_,_,_] Z5H rfl rfl rfl) rfl (ld rfl rfl (lhA [_,_,_] Z2b rfl rfl rfl) rfl (Zg 1 rfl ?_))
 refine ZL ?_ ?_
 refine clV rfl Z55 rfl rfl (Z3K _ _ _ _ _) ?_
 refine bg (fun w hs=>⟨(lhA [_,_,_] Z2b rfl rfl rfl) w hs,(lhA [_,_,_] Z5H rfl rfl rfl) w hs,trivial⟩) ?_
 refine Zg 1 rfl ?_
 refine ZL ?_ ?_
 refine cl rfl Ziu rfl rfl (Zcl g ag cg hlg c ah ch hlh (!(inb k 0 3)) _ _) ?_
 rintro _ _ _ ⟨rfl,hT⟩
 rcases hT with ⟨hne,rfl,rfl⟩ | ⟨h0,hg,hc,bw,b,hb,rfl,rfl⟩
 refine bgT (Zg 4 rfl (alc rfl Z49 rfl (fun b9=>bgT (Zg 1 rfl ?_))))
 refine Z2V rfl rfl rfl Z33 rfl (by rw [ints_length];exact rfl) rfl (Zs _) ?_
 refine bgT (Zg 1 rfl (Z0 (sqt 2 rfl (pur 2 rfl ?_))))
 refine Z1 rfl ?_ ?_<;>intro hc0
 refine sqt 4 rfl (sp rfl (PE.build (out:=[_,_]) Z3Z Z1s rfl rfl) rfl (pur 1 rfl ?_))
 refine sto rfl rfl rfl Z34 rfl rfl rfl rfl ?_
 refine pur 1 rfl (Z4 ?_)
 exact Z9 (vs:=[_,_]) rfl (.cons (RV.cell rfl (lhA [_,_] Z2R rfl rfl rfl)) (.cons (RV.tmp rfl) .nil)) (by unfold wgtR;rw [dT hne];rfl) ⟨rfl,rfl,rfl⟩ drp
 exact absurd hc0 (by rw [dT hne];simp)
 refine bgT ?_
 have hbt:=Z46 hb
 have hbl:=hbt.ok.len
 have hin:inb k 0 3=true:=by
   cases hin:inb k 0 3 with
   | true=>rfl
   | false=>rw [hin] at h0;exact (Z7r h0).elim
 have h00:Z0C g c false=0:=by rw [hin] at h0;exact h0
 have hbd:=Z5S h00 hb
 simp only [inb,Bool.and_eq_true,decide_eq_true_eq] at hin
 obtain ⟨q,rfl⟩:∃ q:Nat,k=q:=⟨k.toNat,by omega⟩
 have hq4:q<4:=by omega
 obtain ⟨hn1,hn2⟩:=ZdM hg hc
 have hbq:=hbt.ok.at_ q hq4
 have hbf:=hbt.fit q hq4
 have hm1:=mul_b hn1.1 hn1.2 (show 0≤bl b q by omega) (show bl b q≤40 by omega)
 have hm2:=mul_b hn2.1 hn2.2 (show 0≤bh b q by omega) (show bh b q≤40 by omega)
 obtain ⟨hx1,hx2⟩:=Z6n hbl hq4
 simp only [netP] at hm1 hm2
 refine Zg 4 rfl (alc rfl Z49 rfl (fun b9=>bgT (Zg 1 rfl ?_)))
 refine Z2V rfl rfl rfl Z33 rfl (by rw [ints_length];exact hbl) rfl (Zs _) ?_
 refine bgT (Zg 1 rfl (Z0 (sqt 2 rfl (pur 2 rfl ?_))))
 refine Z1 rfl ?_ ?_<;>intro hc0
 exact absurd hc0 (by simp)
 refine Z3 (sqt 4 rfl (pur 1 rfl ?_))
 refine clV rfl Zfr rfl rfl (Zfh g hg ag cg c hc ah ch bw _ _) ?_
 refine alc rfl Z1s rfl (fun b11=>?_)
 refine sto rfl rfl rfl Z34 rfl rfl rfl rfl ?_
 refine Z0 ?_
 refine Za [0,1,0,4,12,28,63,127,0,256,0,1024,3072,7168,16128,32512,65535,131071,262143] (.tk 0 (.ld 1 (tks 2 3 (.ld 5 (tks 6 3 (.ld 9 (tks 10 3 (.ld 13 (tks 14 3 (.big 17 (.tk 18 .done))))))))))) Zl (by kernel_rfl) ?_
 refine tk rfl (PE.fA ZH rfl) rfl (ld rfl rfl (lh sc3 rfl rfl) rfl (Zg 1 rfl (tk rfl (PE.indexArr Z30 rfl rfl (by omega) (by omega)) rfl (tk rfl (PE.fA ZH rfl) rfl (ld rfl rfl (lh sc3 rfl hx1) rfl (tk rfl (PE.mul rfl rfl (by omega)) rfl (tk rfl (PE.quo rfl rfl (by omega)) rfl (tk rfl (PE.fA ZI rfl) rfl (ld rfl rfl (lh sc3 rfl rfl) rfl (Zg 1 rfl (tk rfl (PE.indexArr Z30 rfl rfl (by omega) (by omega)) rfl (tk rfl (PE.fA ZI rfl) rfl (ld rfl rfl (lh sc3 rfl hx2) rfl (tk rfl (PE.mul rfl rfl (by omega)) rfl (tk rfl (PE.quo rfl rfl (by omega)) rfl ?_)))))))))))))))
 refine tk rfl (PE.build (out:=[_,_]) Z3Z Z1s rfl rfl) rfl ?_
 refine sto rfl rfl rfl Z34 rfl rfl rfl rfl ?_
 refine bgT (Zg 1 rfl (Z4 ?_))
 exact Z9 (vs:=[_,_]) rfl (.cons (RV.cell rfl (lhA [_,_] Z2R rfl rfl rfl)) (.cons (RV.tmp rfl) .nil)) (by unfold wgtR;rw [dF (by omega),hbd];rfl) ⟨rfl,rfl,rfl⟩ drp
 refine ZL ?_ ?_
 refine alc rfl Z49 rfl (fun b9=>?_)
 refine bg (fun w hs=>⟨(lhA [_,_,_] Z2b rfl rfl rfl) w hs,(lhA [_,_,_] Z5H rfl rfl rfl) w hs,trivial⟩) ?_
 refine cl rfl Ziu rfl rfl (Zcl g ag cg hlg c ah ch hlh (!(inb k 0 3)) _ _) ?_
 rintro _ _ _ ⟨rfl,hT⟩
 rcases hT with ⟨hne,rfl,rfl⟩ | ⟨h0,hg,hc,bw,b,hb,rfl,rfl⟩
 refine bgT (Zg 5 rfl ?_)
 refine Z2V rfl rfl rfl Z33 rfl (by rw [ints_length];exact rfl) rfl (Zs _) ?_
 refine bgT (Zg 1 rfl (Z0 (sqt 2 rfl (pur 2 rfl ?_))))
 refine Z1 rfl ?_ ?_<;>intro hc0
 refine sqt 4 rfl (sp rfl (PE.build (out:=[_,_]) Z3Z Z1s rfl rfl) rfl (pur 1 rfl ?_))
 refine sto rfl rfl rfl Z34 rfl rfl rfl rfl ?_
 refine pur 1 rfl (Z4 ?_)
 exact Z9 (vs:=[_,_]) rfl (.cons (RV.cell rfl (lhA [_,_] Z2R rfl rfl rfl)) (.cons (RV.tmp rfl) .nil)) (by unfold wgtR;rw [dT hne];rfl) ⟨rfl,rfl,rfl⟩ drp
 exact absurd hc0 (by rw [dT hne];simp)
 refine bgT ?_
 have hbt:=Z46 hb
 have hbl:=hbt.ok.len
 have hin:inb k 0 3=true:=by
   cases hin:inb k 0 3 with
   | true=>rfl
   | false=>rw [hin] at h0;exact (Z7r h0).elim
 have h00:Z0C g c false=0:=by rw [hin] at h0;exact h0
 have hbd:=Z5S h00 hb
 simp only [inb,Bool.and_eq_true,decide_eq_true_eq] at hin
 obtain ⟨q,rfl⟩:∃ q:Nat,k=q:=⟨k.toNat,by omega⟩
 have hq4:q<4:=by omega
 obtain ⟨hn1,hn2⟩:=ZdM hg hc
 have hbq:=hbt.ok.at_ q hq4
 have hbf:=hbt.fit q hq4
 have hm1:=mul_b hn1.1 hn1.2 (show 0≤bl b q by omega) (show bl b q≤40 by omega)
 have hm2:=mul_b hn2.1 hn2.2 (show 0≤bh b q by omega) (show bh b q≤40 by omega)
 obtain ⟨hx1,hx2⟩:=Z6n hbl hq4
 simp only [netP] at hm1 hm2
 refine Zg 5 rfl ?_
 refine Z2V rfl rfl rfl Z33 rfl (by rw [ints_length];exact hbl) rfl (Zs _) ?_
 refine bgT (Zg 1 rfl (Z0 (sqt 2 rfl (pur 2 rfl ?_))))
 refine Z1 rfl ?_ ?_<;>intro hc0
 exact absurd hc0 (by simp)
 refine Z3 (sqt 4 rfl (pur 1 rfl ?_))
 refine clV rfl Zfr rfl rfl (Zfh g hg ag cg c hc ah ch bw _ _) ?_
 refine alc rfl Z1s rfl (fun b11=>?_)
 refine sto rfl rfl rfl Z34 rfl rfl rfl rfl ?_
 refine Z0 ?_
 refine Za [0,1,0,4,12,28,63,127,0,256,0,1024,3072,7168,16128,32512,65535,131071,262143] (.tk 0 (.ld 1 (tks 2 3 (.ld 5 (tks 6 3 (.ld 9 (tks 10 3 (.ld 13 (tks 14 3 (.big 17 (.tk 18 .done))))))))))) Zl (by kernel_rfl) ?_
 refine tk rfl (PE.fA ZH rfl) rfl (ld rfl rfl (lh sc3 rfl rfl) rfl (Zg 1 rfl (tk rfl (PE.indexArr Z30 rfl rfl (by omega) (by omega)) rfl (tk rfl (PE.fA ZH rfl) rfl (ld rfl rfl (lh sc3 rfl hx1) rfl (tk rfl (PE.mul rfl rfl (by omega)) rfl (tk rfl (PE.quo rfl rfl (by omega)) rfl (tk rfl (PE.fA ZI rfl) rfl (ld rfl rfl (lh sc3 rfl rfl) rfl (Zg 1 rfl (tk rfl (PE.indexArr Z30 rfl rfl (by omega) (by omega)) rfl (tk rfl (PE.fA ZI rfl) rfl (ld rfl rfl (lh sc3 rfl hx2) rfl (tk rfl (PE.mul rfl rfl (by omega)) rfl (tk rfl (PE.quo rfl rfl (by omega)) rfl ?_)))))))))))))))
 refine tk rfl (PE.build (out:=[_,_]) Z3Z Z1s rfl rfl) rfl ?_
 refine sto rfl rfl rfl Z34 rfl rfl rfl rfl ?_
 refine bgT (Zg 1 rfl (Z4 ?_))
 exact Z9 (vs:=[_,_]) rfl (.cons (RV.cell rfl (lhA [_,_] Z2R rfl rfl rfl)) (.cons (RV.tmp rfl) .nil)) (by unfold wgtR;rw [dF (by omega),hbd];rfl) ⟨rfl,rfl,rfl⟩ drp
 exact Z0f
 refine ZL ?_ ?_
 refine alc rfl Z49 rfl (fun b9=>?_)
 refine bg (fun w hs=>⟨(lhA [_,_,_] Z2b rfl rfl rfl) w hs,(lhA [_,_,_] Z5H rfl rfl rfl) w hs,trivial⟩) ?_
 refine clV rfl Z55 rfl rfl (Z3K _ _ _ _ _) ?_
 refine bg (fun w hs=>⟨(lhA [_,_,_] Z2b rfl rfl rfl) w hs,(lhA [_,_,_] Z5H rfl rfl rfl) w hs,trivial⟩) ?_
 refine Zg 1 rfl ?_
 refine cl rfl Ziu rfl rfl (Zcl g ag cg hlg c ah ch hlh (!(inb k 0 3)) _ _) ?_
 rintro _ _ _ ⟨rfl,hT⟩
 rcases hT with ⟨hne,rfl,rfl⟩ | ⟨h0,hg,hc,bw,b,hb,rfl,rfl⟩
 refine bgT (Zg 5 rfl ?_)
 refine Z2V rfl rfl rfl Z33 rfl (by rw [ints_length];exact rfl) rfl (Zs _) ?_
 refine bgT (Zg 1 rfl (Z0 (sqt 2 rfl (pur 2 rfl ?_))))
 refine Z1 rfl ?_ ?_<;>intro hc0
 refine sqt 4 rfl (sp rfl (PE.build (out:=[_,_]) Z3Z Z1s rfl rfl) rfl (pur 1 rfl ?_))
 refine sto rfl rfl rfl Z34 rfl rfl rfl rfl ?_
 refine pur 1 rfl (Z4 ?_)
 exact Z9 (vs:=[_,_]) rfl (.cons (RV.cell rfl (lhA [_,_] Z2R rfl rfl rfl)) (.cons (RV.tmp rfl) .nil)) (by unfold wgtR;rw [dT hne];rfl) ⟨rfl,rfl,rfl⟩ drp
 exact absurd hc0 (by rw [dT hne];simp)
 refine bgT ?_
 have hbt:=Z46 hb
 have hbl:=hbt.ok.len
 have hin:inb k 0 3=true:=by
   cases hin:inb k 0 3 with
   | true=>rfl
   | false=>rw [hin] at h0;exact (Z7r h0).elim
 have h00:Z0C g c false=0:=by rw [hin] at h0;exact h0
 have hbd:=Z5S h00 hb
 simp only [inb,Bool.and_eq_true,decide_eq_true_eq] at hin
 obtain ⟨q,rfl⟩:∃ q:Nat,k=q:=⟨k.toNat,by omega⟩
 have hq4:q<4:=by omega
 obtain ⟨hn1,hn2⟩:=ZdM hg hc
 have hbq:=hbt.ok.at_ q hq4
 have hbf:=hbt.fit q hq4
 have hm1:=mul_b hn1.1 hn1.2 (show 0≤bl b q by omega) (show bl b q≤40 by omega)
 have hm2:=mul_b hn2.1 hn2.2 (show 0≤bh b q by omega) (show bh b q≤40 by omega)
 obtain ⟨hx1,hx2⟩:=Z6n hbl hq4
 simp only [netP] at hm1 hm2
 refine Zg 5 rfl ?_
 refine Z2V rfl rfl rfl Z33 rfl (by rw [ints_length];exact hbl) rfl (Zs _) ?_
 refine bgT (Zg 1 rfl (Z0 (sqt 2 rfl (pur 2 rfl ?_))))
 refine Z1 rfl ?_ ?_<;>intro hc0
 exact absurd hc0 (by simp)
 refine Z3 (sqt 4 rfl (pur 1 rfl ?_))
 refine clV rfl Zfr rfl rfl (Zfh g hg ag cg c hc ah ch bw _ _) ?_
 refine alc rfl Z1s rfl (fun b11=>?_)
 refine sto rfl rfl rfl Z34 rfl rfl rfl rfl ?_
 refine Z0 ?_
 refine Za [0,1,0,4,12,28,63,127,0,256,0,1024,3072,7168,16128,32512,65535,131071,262143] (.tk 0 (.ld 1 (tks 2 3 (.ld 5 (tks 6 3 (.ld 9 (tks 10 3 (.ld 13 (tks 14 3 (.big 17 (.tk 18 .done))))))))))) Zl (by kernel_rfl) ?_
 refine tk rfl (PE.fA ZH rfl) rfl (ld rfl rfl (lh sc3 rfl rfl) rfl (Zg 1 rfl (tk rfl (PE.indexArr Z30 rfl rfl (by omega) (by omega)) rfl (tk rfl (PE.fA ZH rfl) rfl (ld rfl rfl (lh sc3 rfl hx1) rfl (tk rfl (PE.mul rfl rfl (by omega)) rfl (tk rfl (PE.quo rfl rfl (by omega)) rfl (tk rfl (PE.fA ZI rfl) rfl (ld rfl rfl (lh sc3 rfl rfl) rfl (Zg 1 rfl (tk rfl (PE.indexArr Z30 rfl rfl (by omega) (by omega)) rfl (tk rfl (PE.fA ZI rfl) rfl (ld rfl rfl (lh sc3 rfl hx2) rfl (tk rfl (PE.mul rfl rfl (by omega)) rfl (tk rfl (PE.quo rfl rfl (by omega)) rfl ?_)))))))))))))))
 refine tk rfl (PE.build (out:=[_,_]) Z3Z Z1s rfl rfl) rfl ?_
 refine sto rfl rfl rfl Z34 rfl rfl rfl rfl ?_
 refine bgT (Zg 1 rfl (Z4 ?_))
 exact Z9 (vs:=[_,_]) rfl (.cons (RV.cell rfl (lhA [_,_] Z2R rfl rfl rfl)) (.cons (RV.tmp rfl) .nil)) (by unfold wgtR;rw [dF (by omega),hbd];rfl) ⟨rfl,rfl,rfl⟩ drp
 exact Z0f
theorem Z2n (l:List Hnd):∀ q∈hrows l,q.length=5:=fun q hq=>by obtain ⟨x,_,rfl⟩:=List.mem_map.1 hq;rfl
end Go.Proofs.YtcfdanhklbklkaaGreat.Gt
namespace Go.Proofs.YtcfdanhklbklkaaGreat.Gt
set_option linter.unusedSimpArgs false
set_option linter.unusedVariables false
def g0 (n:Int) (m:Mix) (k:Nat):Int:=n*nn m k / 40
def Z45 (n:Int) (m:Mix):Nat→List Int×Int
 | 0=>([0,0,0,0],n)
 | k+1=>((Z45 n m k).1.set k (g0 n m k),(Z45 n m k).2-g0 n m k)
def ZaN (n:Int) (m:Mix) (s:List Int×Int) (k:Nat):Bool:=decide (0<s.2)&&decide (0<n*nn m k%40)
def Z1w (n:Int) (m:Mix):Nat→List Int×Int
 | 0=>Z45 n m 4
 | k+1=>bif ZaN n m (Z1w n m k) k then ((Z1w n m k).1.set k (nn (Z1w n m k).1 k+1),(Z1w n m k).2-1) else Z1w n m k
theorem Zpw {n:Int} {m:Mix} (hm:Mxt m):n*nn m 0+n*nn m 1+n*nn m 2+n*nn m 3=40*n:=by
 have:=hm.sum
 unfold Z3B at this
 rw [← Int.mul_add,← Int.mul_add,← Int.mul_add,this,Int.mul_comm]
theorem Z1W {n:Int} {m:Mix} (hm:Mxt m) (hn:0≤n∧n≤200) {k:Nat} (hk:k<4):0≤n*nn m k∧n*nn m k≤8000∧n*nn m k≤40*n:=by
 have h:=hm.at_ k hk
 have h1:=Int.mul_nonneg hn.1 h.1
 have h2:=Int.mul_le_mul_of_nonneg_left h.2 hn.1
 omega
theorem Z9q {n:Int} {m:Mix} (hm:Mxt m) (hn:0≤n∧n≤200):∀ k,k≤4→(Z45 n m k).1.length=4∧Z3B (Z45 n m k).1+(Z45 n m k).2=n∧(∀ j<k,nn (Z45 n m k).1 j=g0 n m j)∧(∀ j,k≤j→nn (Z45 n m k).1 j=0)∧(Z45 n m k).2≤n ∧ -1000*k≤(Z45 n m k).2
 | 0,_=>⟨rfl,by simp [Z45,Z3B,nn],fun j hj=>by omega,fun j _=>by
     show nn [0,0,0,0] j=0
     unfold nn
     match j with
     | 0=>rfl
     | 1=>rfl
     | 2=>rfl
     | 3=>rfl
     | j+4=>rfl,Int.le_refl _,by show -1000*((0:Nat):Int)≤n;omega⟩
 | k+1,hk=>by
   obtain ⟨h1,h2,h3,h4,h5,h6⟩:=Z9q hm hn k (by omega)
   have hb:=Z1W hm hn (k:=k) (by omega)
   have hg:0≤g0 n m k∧g0 n m k≤200:=by unfold g0;omega
   refine ⟨by simp [Z45,h1],?_,fun j hj=>?_,fun j hj=>?_,?_,?_⟩
   · show Z3B ((Z45 n m k).1.set k _)+((Z45 n m k).2-g0 n m k)=n
     rw [Z44 h1 (by omega),h4 k (Nat.le_refl _)];omega
   · show nn ((Z45 n m k).1.set k _) j=_
     rw [Z2W (by omega)]
     by_cases hkj:k=j
     · subst hkj;simp
     · have:(k == j)=false:=by simpa using hkj
       rw [this];exact h3 j (by omega)
   · show nn ((Z45 n m k).1.set k _) j=_
     rw [Z2W (by omega)]
     have:(k == j)=false:=by simp;omega
     rw [this];exact h4 j (by omega)
   · show (Z45 n m k).2-g0 n m k≤n;omega
   · show -1000*((k+1:Nat):Int)≤(Z45 n m k).2-g0 n m k;omega
def rst (n:Int) (m:Mix) (k:Nat):Int:=(bif decide (k≤0) then n*nn m 0%40 else 0)+(bif decide (k≤1) then n*nn m 1%40 else 0)+(bif decide (k≤2) then n*nn m 2%40 else 0)+(bif decide (k≤3) then n*nn m 3%40 else 0)
theorem Zgg {n:Int} {m:Mix} {k:Nat} (hk:k<4):rst n m k=n*nn m k%40+rst n m (k+1):=by
 rcases lt4 hk with rfl | rfl | rfl | rfl<;>simp [rst]<;>omega
theorem Zjz (n:Int) (m:Mix) (k:Nat):0≤rst n m k:=by
 unfold rst
 cases decide (k≤0)<;>cases decide (k≤1)<;>cases decide (k≤2)<;>cases decide (k≤3)<;>simp only [cond_true,cond_false]<;>omega
structure TakP (n:Int) (m:Mix) (k:Nat) (s:List Int×Int):Prop where
 len:s.1.length=4
 sum:Z3B s.1+s.2=n
 lo:0≤s.2
 hi:40*s.2≤rst n m k
 at_:∀ j<4,g0 n m j≤nn s.1 j∧nn s.1 j≤g0 n m j+1∧(n*nn m j%40=0→nn s.1 j=g0 n m j)
 new:∀ j<4,k≤j→nn s.1 j=g0 n m j
theorem Z9p {n:Int} {m:Mix} (hm:Mxt m) (hn:0≤n∧n≤200):∀ k,k≤4→TakP n m k (Z1w n m k)
 | 0,_=>by
   obtain ⟨h1,h2,h3,_,_,_⟩:=Z9q hm hn 4 (by omega)
   have hs:=Zpw (n:=n) hm
   have e:Z3B (Z45 n m 4).1=n*nn m 0 / 40+n*nn m 1 / 40+n*nn m 2 / 40+n*nn m 3 / 40:=by
     unfold Z3B
     rw [h3 0 (by omega),h3 1 (by omega),h3 2 (by omega),h3 3 (by omega)];rfl
   refine ⟨h1,h2,?_,?_,fun j hj=>?_,fun j hj _=>h3 j hj⟩
   · show 0≤(Z45 n m 4).2;omega
   · show 40*(Z45 n m 4).2≤_
     have:rst n m 0=n*nn m 0%40+n*nn m 1%40+n*nn m 2%40+n*nn m 3%40:=by simp [rst]
     rw [this];omega
   · show _≤nn (Z45 n m 4).1 j∧_
     rw [show (Z1w n m 0)=Z45 n m 4 from rfl,h3 j hj];omega
 | k+1,hk=>by
   have ih:=Z9p hm hn k (by omega)
   have hr:=Zgg (n:=n) (m:=m) (k:=k) (by omega)
   have hp:=Zjz n m (k+1)
   have hnew:=ih.new k (by omega) (Nat.le_refl _)
   have hlo:=ih.lo
   have hhi:=ih.hi
   unfold Z1w
   cases hc:ZaN n m (Z1w n m k) k with
   | true =>
     simp only [ZaN,Bool.and_eq_true,decide_eq_true_eq] at hc
     simp only [cond_true]
     have hset:∀ j,nn ((Z1w n m k).1.set k (nn (Z1w n m k).1 k+1)) j=bif k == j then nn (Z1w n m k).1 k+1 else nn (Z1w n m k).1 j:=fun j=>Z2W (by rw [ih.len];omega)
     refine ⟨by simp [ih.len],?_,by simp only;omega,by simp only;omega,fun j hj=>?_,fun j hj hkj=>?_⟩
     · have:=ih.sum
       simp only
       rw [Z44 ih.len (by omega)];omega
     · simp only
       rw [hset]
       by_cases hkj:k=j
       · subst hkj;simp only [beq_self_eq_true,cond_true];omega
       · have:(k == j)=false:=by simpa using hkj
         rw [this];exact ih.at_ j hj
     · simp only
       rw [hset]
       have:(k == j)=false:=by simp;omega
       rw [this];exact ih.new j hj (by omega)
   | false =>
     simp only [cond_false]
     have h5:¬ (0<(Z1w n m k).2∧0<n*nn m k%40):=fun h=>by
       have:ZaN n m (Z1w n m k) k=true:=by simp [ZaN,h.1,h.2]
       rw [this] at hc;cases hc
     exact ⟨ih.len,ih.sum,hlo,by omega,ih.at_,fun j hj hkj=>ih.new j hj (by omega)⟩
theorem Zew {n:Int} {m:Mix} (hm:Mxt m) (hn:0≤n∧n≤200):(Z1w n m 4).1.length=4∧Z3B (Z1w n m 4).1=n∧∀ j<4,g0 n m j≤nn (Z1w n m 4).1 j∧nn (Z1w n m 4).1 j≤g0 n m j+1∧(n*nn m j%40=0→nn (Z1w n m 4).1 j=g0 n m j):=by
 have h:=Z9p hm hn 4 (by omega)
 have h1:=h.hi
 have h2:=h.lo
 have h3:=h.sum
 have:rst n m 4=0:=by simp [rst]
 exact ⟨h.len,by omega,h.at_⟩
def tkM (l:List Int) (a b:Nat) (t:Int):List Int:=bif a == b then l else (l.set a (nn l a-t)).set b (nn l b+t)
theorem ZhG {l:List Int} (h:l.length=4) {a b:Nat} (ha:a<4) (hb:b<4) (t:Int):(tkM l a b t).length=4∧Z3B (tkM l a b t)=Z3B l∧∀ j<4,nn (tkM l a b t) j=nn l j∨(j=a∧nn (tkM l a b t) j=nn l a-t)∨(j=b∧nn (tkM l a b t) j=nn l b+t):=by
 unfold tkM
 by_cases hab:a=b
 · have:(a == b)=true:=by simpa using hab
   rw [this];exact ⟨h,rfl,fun j _=>.inl rfl⟩
 · have:(a == b)=false:=by simpa using hab
   rw [this]
   simp only [cond_false]
   refine ⟨by simp [h],?_,fun j hj=>?_⟩
   · rw [Z44 (by simp [h]) hb,Z44 h ha,Z2W (by omega),this]
     simp only [cond_false];omega
   · rw [Z2W (by simp;omega),Z2W (by omega)]
     by_cases h1:b=j
     · subst h1;simp
     · by_cases h2:a=j
       · subst h2
         have:(b == a)=false:=by simpa using h1
         simp [this]
       · have e1:(b == j)=false:=by simpa using h1
         have e2:(a == j)=false:=by simpa using h2
         simp [e1,e2]
theorem Zex {n miss t:Int} {m:Mix} {a b:Nat} {spot:Int} (hm:Mxt m) (hn:10≤n∧n≤200) (hs:0≤spot∧spot≤2) (hmi:0≤miss) (h0:miss=0→∃ j:Int,n=40*j) (ha:a<4) (hb:b<4) (ht:0≤t∧t≤nn (Z1w n m 4).1 a∧(t=0∨t<miss)) {x0 x1 x2 x3:Int}
   (hx:tkM (Z1w n m 4).1 a b t=[x0,x1,x2,x3]):Hnd.ok ⟨spot,x0,x1,x2,x3⟩∧Zb6 miss ⟨spot,x0,x1,x2,x3⟩ m=true:=by
 obtain ⟨h1,h2,h3⟩:=Zew hm (n:=n) (by omega)
 obtain ⟨k1,k2,k3⟩:=ZhG h1 ha hb t
 rw [hx] at k2 k3
 have htot:Hnd.tot ⟨spot,x0,x1,x2,x3⟩=n:=by
   show Z3B [x0,x1,x2,x3]=n
   rw [k2,h2]
 have hgs:Hnd.gs ⟨spot,x0,x1,x2,x3⟩=[x0,x1,x2,x3]:=rfl
 have hz:∀ k<4,miss=0→n*nn m k%40=0:=fun k _ h=>by
   obtain ⟨j,rfl⟩:=h0 h
   rw [Int.mul_assoc];omega
 have hall:∀ k<4,0≤nn [x0,x1,x2,x3] k∧(nn [x0,x1,x2,x3] k*40-n*nn m k≤40*miss∧n*nn m k-nn [x0,x1,x2,x3] k*40≤40*miss):=fun k hk=>by
   have hb1:=Z1W hm (n:=n) (by omega) hk
   have h4:=h3 k hk
   have h4a:=h3 a ha
   have h4b:=h3 b hb
   have hza:=hz k hk
   unfold g0 at h4 h4a h4b
   have hb2:=Z1W hm (n:=n) (by omega) ha
   have hb3:=Z1W hm (n:=n) (by omega) hb
   rcases k3 k hk with h5 | ⟨rfl,h5⟩ | ⟨rfl,h5⟩<;>omega
 have hsum:x0+x1+x2+x3=n:=htot
 obtain ⟨p0,p1,p2,p3⟩:=Z7E hall
 simp only [nn,List.getD_cons_zero,List.getD_cons_succ] at p0 p1 p2 p3
 refine ⟨⟨hs,?_,by rw [htot];omega⟩,?_⟩
 · rw [hgs]
   exact of4 ⟨by simp [nn];omega,by simp [nn];omega,by simp [nn];omega,by simp [nn];omega⟩
 · unfold Zb6
   rw [List.all_eq_true]
   intro k hk
   have hk:=List.mem_range.1 hk
   have:=(hall k hk).2
   simp only [Zk8,htot,hgs,Bool.and_eq_true,decide_eq_true_eq]
   rw [Int.mul_comm (nn m k) n]
   omega
open Go
theorem Zkk:arE Tryz.prog 69=some (4,3):=by kernel_rfl
theorem Z6t:cal Tryz.prog 15=true:=by kernel_rfl
theorem Z1h:cal Tryz.prog 21=true:=by kernel_rfl
theorem ZoN:cal Tryz.prog 30=true:=by kernel_rfl
theorem Ziv:cal Tryz.prog 53=true:=by kernel_rfl
theorem Z8O:Zz Tryz.prog 109=some 1:=by kernel_rfl
theorem cn3:Zz Tryz.prog 3=some 1:=by kernel_rfl
theorem Zk5:Zz Tryz.prog 69=some 4:=by kernel_rfl
theorem Zpp:elN Tryz.prog 22=some 1:=by kernel_rfl
theorem Z2h:eqB Tryz.prog 10000 3=some (false,1):=by kernel_rfl
theorem Z1S:ZG Tryz.prog 111 0=some 0:=by kernel_rfl
theorem Z0m:ZG Tryz.prog 111 1=some 1:=by kernel_rfl
theorem ZE:ZG Tryz.prog 111 2=some 2:=by kernel_rfl
theorem Zdi:Zaf Tryz.prog 109=some .u32:=by kernel_rfl
theorem ik3:Zaf Tryz.prog 3=some .i64:=by kernel_rfl
theorem Z6V:Z2o Tryz.prog 22=true:=by kernel_rfl
theorem Zju:ZD Tryz.prog 111=some [(0,1),(1,1),(2,1)]:=by kernel_rfl
theorem Zre:ZD Tryz.prog 79=some [(0,1),(1,4)]:=by kernel_rfl
theorem Z1d:Z0c Tryz.prog 109=true:=by kernel_rfl
theorem Zgm:Z0c Tryz.prog 22=true:=by kernel_rfl
theorem sc5:Z0c Tryz.prog 5=true:=by kernel_rfl
theorem Z7t:(Tryz.prog.underlying 109).isSome=true:=by kernel_rfl
theorem us3:(Tryz.prog.underlying 3).isSome=true:=by kernel_rfl
theorem us5:(Tryz.prog.underlying 5).isSome=true:=by kernel_rfl
theorem ZjX:Zp Tryz.prog 111=some ([.slice none 0 0,.int .i64 0,.int .u32 0]):=by kernel_rfl
theorem Zkb:Zp Tryz.prog 69=some ([.int .i64 0,.int .i64 0,.int .i64 0,.int .i64 0]):=by kernel_rfl
def urow (x:Int):List Value:=[.int .u8 x]
def urows (l:List Int):List (List Value):=l.map urow
theorem c_Fill (g:List Int) (ag:Option Addr) (cg:Nat) (hgl:g.length≤9223372036854775807) (H:Z6) (R:Z5) :
    Fn Tryz.prog 7 [.slice ag g.length cg] H R (fun v H' R'=>∃ bk,∃ mx:Int,(0≤mx∧mx≤4294967295)∧v = .pointer (some ⟨bk,0,none⟩)∧H'=(bk,cel 111 [.slice ag g.length cg,.int .i64 (0),.int .u32 (mx)])::H∧R'=R):=by
 refine Zc Tryz.func7 rfl Tryz.ntmps7 rfl ?_
 refine sqt 1 rfl (pur 1 rfl (sqt 8 rfl (pur 2 rfl (sp rfl (PE.lenSl Z6V rfl) rfl ?_))))
 refine spE rfl (PE.convU us3 Zdi rfl) rfl ?_
 rintro _ ⟨u6,rfl,hu6⟩
 refine spE rfl (PE.xorU rfl rfl) rfl ?_
 rintro _ ⟨u7,rfl,hu7⟩
 refine sp rfl (PE.build (out:=[_,_,_]) Zju ZjX rfl rfl) rfl (bx rfl rfl rfl (fun b9=>pur 1 rfl (Z4 ?_)))
 exact rtA rfl rfl rfl ⟨b9,u7,hu7,rfl,rfl,rfl⟩ idH
theorem Z50 (g:List Int) (ag:Option Addr) (cg bk:Nat) (hgl:g.length≤9223372036854775807) (tq mx:Int) (htq:0≤tq∧tq≤1000000000) (hmx:0≤mx∧mx≤4294967295) (H:Z6) (R:Z5) [hG:MemRows ag 1 (urows g) R] :
    Fn Tryz.prog 53 [.pointer (some ⟨bk,0,none⟩)] ((bk,cel 111 [.slice ag g.length cg,.int .i64 (tq),.int .u32 (mx)])::H) R (fun v H' R'=>∃ x m':Int,(0≤x∧x≤65535)∧v = .int .i64 x∧(0≤m'∧m'≤4294967295)∧H'=(bk,cel 111 [.slice ag g.length cg,.int .i64 (tq+1),.int .u32 (m')])::H∧R'=R):=by
 refine Zc Tryz.func53 rfl Tryz.ntmps53 rfl ?_
 refine sqt 1 rfl (pur 1 rfl (Z0 (sqt 6 rfl (pur 1 rfl (sp rfl (PE.nilCheck rfl) rfl (sp rfl (PE.fA Z1S rfl) rfl (spL rfl rfl (lh Zgm rfl rfl) rfl (sp rfl (PE.lenSl Z6V rfl) rfl (pur 1 rfl (sqt 2 rfl (pur 2 rfl ?_)))))))))))
 refine Z1 rfl ?_ ?_<;>intro hc0<;>try simp only [cS] at hc0
 obtain ⟨y,hy⟩:∃ y,g[(tq%g.length).toNat]?=some y:=⟨_,List.getElem?_eq_getElem (by have:=Int.emod_lt_of_pos tq hc0;have:=Int.emod_nonneg tq (show (g.length:Int)≠0 by omega);omega)⟩
 refine Zj (a:=ag) (sz:=1) (rows:=urows g) (by intro h0;simp [urows] at h0;simp [h0] at hy) (fun bgr ogr he=>?_)
 subst he
 refine Za [0,0,2,6,14,0,32,96,224,0,512,1536,3584,0,15872,32736,65504,131040,262142,524286,1048575,2097151,4194303] (tks 0 4 (.ld 4 (tks 5 3 (.ld 8 (tks 9 3 (.ld 12 (tks 13 3 (.ld 16 (tks 17 5 (.big 22 .done)))))))))) Zl (by kernel_rfl) ?_
 refine Zg 2 rfl (tk rfl (PE.nilCheck rfl) rfl (tk rfl (PE.fA ZE rfl) rfl (ld rfl rfl (lh Z1d rfl rfl) rfl (Zg 1 rfl (tk rfl (PE.nilCheck rfl) rfl (tk rfl (PE.fA Z1S rfl) rfl (ld rfl rfl (lh Zgm rfl rfl) rfl (Zg 1 rfl (tk rfl (PE.nilCheck rfl) rfl (tk rfl (PE.fA Z0m rfl) rfl (ld rfl rfl (lh sc3 rfl rfl) rfl (Zg 1 rfl (tk rfl (PE.rem rfl rfl (by omega)) rfl (tk rfl (PE.indexAddr Zpp rfl rfl (by exact Int.emod_nonneg tq (by omega)) (by exact Int.emod_lt_of_pos tq hc0)) rfl (ld rfl rfl (lf0 (x:=.int .u8 y) sc5 (by simp [urows,urow,hy];rfl) rfl) rfl ?_)))))))))))))))
 refine tkE rfl (PE.convU us5 Zdi rfl) rfl ?_
 rintro _ ⟨u28,rfl,hu28⟩
 refine tkE rfl (PE.xorU rfl rfl) rfl ?_
 rintro _ ⟨u29,rfl,hu29⟩
 refine tkE rfl (PE.mulU rfl rfl) rfl ?_
 rintro _ ⟨u30,rfl,hu30⟩
 refine tk rfl (PE.nilCheck rfl) rfl (tk rfl (PE.fA ZE rfl) rfl ?_)
 refine sto rfl rfl rfl Z8O rfl rfl rfl rfl ?_
 refine bgT (sqt 8 rfl (pur 1 rfl (sp rfl (PE.nilCheck rfl) rfl (sp rfl (PE.fA Z0m rfl) rfl (spL rfl rfl (lh sc3 rfl rfl) rfl (sp rfl (PE.add rfl rfl (by omega)) rfl (sp rfl (PE.nilCheck rfl) rfl (sp rfl (PE.fA Z0m rfl) rfl ?_))))))))
 refine sto rfl rfl rfl cn3 rfl rfl rfl rfl ?_
 refine Z0 (Z0 ?_)
 refine Za [0,1,3,7,0,16,48,112,240,511] (tks 0 3 (.ld 3 (tks 4 3 (.ld 7 (.tk 8 (.tk 9 .done)))))) Zl (by kernel_rfl) ?_
 refine Zg 1 rfl (tk rfl (PE.nilCheck rfl) rfl (tk rfl (PE.fA Z0m rfl) rfl (ld rfl rfl (lh sc3 rfl rfl) rfl (Zg 1 rfl (tk rfl (PE.nilCheck rfl) rfl (tk rfl (PE.fA Z1S rfl) rfl (ld rfl rfl (lh Zgm rfl rfl) rfl (tk rfl (PE.lenSl Z6V rfl) rfl (Zg 1 rfl ?_)))))))))
 refine Z1 rfl ?_ ?_<;>intro hc1<;>try simp only [cS] at hc1
 refine sqr 10 rfl (pur 2 rfl (sp rfl (PE.nilCheck rfl) rfl (sp rfl (PE.fA ZE rfl) rfl (spL rfl rfl (lh Z1d rfl rfl) rfl ?_))))
 refine spE rfl (PE.mulU rfl rfl) rfl ?_
 rintro _ ⟨u55,rfl,hu55⟩
 refine spE rfl (PE.addU rfl rfl) rfl ?_
 rintro _ ⟨u56,rfl,hu56⟩
 refine sp rfl (PE.nilCheck rfl) rfl (sp rfl (PE.fA ZE rfl) rfl ?_)
 refine sto rfl rfl rfl Z8O rfl rfl rfl rfl ?_
 refine Z0 ?_
 refine Za [0,1,3,7,0,16,48,112,240,511,1023,2047,4095,8191] (tks 0 3 (.ld 3 (tks 4 3 (.ld 7 (tks 8 6 .done))))) Zl (by kernel_rfl) ?_
 refine Zg 1 rfl (tk rfl (PE.nilCheck rfl) rfl (tk rfl (PE.fA ZE rfl) rfl (ld rfl rfl (lh Z1d rfl rfl) rfl (Zg 1 rfl (tk rfl (PE.nilCheck rfl) rfl (tk rfl (PE.fA ZE rfl) rfl (ld rfl rfl (lh Z1d rfl rfl) rfl ?_)))))))
 refine tkE rfl (PE.shrU rfl rfl (by decide) (by omega) (by omega)) rfl ?_
 rintro _ ⟨u67,rfl,hu67⟩
 refine tkE rfl (PE.xorU rfl rfl) rfl ?_
 rintro _ ⟨u68,rfl,hu68⟩
 refine tkE rfl (PE.shrU rfl rfl (by decide) (by omega) (by omega)) rfl ?_
 rintro _ ⟨u69,rfl,hu69⟩
 refine tkE rfl (PE.andU rfl rfl (by decide) (by decide)) rfl ?_
 rintro _ ⟨u70,rfl,hu70⟩
 refine tk rfl (PE.conv64 Z7t ik3 rfl (by omega)) rfl (Zg 1 rfl (Z4 ?_))
 first
   | exact rtA rfl rfl rfl ⟨u70,_,hu70,rfl,hu56,rfl,rfl⟩ idH
   | exact rtA rfl rfl rfl ⟨u70,_,hu70,rfl,hu30,rfl,rfl⟩ idH
   | exact rtA rfl rfl rfl ⟨u70,_,hu70,rfl,hmx,rfl,rfl⟩ idH
 refine Z3 (Z0 ?_)
 refine Za [0,1,3,7,0,16,48,112,240,511,1023,2047,4095,8191] (tks 0 3 (.ld 3 (tks 4 3 (.ld 7 (tks 8 6 .done))))) Zl (by kernel_rfl) ?_
 refine Zg 1 rfl (tk rfl (PE.nilCheck rfl) rfl (tk rfl (PE.fA ZE rfl) rfl (ld rfl rfl (lh Z1d rfl rfl) rfl (Zg 1 rfl (tk rfl (PE.nilCheck rfl) rfl (tk rfl (PE.fA ZE rfl) rfl (ld rfl rfl (lh Z1d rfl rfl) rfl ?_)))))))
 refine tkE rfl (PE.shrU rfl rfl (by decide) (by omega) (by omega)) rfl ?_
 rintro _ ⟨u67,rfl,hu67⟩
 refine tkE rfl (PE.xorU rfl rfl) rfl ?_
 rintro _ ⟨u68,rfl,hu68⟩
 refine tkE rfl (PE.shrU rfl rfl (by decide) (by omega) (by omega)) rfl ?_
 rintro _ ⟨u69,rfl,hu69⟩
 refine tkE rfl (PE.andU rfl rfl (by decide) (by decide)) rfl ?_
 rintro _ ⟨u70,rfl,hu70⟩
 refine tk rfl (PE.conv64 Z7t ik3 rfl (by omega)) rfl (Zg 1 rfl (Z4 ?_))
 first
   | exact rtA rfl rfl rfl ⟨u70,_,hu70,rfl,hu56,rfl,rfl⟩ idH
   | exact rtA rfl rfl rfl ⟨u70,_,hu70,rfl,hu30,rfl,rfl⟩ idH
   | exact rtA rfl rfl rfl ⟨u70,_,hu70,rfl,hmx,rfl,rfl⟩ idH
 refine Z3 (sqt 8 rfl (pur 1 rfl (sp rfl (PE.nilCheck rfl) rfl (sp rfl (PE.fA Z0m rfl) rfl (spL rfl rfl (lh sc3 rfl rfl) rfl (sp rfl (PE.add rfl rfl (by omega)) rfl (sp rfl (PE.nilCheck rfl) rfl (sp rfl (PE.fA Z0m rfl) rfl ?_))))))))
 refine sto rfl rfl rfl cn3 rfl rfl rfl rfl ?_
 refine Z0 (Z0 ?_)
 refine Za [0,1,3,7,0,16,48,112,240,511] (tks 0 3 (.ld 3 (tks 4 3 (.ld 7 (.tk 8 (.tk 9 .done)))))) Zl (by kernel_rfl) ?_
 refine Zg 1 rfl (tk rfl (PE.nilCheck rfl) rfl (tk rfl (PE.fA Z0m rfl) rfl (ld rfl rfl (lh sc3 rfl rfl) rfl (Zg 1 rfl (tk rfl (PE.nilCheck rfl) rfl (tk rfl (PE.fA Z1S rfl) rfl (ld rfl rfl (lh Zgm rfl rfl) rfl (tk rfl (PE.lenSl Z6V rfl) rfl (Zg 1 rfl ?_)))))))))
 refine Z1 rfl ?_ ?_<;>intro hc1<;>try simp only [cS] at hc1
 refine sqr 10 rfl (pur 2 rfl (sp rfl (PE.nilCheck rfl) rfl (sp rfl (PE.fA ZE rfl) rfl (spL rfl rfl (lh Z1d rfl rfl) rfl ?_))))
 refine spE rfl (PE.mulU rfl rfl) rfl ?_
 rintro _ ⟨u55,rfl,hu55⟩
 refine spE rfl (PE.addU rfl rfl) rfl ?_
 rintro _ ⟨u56,rfl,hu56⟩
 refine sp rfl (PE.nilCheck rfl) rfl (sp rfl (PE.fA ZE rfl) rfl ?_)
 refine sto rfl rfl rfl Z8O rfl rfl rfl rfl ?_
 refine Z0 ?_
 refine Za [0,1,3,7,0,16,48,112,240,511,1023,2047,4095,8191] (tks 0 3 (.ld 3 (tks 4 3 (.ld 7 (tks 8 6 .done))))) Zl (by kernel_rfl) ?_
 refine Zg 1 rfl (tk rfl (PE.nilCheck rfl) rfl (tk rfl (PE.fA ZE rfl) rfl (ld rfl rfl (lh Z1d rfl rfl) rfl (Zg 1 rfl (tk rfl (PE.nilCheck rfl) rfl (tk rfl (PE.fA ZE rfl) rfl (ld rfl rfl (lh Z1d rfl rfl) rfl ?_)))))))
 refine tkE rfl (PE.shrU rfl rfl (by decide) (by omega) (by omega)) rfl ?_
 rintro _ ⟨u67,rfl,hu67⟩
 refine tkE rfl (PE.xorU rfl rfl) rfl ?_
 rintro _ ⟨u68,rfl,hu68⟩
 refine tkE rfl (PE.shrU rfl rfl (by decide) (by omega) (by omega)) rfl ?_
 rintro _ ⟨u69,rfl,hu69⟩
 refine tkE rfl (PE.andU rfl rfl (by decide) (by decide)) rfl ?_
 rintro _ ⟨u70,rfl,hu70⟩
 refine tk rfl (PE.conv64 Z7t ik3 rfl (by omega)) rfl (Zg 1 rfl (Z4 ?_))
 first
   | exact rtA rfl rfl rfl ⟨u70,_,hu70,rfl,hu56,rfl,rfl⟩ idH
   | exact rtA rfl rfl rfl ⟨u70,_,hu70,rfl,hu30,rfl,rfl⟩ idH
   | exact rtA rfl rfl rfl ⟨u70,_,hu70,rfl,hmx,rfl,rfl⟩ idH
 refine Z3 (Z0 ?_)
 refine Za [0,1,3,7,0,16,48,112,240,511,1023,2047,4095,8191] (tks 0 3 (.ld 3 (tks 4 3 (.ld 7 (tks 8 6 .done))))) Zl (by kernel_rfl) ?_
 refine Zg 1 rfl (tk rfl (PE.nilCheck rfl) rfl (tk rfl (PE.fA ZE rfl) rfl (ld rfl rfl (lh Z1d rfl rfl) rfl (Zg 1 rfl (tk rfl (PE.nilCheck rfl) rfl (tk rfl (PE.fA ZE rfl) rfl (ld rfl rfl (lh Z1d rfl rfl) rfl ?_)))))))
 refine tkE rfl (PE.shrU rfl rfl (by decide) (by omega) (by omega)) rfl ?_
 rintro _ ⟨u67,rfl,hu67⟩
 refine tkE rfl (PE.xorU rfl rfl) rfl ?_
 rintro _ ⟨u68,rfl,hu68⟩
 refine tkE rfl (PE.shrU rfl rfl (by decide) (by omega) (by omega)) rfl ?_
 rintro _ ⟨u69,rfl,hu69⟩
 refine tkE rfl (PE.andU rfl rfl (by decide) (by decide)) rfl ?_
 rintro _ ⟨u70,rfl,hu70⟩
 refine tk rfl (PE.conv64 Z7t ik3 rfl (by omega)) rfl (Zg 1 rfl (Z4 ?_))
 first
   | exact rtA rfl rfl rfl ⟨u70,_,hu70,rfl,hu56,rfl,rfl⟩ idH
   | exact rtA rfl rfl rfl ⟨u70,_,hu70,rfl,hu30,rfl,rfl⟩ idH
   | exact rtA rfl rfl rfl ⟨u70,_,hu70,rfl,hmx,rfl,rfl⟩ idH
theorem c_Below (g:List Int) (ag:Option Addr) (cg bk:Nat) (hgl:g.length≤9223372036854775807) (tq mx:Int) (htq:0≤tq∧tq≤1000000000) (hmx:0≤mx∧mx≤4294967295) (n:Int) (H:Z6) (R:Z5) [hG:MemRows ag 1 (urows g) R] :
    Fn Tryz.prog 21 [.pointer (some ⟨bk,0,none⟩),.int .i64 n] ((bk,cel 111 [.slice ag g.length cg,.int .i64 (tq),.int .u32 (mx)])::H) R (fun v H' R'=>∃ x m':Int,(0≤x∧x<max 1 n)∧v = .int .i64 x∧(0≤m'∧m'≤4294967295)∧H'=(bk,cel 111 [.slice ag g.length cg,.int .i64 (tq+1),.int .u32 (m')])::H∧R'=R):=by
 refine Zc Tryz.func21 rfl Tryz.ntmps21 rfl ?_
 refine sqt 1 rfl (pur 1 rfl (sqt 6 rfl (pur 1 rfl ?_)))
 refine cl rfl Ziv rfl rfl (Z50 g ag cg bk hgl tq mx htq hmx _ _) ?_
 rintro _ _ _ ⟨x,m',hx,rfl,hm',rfl,rfl⟩
 refine pur 1 rfl (sp rfl (PE.max rfl rfl) rfl (sp rfl (PE.rem rfl rfl (by omega)) rfl (pur 1 rfl (Z4 ?_))))
 exact rtA rfl rfl rfl ⟨_,m',⟨Int.emod_nonneg _ (by omega),Int.emod_lt_of_pos _ (by omega)⟩,rfl,hm',rfl,rfl⟩ idH
theorem c_Among (g:List Int) (ag:Option Addr) (cg bk:Nat) (hgl:g.length≤9223372036854775807) (tq mx:Int) (htq:0≤tq∧tq≤1000000000) (hmx:0≤mx∧mx≤4294967295) (lo hi:Int) (hb : -1000000≤lo∧lo≤1000000 ∧ -1000000≤hi∧hi≤1000000) (H:Z6) (R:Z5) [hG:MemRows ag 1 (urows g) R] :
    Fn Tryz.prog 15 [.pointer (some ⟨bk,0,none⟩),.int .i64 lo,.int .i64 hi] ((bk,cel 111 [.slice ag g.length cg,.int .i64 (tq),.int .u32 (mx)])::H) R (fun v H' R'=>∃ x m':Int,(lo≤x∧x<lo+max 1 (hi-lo+1))∧v = .int .i64 x∧(0≤m'∧m'≤4294967295)∧H'=(bk,cel 111 [.slice ag g.length cg,.int .i64 (tq+1),.int .u32 (m')])::H∧R'=R):=by
 refine Zc Tryz.func15 rfl Tryz.ntmps15 rfl ?_
 refine sqt 1 rfl (pur 1 rfl (sqt 9 rfl (pur 4 rfl (sp rfl (PE.sub rfl rfl (by omega)) rfl (sp rfl (PE.add rfl rfl (by omega)) rfl ?_)))))
 refine cl rfl Z1h rfl rfl (c_Below g ag cg bk hgl tq mx htq hmx (hi-lo+1) _ _) ?_
 rintro _ _ _ ⟨x,m',hx,rfl,hm',rfl,rfl⟩
 refine sp rfl (PE.add rfl rfl (by omega)) rfl (pur 1 rfl (Z4 ?_))
 exact rtA rfl rfl rfl ⟨lo+x,m',⟨by omega,by omega⟩,rfl,hm',rfl,rfl⟩ idH
theorem Zkp (g:List Int) (ag:Option Addr) (cg bk:Nat) (hgl:g.length≤9223372036854775807) (tq mx:Int) (htq:0≤tq∧tq≤1000000000) (hmx:0≤mx∧mx≤4294967295) (n:Int) (H:Z6) (R:Z5) [hG:MemRows ag 1 (urows g) R] :
    Fn Tryz.prog 30 [.pointer (some ⟨bk,0,none⟩),.int .i64 n] ((bk,cel 111 [.slice ag g.length cg,.int .i64 (tq),.int .u32 (mx)])::H) R (fun v H' R'=>∃ (x:Bool) (m':Int),v = .bool x∧(0≤m'∧m'≤4294967295)∧H'=(bk,cel 111 [.slice ag g.length cg,.int .i64 (tq+1),.int .u32 (m')])::H∧R'=R):=by
 refine Zc Tryz.func30 rfl Tryz.ntmps30 rfl ?_
 refine sqt 1 rfl (pur 1 rfl (sqt 5 rfl (pur 2 rfl ?_)))
 refine cl rfl Z1h rfl rfl (c_Below g ag cg bk hgl tq mx htq hmx n _ _) ?_
 rintro _ _ _ ⟨x,m',hx,rfl,hm',rfl,rfl⟩
 refine pur 2 rfl (Z4 ?_)
 exact rtA rfl rfl rfl ⟨_,m',rfl,hm',rfl,rfl⟩ idH
theorem Zgr {j k:Nat} (hk:k<3) (e:j=k):[Value.int .i64 3,.int .i64 2,.int .i64 1][j]?=some (.int .i64 ((3-k:Nat):Int)):=by
 subst e
 revert hk
 rcases j with _ | _ | _ | j<;>intro hk
 · rfl
 · rfl
 · rfl
 · omega
structure MxI (k:Nat) (l:List Int) (left:Int):Prop where
 len:l.length=4
 sum:Z3B l+left=40
 at_:∀ j<4,0≤nn l j∧nn l j≤40
 lo:0≤left∧left≤40
 zero:∀ j<4,j+k≤3→nn l j=0
theorem MxI.start:MxI 0 [0,0,0,0] 40:=⟨rfl,rfl,of4 ⟨by decide,by decide,by decide,by decide⟩,by omega,of4 ⟨fun _=>rfl,fun _=>rfl,fun _=>rfl,fun _=>rfl⟩⟩
theorem MxI.more {k:Nat} {l:List Int} {left v:Int} (h:MxI k l left) (hk:k<3) (hv:0≤v∧v≤left):MxI (k+1) (l.set (3-k) v) (left-v):=by
 have hlo:=h.lo
 have hz:=h.zero (3-k) (by omega) (by omega)
 have hs:=h.sum
 have hset:∀ j,nn (l.set (3-k) v) j=bif 3-k == j then v else nn l j:=fun j=>Z2W (by rw [h.len];omega)
 refine ⟨by simp [h.len],by rw [Z44 h.len (by omega)];omega,fun j hj=>?_,by omega,fun j hj hjk=>?_⟩
 · rw [hset]
   cases 3-k == j
   · exact h.at_ j hj
   · simp only [cond_true];omega
 · rw [hset,show (3-k == j)=false from by simp;omega]
   exact h.zero j hj (by omega)
theorem MxI.done {l:List Int} {left:Int} (h:MxI 3 l left):Mxt (l.set 0 left):=by
 have hlo:=h.lo
 have hz:=h.zero 0 (by omega) (by omega)
 have hs:=h.sum
 refine ⟨by simp [h.len],by rw [Z44 h.len (by omega)];omega,fun j hj=>?_⟩
 rw [Z2W (by rw [h.len];omega)]
 cases (0:Nat) == j
 · exact h.at_ j hj
 · simp only [cond_true];omega
theorem Zjk {m:Mix} (hm:Mxt m) {k:Nat} (hk:k<4):Mxt ((m.set 0 (nn m k)).set k (nn m 0)):=by
 obtain ⟨a,b,c,d,rfl⟩:=Z37 hm.len
 have hs:=hm.sum
 have h4:=Z7E hm.at_
 simp only [Z3B,nn,List.getD_cons_zero,List.getD_cons_succ] at hs h4
 rcases lt4 hk with rfl | rfl | rfl | rfl<;>refine ⟨rfl,?_,of4 ⟨?_,?_,?_,?_⟩⟩<;>simp [Z3B,nn]<;>omega
theorem Zie (g:List Int) (ag:Option Addr) (cg bk:Nat) (hgl:g.length≤9223372036854775807) (tq mx:Int) (htq:0≤tq∧tq≤1000000) (hmx:0≤mx∧mx≤4294967295) (H:Z6) (R:Z5) [hG:MemRows ag 1 (urows g) R] :
    Fn Tryz.prog 47 [.pointer (some ⟨bk,0,none⟩)] ((bk,cel 111 [.slice ag g.length cg,.int .i64 (tq),.int .u32 (mx)])::H) R (fun v H' R'=>∃ (q:Mix) (tq' mx':Int),Mxt q∧v = .agg (Ze q).toArray∧(tq≤tq'∧tq'≤tq+10)∧(0≤mx'∧mx'≤4294967295)∧H'=(bk,cel 111 [.slice ag g.length cg,.int .i64 (tq'),.int .u32 (mx')])::H∧R'=R):=by
 refine Zc Tryz.func47 rfl Tryz.ntmps47 rfl ?_
 refine sqt 1 rfl (alc rfl Zkb rfl (fun b2=>sqt 1 rfl (alc rfl Zkb rfl (fun b3=>sqt 1 rfl (pur 1 rfl (Z0 (sqt 3 rfl ?_)))))))
 refine bsl (out:=[_,_,_]) rfl Z1H zl3 rfl rfl rfl rfl rfl rfl (fun b8=>?_)
 refine sp rfl (PE.lenSl ZO rfl) rfl (pur 1 rfl (Z2 ?_))
 refine Zw bk ?_
 refine Zd (ι:={x:Nat×List Int×Int×Int×Int // x.1≤3∧MxI x.1 x.2.1 x.2.2.1∧x.2.2.2.1=tq+2*x.1∧(0≤x.2.2.2.2∧x.2.2.2.2≤4294967295)}) (fun x=>⟨[(0,.pointer (some ⟨bk,0,none⟩)),(2,.pointer (some ⟨b2,0,none⟩)),(3,.pointer (some ⟨b3,0,none⟩)),(4,.int .i64 x.1.2.2.1),(8,.slice (some ⟨b8,0,none⟩) 3 3),(9,.int .i64 3),(10,.int .i64 x.1.1)],(bk,cel 111 [.slice ag g.length cg,.int .i64 (x.1.2.2.2.1),.int .u32 (x.1.2.2.2.2)])::(b8,cel 3 [.int .i64 3,.int .i64 2,.int .i64 1])::(b3,cel 69 (Ze x.1.2.1))::(b2,cel 69 (Ze [0,0,0,0]))::H,R⟩) (fun x=>3-x.1.1) ⟨(0,[0,0,0,0],40,tq,mx),by omega,MxI.start,by dsimp only;omega,by assumption⟩ ?_ (fun x=>?_)
 exact Zf idH
 obtain ⟨⟨k,l,left,tq2,mx2⟩,hk,hmi,htq2,hmx2⟩:=x
 dsimp only at hk hmi htq2 hmx2 ⊢
 subst htq2
 have hlo:=hmi.lo
 have hml:=hmi.len
 refine sqt 1 rfl (pur 1 rfl (Z0 ?_))
 refine Z1 rfl ?_ ?_<;>intro hc0<;>try simp only [cS] at hc0
 have hk3:k<3:=by omega
 have hk4:3-k<4:=by omega
 refine Z3 (Z0 (Z2 (sqt 3 rfl (sp rfl (PE.indexAddr Z0D rfl rfl (by omega) (by omega)) rfl (spL rfl rfl (lh sc3 rfl (Zgr hk3 (by omega))) rfl (pur 1 rfl (sqt 10 rfl (pur 3 rfl ?_))))))))
 refine cl rfl Z1h rfl rfl (c_Below g ag cg bk hgl _ _ (by omega) (by assumption) (5) _ _) ?_
 rintro _ _ R1 ⟨x17,m17,hx17,rfl,hm17,rfl,hR1⟩
 obtain rfl:=hR1.symm
 refine pur 1 rfl ?_
 refine cl rfl Z1h rfl rfl (c_Below g ag cg bk hgl _ _ (by omega) (by assumption) (4) _ _) ?_
 rintro _ _ R1 ⟨x19,m19,hx19,rfl,hm19,rfl,hR1⟩
 obtain rfl:=hR1.symm
 have hm20:=mul_b (a:=x17) (b:=x19) (A:=4) (B:=3) (by omega) (by omega) (by omega) (by omega)
 obtain ⟨v,hv⟩:∃ v,v=min left (x17*x19):=⟨_,rfl⟩
 refine sp rfl (PE.mul rfl rfl (by omega)) rfl (sp rfl (PE.min rfl rfl) rfl ?_)
 rw [← hv]
 refine sp rfl (PE.indexArr Z4y rfl rfl (by omega) (by omega)) rfl ?_
 refine Zw b3 ?_
 refine Zy (l':=Ze ((l).set (3-k) (v))) rfl rfl rfl cn3 rfl rfl rfl (Z7g hml hk4 _) (by rw [ints_length,hml];show 0+(((3-k):Nat):Int).toNat*1+1≤4;omega) ?_
 refine sqr 6 rfl (pur 2 rfl (sp rfl (PE.indexArr Z4y rfl rfl (by omega) (by omega)) rfl (spL rfl rfl (lh sc3 rfl (mix_at (by simp [hml]) hk4)) rfl ?_)))
 rw [show nn (l.set (3-k) v) (3-k)=v from by rw [Z2W (by omega)];simp]
 refine sp rfl (PE.sub rfl rfl (by omega)) rfl (pur 1 rfl (sqr 2 rfl (sp rfl (PE.add rfl rfl (by omega)) rfl (pur 1 rfl ?_))))
 exact Zb ⟨(k+1,l.set (3-k) v,left-v,tq+2*k+1+1,m19),by omega,hmi.more hk3 (by omega),by dsimp only;omega,by assumption⟩ (fun _ h=>St.sub (((h.pull b3).pull b8).pull bk))
 obtain rfl:k=3:=by omega
 have hq:=hmi.done
 refine Z7 (Z8 (Z8 (Zi (sqt 3 rfl (pur 1 rfl (sp rfl (PE.indexArr Z4y rfl rfl (by omega) (by omega)) rfl ?_))))))
 refine Zw b3 ?_
 refine Zy (l':=Ze ((l).set 0 (left))) rfl rfl rfl cn3 rfl rfl rfl (Z7g hml (by decide) _) (by rw [ints_length,hml];show 0+((0:Nat):Int).toNat*1+1≤4;decide) ?_
 refine Z0 (sqt 2 rfl ?_)
 refine Zw bk ?_
 obtain ⟨q,hqe⟩:∃ q,q=l.set 0 left:=⟨_,rfl⟩
 rw [← hqe] at hq ⊢
 refine pur 1 rfl ?_
 refine cl rfl ZoN rfl rfl (Zkp g ag cg bk hgl _ _ (by omega) (by assumption) 4 _ _) ?_
 rintro _ _ R1 ⟨x32,m32,rfl,hm32,rfl,hR1⟩
 obtain rfl:=hR1.symm
 refine Z1 rfl ?_ ?_<;>intro hc1<;>try simp only [cS] at hc1
 refine sqt 4 rfl (pur 1 rfl ?_)
 refine cl rfl Z1h rfl rfl (c_Below g ag cg bk hgl _ _ (by omega) (by assumption) (3) _ _) ?_
 rintro _ _ R1 ⟨x34,m34,hx34,rfl,hm34,rfl,hR1⟩
 obtain rfl:=hR1.symm
 refine sp rfl (PE.add rfl rfl (by omega)) rfl (pur 1 rfl ?_)
 refine Za [0,0,2,6,0,16,62,126,255,511] (tks 0 3 (.ld 3 (.tk 4 (.ld 5 (.tk 6 (.big 7 (.tk 8 (.big 9 .done)))))))) Zl (by kernel_rfl) ?_
 obtain ⟨k,hk⟩:∃ k:Nat,1+x34=k:=⟨(1+x34).toNat,by omega⟩
 rw [hk]
 have hk4:k<4:=by omega
 have hq2:=Zjk hq hk4
 refine Zg 2 rfl (tk rfl (PE.indexArr Z4y rfl rfl (by omega) (by omega)) rfl (ld rfl rfl (lh sc3 rfl (mix_at hq.len hk4)) rfl (tk rfl (PE.indexArr Z4y rfl rfl (by omega) (by omega)) rfl (ld rfl rfl (lh sc3 rfl (mix_at hq.len (k:=0) (by omega))) rfl (tk rfl (PE.indexArr Z4y rfl rfl (by omega) (by omega)) rfl ?_)))))
 refine Zw b3 ?_
 refine Zy (l':=Ze ((q).set 0 (nn q k))) rfl rfl rfl cn3 rfl rfl rfl (Z7g hq.len (by decide) _) (by rw [ints_length,hq.len];show 0+((0:Nat):Int).toNat*1+1≤4;decide) ?_
 refine bgT (tk rfl (PE.indexArr Z4y rfl rfl (by omega) (by omega)) rfl ?_)
 refine Zy (l':=Ze ((q.set 0 (nn q k)).set k (nn q 0))) rfl rfl rfl cn3 rfl rfl rfl (Z7g (show (q.set 0 (nn q k)).length=4 by simp [hq.len]) hk4 _) (by rw [ints_length,(show (q.set 0 (nn q k)).length=4 by simp [hq.len])];show 0+((k:Nat):Int).toNat*1+1≤4;omega) ?_
 refine bgT (sqt 2 rfl ?_)
 obtain ⟨p,hpe,hp⟩:∃ p,p=q∧Mxt p:=⟨_,rfl,hq⟩
 first
   | (clear hpe hp p;obtain ⟨p,hpe⟩:∃ p,p=(q.set 0 (nn q k)).set k (nn q 0):=⟨_,rfl⟩;rw [← hpe] at hq2 ⊢;have hp:=hq2)
   | rw [← hpe]
 refine spL rfl rfl (lhA (Ze (p)) Z5I rfl (rest:=[]) (by rw [List.append_nil];rfl) (by rw [ints_length];exact hp.len)) rfl ?_
 refine Zw b2 ?_
 refine Z2V rfl rfl rfl Zk5 rfl (by rw [ints_length];exact hp.len) rfl (Zs _) ?_
 refine Z4 ?_
 first
   | exact Z9 (vs:=[_]) rfl (.cons (RV.cell rfl (lhA (Ze (p)) Z5I rfl (rest:=[]) (by rw [List.append_nil];rfl) (by rw [ints_length];exact hp.len))) .nil) rfl ⟨p,tq+2*(3:Nat)+1+1,m34,hp,rfl,by omega,hm34,rfl,rfl⟩ (fun w h=>St.sub (((h.del b2).del b3).del b8))
   | exact Z9 (vs:=[_]) rfl (.cons (RV.cell rfl (lhA (Ze (p)) Z5I rfl (rest:=[]) (by rw [List.append_nil];rfl) (by rw [ints_length];exact hp.len))) .nil) rfl ⟨p,tq+2*(3:Nat)+1,m32,hp,rfl,by omega,hm32,rfl,rfl⟩ (fun w h=>St.sub (((h.del b2).del b3).del b8))
 refine Z3 (sqt 2 rfl ?_)
 obtain ⟨p,hpe,hp⟩:∃ p,p=q∧Mxt p:=⟨_,rfl,hq⟩
 first
   | (clear hpe hp p;obtain ⟨p,hpe⟩:∃ p,p=(q.set 0 (nn q k)).set k (nn q 0):=⟨_,rfl⟩;rw [← hpe] at hq2 ⊢;have hp:=hq2)
   | rw [← hpe]
 refine spL rfl rfl (lhA (Ze (p)) Z5I rfl (rest:=[]) (by rw [List.append_nil];rfl) (by rw [ints_length];exact hp.len)) rfl ?_
 refine Zw b2 ?_
 refine Z2V rfl rfl rfl Zk5 rfl (by rw [ints_length];exact hp.len) rfl (Zs _) ?_
 refine Z4 ?_
 first
   | exact Z9 (vs:=[_]) rfl (.cons (RV.cell rfl (lhA (Ze (p)) Z5I rfl (rest:=[]) (by rw [List.append_nil];rfl) (by rw [ints_length];exact hp.len))) .nil) rfl ⟨p,tq+2*(3:Nat)+1+1,m34,hp,rfl,by omega,hm34,rfl,rfl⟩ (fun w h=>St.sub (((h.del b2).del b3).del b8))
   | exact Z9 (vs:=[_]) rfl (.cons (RV.cell rfl (lhA (Ze (p)) Z5I rfl (rest:=[]) (by rw [List.append_nil];rfl) (by rw [ints_length];exact hp.len))) .nil) rfl ⟨p,tq+2*(3:Nat)+1,m32,hp,rfl,by omega,hm32,rfl,rfl⟩ (fun w h=>St.sub (((h.del b2).del b3).del b8))
theorem Z62 {s:Int} {m:List Int} (hm:m.length=4) {k:Nat} (hk:k<4):(Value.int .i64 s::Ze m)[0+1+((k:Nat):Int).toNat*1]?=some (.int .i64 (nn m k)):=by
 obtain ⟨a,b,c,d,rfl⟩:=Z37 hm
 rcases lt4 hk with rfl | rfl | rfl | rfl<;>rfl
theorem Z7f {s:Int} {m:List Int} (hm:m.length=4) {k:Nat} (hk:k<4) (v:Int):spl (Value.int .i64 s::Ze m) (0+1+((k:Nat):Int).toNat*1) [.int .i64 v]=Value.int .i64 s::Ze (m.set k v):=by
 obtain ⟨a,b,c,d,rfl⟩:=Z37 hm
 rcases lt4 hk with rfl | rfl | rfl | rfl<;>rfl
theorem ZdF {m:List Int} (hm:m.length=4) {k:Nat} (hk:k<4):mkv false ((m.drop (k*1)).take 1) = .int .i64 (nn m k):=by
 obtain ⟨a,b,c,d,rfl⟩:=Z37 hm
 rcases lt4 hk with rfl | rfl | rfl | rfl<;>rfl
theorem ZnP {a:Int} (h:0≤a∧a≤1000000):IntKind.i64.wrap (a.tdiv 40)=a / 40:=by
 rw [Z9r (by omega) (by omega),Int.tdiv_eq_ediv_of_nonneg h.1]
theorem Z6T {s:Int} {m:List Int} (hm:m.length=4):(Value.int .i64 s::Ze m).length=5:=by rw [List.length_cons,ints_length,hm]
theorem c_Taken (l0:List Int) (ag:Option Addr) (cg bk:Nat) (hgl:l0.length≤9223372036854775807) (tq mx:Int) (htq:0≤tq∧tq≤1000000) (hmx:0≤mx∧mx≤4294967295) (g:Gat) (hmi:0≤g.miss∧g.miss≤20) (sl:Value) (m:Mix) (hm:Mxt m) (H:Z6) (R:Z5) [hG:MemRows ag 1 (urows l0) R] :
    Fn Tryz.prog 20 [.pointer (some ⟨bk,0,none⟩),g.v sl,.agg (Ze m).toArray] ((bk,cel 111 [.slice ag l0.length cg,.int .i64 (tq),.int .u32 (mx)])::H) R (fun v H' R'=>∃ (h:Hnd) (tq' mx':Int),h.ok∧Zb6 g.miss h m=true∧v = .agg (Z2d h).toArray∧(tq≤tq'∧tq'≤tq+20)∧(0≤mx'∧mx'≤4294967295)∧H'=(bk,cel 111 [.slice ag l0.length cg,.int .i64 (tq'),.int .u32 (mx')])::H∧R'=R):=by
 refine Zc Tryz.func20 rfl Tryz.ntmps20 rfl ?_
 refine sqt 3 rfl (bx rfl rfl rfl (fun b4=>bx rfl rfl rfl (fun b5=>alc rfl Zk0 rfl (fun b6=>sqt 3 rfl ?_))))
 refine Zw bk ?_
 refine pur 1 rfl ?_
 refine cl rfl Z6t rfl rfl (c_Among l0 ag cg bk hgl _ _ (by omega) (by assumption) (10) (200) (by first | omega | (dsimp only;omega)) _ _) ?_
 rintro _ _ R1 ⟨x18,m18,hx18,rfl,hm18,rfl,hR1⟩
 obtain rfl:=hR1.symm
 refine pur 1 rfl (Z0 (sqt 3 rfl (sp rfl (PE.fA Z80 rfl) rfl (spL rfl rfl (lh sc3 rfl rfl) rfl (pur 1 rfl ?_)))))
 refine Z5w (ι:={x:Int×Int×Int // (10≤x.1∧x.1≤200)∧(g.miss=0→∃ j:Int,x.1=40*j)∧(tq≤x.2.1∧x.2.1≤tq+2)∧(0≤x.2.2∧x.2.2≤4294967295)}) (fun x=>⟨[(0,.pointer (some ⟨bk,0,none⟩)),(4,.pointer (some ⟨b4,0,none⟩)),(5,.pointer (some ⟨b5,0,none⟩)),(6,.pointer (some ⟨b6,0,none⟩)),(7,.int .i64 x.1.1)],(bk,cel 111 [.slice ag l0.length cg,.int .i64 (x.1.2.1),.int .u32 (x.1.2.2)])::(b6,cel 79 (Z2d ⟨0,0,0,0,0⟩))::(b5,cel 69 (Ze m))::(b4,cel 65 (gtl g sl))::H,R⟩) ?_ ?_
 refine Z1 rfl ?_ ?_<;>intro hc0
 refine sqr 4 rfl (pur 1 rfl ?_)
 refine cl rfl Z6t rfl rfl (c_Among l0 ag cg bk hgl _ _ (by omega) (by assumption) (1) (5) (by first | omega | (dsimp only;omega)) _ _) ?_
 rintro _ _ R1 ⟨x23,m23,hx23,rfl,hm23,rfl,hR1⟩
 obtain rfl:=hR1.symm
 refine sp rfl (PE.mul rfl rfl (by omega)) rfl (pur 1 rfl ?_)
 exact Z1r ⟨(40*x23,tq+1+1,m23),by dsimp only;omega,fun _=>⟨x23,rfl⟩,by dsimp only;omega,by assumption⟩ idH
 refine Z3 ?_
 exact Z1r ⟨(x18,tq+1,m18),by dsimp only;omega,fun h=>absurd h (by simpa using hc0),by dsimp only;omega,by assumption⟩ idH
 rintro ⟨⟨n,tq2,mx2⟩,hn,hn0,htq2,hmx2⟩
 dsimp only at hn hn0 htq2 hmx2 ⊢
 have hng:0≤n∧n≤200:=by omega
 refine sqt 5 rfl (pur 1 rfl ?_)
 refine cl rfl Z1h rfl rfl (c_Below l0 ag cg bk hgl _ _ (by omega) (by assumption) (3) _ _) ?_
 rintro _ _ R1 ⟨x26,m26,hx26,rfl,hm26,rfl,hR1⟩
 obtain rfl:=hR1.symm
 refine sp rfl (PE.build (out:=Z2d ⟨x26,0,0,0,0⟩) Zre Zk0 rfl rfl) rfl (alc rfl Zk0 rfl (fun b8=>?_))
 refine sto rfl rfl rfl Zk6 rfl rfl rfl rfl ?_
 refine sqt 2 rfl (pur 2 rfl (Z0 (sqt 2 rfl (spL rfl rfl (lhA (Ze (m)) Z5I rfl (rest:=[]) (by rw [List.append_nil];rfl) (by rw [ints_length];exact hm.len)) rfl (pur 1 rfl (Z2 ?_))))))
 refine Zd (ι:={k:Nat // k≤4}) (fun k=>⟨[(0,.pointer (some ⟨bk,0,none⟩)),(4,.pointer (some ⟨b4,0,none⟩)),(5,.pointer (some ⟨b5,0,none⟩)),(6,.pointer (some ⟨b6,0,none⟩)),(7,.int .i64 n),(8,.pointer (some ⟨b8,0,none⟩)),(9,.int .i64 (Z45 n m k.1).2),(29,.agg (Ze m).toArray),(30,.int .i64 k.1)],(b8,cel 79 (.int .i64 x26::Ze (Z45 n m k.1).1))::(bk,cel 111 [.slice ag l0.length cg,.int .i64 (tq2+1),.int .u32 (m26)])::(b6,cel 79 (Z2d ⟨0,0,0,0,0⟩))::(b5,cel 69 (Ze m))::(b4,cel 65 (gtl g sl))::H,R⟩) (fun k=>4-k.1) ⟨0,by omega⟩ ?_ (fun k=>?_)
 exact Zf idH
 obtain ⟨k,hk⟩:=k
 dsimp only at hk ⊢
 obtain ⟨t1,t2,t3,t4,t5,t6⟩:=Z9q hm hng k hk
 refine sqt 1 rfl (pur 1 rfl (Z0 ?_))
 refine Z1 rfl ?_ ?_<;>intro hc1<;>try simp only [cS] at hc1
 have hk4:k<4:=by omega
 have hbd:=Z1W hm hng hk4
 have hg0:g0 n m k=n*nn m k / 40:=rfl
 refine Z3 (Z0 (Z2 (sqt 4 rfl (pur 1 rfl ?_))))
 refine sp rfl ((PE.indexI (l:=m) Zkk (Z17 10000 3 false 1 Z2h) (fun _=>rfl) rfl rfl hk4 (by rw [hm.len];omega)).to (by rw [ZdF hm.len hk4])) rfl ?_
 refine pur 2 rfl (sqt 8 rfl (pur 3 rfl (sp rfl (PE.mul rfl rfl (by omega)) rfl ?_)))
 refine sp rfl ((PE.quoW rfl rfl (by omega)).to (by rw [ZnP (by omega),← hg0])) rfl ?_
 refine sp rfl (PE.fA Z1B rfl) rfl (sp rfl (PE.indexArr Z4y rfl rfl (by omega) (by omega)) rfl ?_)
 refine Zy (l':=.int .i64 x26::Ze (((Z45 n m k).1).set k (g0 n m k))) rfl rfl rfl cn3 rfl rfl rfl (Z7f t1 hk4 _) (by rw [Z6T t1];show 0+1+((k:Nat):Int).toNat*1+1≤5;omega) ?_
 refine sqr 7 rfl (pur 2 rfl (sp rfl (PE.fA Z1B rfl) rfl (sp rfl (PE.indexArr Z4y rfl rfl (by omega) (by omega)) rfl (spL rfl rfl (lh sc3 rfl (Z62 (by simp [t1]) hk4)) rfl ?_))))
 rw [show nn ((Z45 n m k).1.set k (g0 n m k)) k=g0 n m k from by rw [Z2W (by omega)];simp]
 refine sp rfl (PE.sub rfl rfl (by omega)) rfl (pur 1 rfl (sqr 2 rfl (sp rfl (PE.add rfl rfl (by omega)) rfl (pur 1 rfl ?_))))
 exact Zb ⟨k+1,by omega⟩ idH
 obtain rfl:k=4:=by omega
 refine Z7 (Z8 (Z8 (Zi (Z0 (sqt 2 rfl (spL rfl rfl (lhA (Ze (m)) Z5I rfl (rest:=[]) (by rw [List.append_nil];rfl) (by rw [ints_length];exact hm.len)) rfl (pur 1 rfl (Z2 ?_))))))))
 refine Zd (ι:={k:Nat // k≤4}) (fun k=>⟨[(0,.pointer (some ⟨bk,0,none⟩)),(4,.pointer (some ⟨b4,0,none⟩)),(5,.pointer (some ⟨b5,0,none⟩)),(6,.pointer (some ⟨b6,0,none⟩)),(7,.int .i64 n),(8,.pointer (some ⟨b8,0,none⟩)),(9,.int .i64 (Z1w n m k.1).2),(48,.agg (Ze m).toArray),(49,.int .i64 k.1)],(b8,cel 79 (.int .i64 x26::Ze (Z1w n m k.1).1))::(bk,cel 111 [.slice ag l0.length cg,.int .i64 (tq2+1),.int .u32 (m26)])::(b6,cel 79 (Z2d ⟨0,0,0,0,0⟩))::(b5,cel 69 (Ze m))::(b4,cel 65 (gtl g sl))::H,R⟩) (fun k=>4-k.1) ⟨0,by omega⟩ ?_ (fun k=>?_)
 exact Zf idH
 obtain ⟨k,hk⟩:=k
 dsimp only at hk ⊢
 have hti:=Z9p hm hng k hk
 have t1:=hti.len
 have t2:=hti.lo
 have t3:=hti.sum
 have t4:(Z1w n m k).2≤200:=by
   obtain ⟨p0,p1,p2,p3⟩:=Z7E hti.at_
   obtain ⟨q0,q1,q2,q3⟩:=Z7E (fun k hk=>Z1W hm hng (k:=k) hk)
   have t3:=t3
   unfold Z3B at t3
   simp only [g0] at p0 p1 p2 p3
   omega
 refine sqt 1 rfl (pur 1 rfl (Z0 ?_))
 refine Z1 rfl ?_ ?_<;>intro hc2<;>try simp only [cS] at hc2
 have hk4:k<4:=by omega
 have hbd:=Z1W hm hng hk4
 have hat:=hti.at_ k hk4
 have hg0:g0 n m k=n*nn m k / 40:=rfl
 refine Z3 (Z0 (Z2 (sqt 4 rfl (pur 1 rfl ?_))))
 refine sp rfl ((PE.indexI (l:=m) Zkk (Z17 10000 3 false 1 Z2h) (fun _=>rfl) rfl rfl hk4 (by rw [hm.len];omega)).to (by rw [ZdF hm.len hk4])) rfl ?_
 refine pur 2 rfl (sqt 9 rfl (pur 3 rfl ?_))
 refine Zq 55 rfl ?_ ?_<;>intro g55
 refine pur 2 rfl ?_
 refine spG rfl rfl rfl rfl (PE.mul rfl rfl (by omega)) rfl ?_
 refine spG rfl rfl rfl rfl (PE.rem rfl rfl (by omega)) rfl ?_
 refine pur 2 rfl ?_
 refine Z1 rfl ?_ ?_<;>intro hc3
 have hst:Z1w n m (k+1)=((Z1w n m k).1.set k (nn (Z1w n m k).1 k+1),(Z1w n m k).2-1):=by
   show (bif ZaN n m (Z1w n m k) k then _ else _)=_
   rw [show ZaN n m (Z1w n m k) k=true from by simp_all [ZaN]];rfl
 refine sqt 8 rfl (pur 1 rfl (sp rfl (PE.fA Z1B rfl) rfl (sp rfl (PE.indexArr Z4y rfl rfl (by omega) (by omega)) rfl (spL rfl rfl (lh sc3 rfl (Z62 t1 hk4)) rfl (sp rfl (PE.add rfl rfl (by omega)) rfl (sp rfl (PE.fA Z1B rfl) rfl (sp rfl (PE.indexArr Z4y rfl rfl (by omega) (by omega)) rfl ?_)))))))
 refine Zy (l':=.int .i64 x26::Ze (((Z1w n m k).1).set k (nn (Z1w n m k).1 k+1))) rfl rfl rfl cn3 rfl rfl rfl (Z7f t1 hk4 _) (by rw [Z6T t1];show 0+1+((k:Nat):Int).toNat*1+1≤5;omega) ?_
 refine sqr 3 rfl (pur 1 rfl (sp rfl (PE.sub rfl rfl (by omega)) rfl (pur 1 rfl (sqr 2 rfl (sp rfl (PE.add rfl rfl (by omega)) rfl (pur 1 rfl ?_))))))
 exact Zv ⟨k+1,by omega⟩ (by dsimp only;omega) (by dsimp only;rw [hst];exact sbA) (fun w h=>by dsimp only;rw [hst];exact h)
 have hst:Z1w n m (k+1)=Z1w n m k:=by
   show (bif ZaN n m (Z1w n m k) k then _ else _)=_
   rw [show ZaN n m (Z1w n m k) k=false from by simp_all [ZaN]];rfl
 refine Z3 (sqr 2 rfl (sp rfl (PE.add rfl rfl (by omega)) rfl (pur 1 rfl ?_)))
 exact Zv ⟨k+1,by omega⟩ (by dsimp only;omega) (by dsimp only;rw [hst];exact sbA) (fun w h=>by dsimp only;rw [hst];exact h)
 have hst:Z1w n m (k+1)=Z1w n m k:=by
   show (bif ZaN n m (Z1w n m k) k then _ else _)=_
   have h55:decide (0<(Z1w n m k).2)=false:=by simpa using g55
   rw [show ZaN n m (Z1w n m k) k=false from by unfold ZaN;rw [h55];rfl];rfl
 refine pur 6 rfl ?_
 refine Zt rfl ?_
 refine Z3 (sqr 2 rfl (sp rfl (PE.add rfl rfl (by omega)) rfl (pur 1 rfl ?_)))
 exact Zv ⟨k+1,by omega⟩ (by dsimp only;omega) (by dsimp only;rw [hst];exact sbA) (fun w h=>by dsimp only;rw [hst];exact h)
 obtain rfl:k=4:=by omega
 obtain ⟨e1,e2,e3⟩:=Zew hm hng
 refine Z7 (Z8 (Z8 (Zi (sqt 6 rfl ?_))))
 refine Zw bk ?_
 obtain ⟨l,hl⟩:∃ l,l=(Z1w n m 4).1:=⟨_,rfl⟩
 rw [← hl]
 rw [← hl] at e1 e2 e3
 refine pur 1 rfl ?_
 refine cl rfl Z1h rfl rfl (c_Below l0 ag cg bk hgl _ _ (by omega) (by assumption) (4) _ _) ?_
 rintro _ _ R1 ⟨x73,m73,hx73,rfl,hm73,rfl,hR1⟩
 obtain rfl:=hR1.symm
 refine pur 1 rfl ?_
 refine cl rfl Z1h rfl rfl (c_Below l0 ag cg bk hgl _ _ (by omega) (by assumption) (4) _ _) ?_
 rintro _ _ R1 ⟨x75,m75,hx75,rfl,hm75,rfl,hR1⟩
 obtain rfl:=hR1.symm
 refine pur 2 rfl (Z0 (Z0 ?_))
 refine Za [0,0,2,7,0,0,48,112,255,511] (.tk 0 (.tk 1 (.ld 2 (tks 4 3 (.ld 7 (.big 3 (.tk 8 (.tk 9 .done)))))))) Zl (by kernel_rfl) ?_
 obtain ⟨a,ha⟩:∃ a:Nat,x73=a:=⟨x73.toNat,by omega⟩
 obtain ⟨b,hb⟩:∃ b:Nat,x75=b:=⟨x75.toNat,by omega⟩
 rw [ha,hb]
 have ha4:a<4:=by omega
 have hb4:b<4:=by omega
 have hea:=e3 a ha4
 have heb:=e3 b hb4
 have hga:g0 n m a=n*nn m a / 40:=rfl
 have hgb:g0 n m b=n*nn m b / 40:=rfl
 have hba:=Z1W hm hng ha4
 have hbb:=Z1W hm hng hb4
 refine Zg 1 rfl (tk rfl (PE.fA Z80 rfl) rfl (ld rfl rfl (lh sc3 rfl rfl) rfl (Zg 1 rfl (tk rfl (PE.fA Z1B rfl) rfl (tk rfl (PE.indexArr Z4y rfl rfl (by omega) (by omega)) rfl (ld rfl rfl (lh sc3 rfl (Z62 e1 ha4)) rfl ?_))))))
 refine cl rfl Z1h rfl rfl (c_Below l0 ag cg bk hgl _ _ (by omega) (by assumption) (g.miss) _ _) ?_
 rintro _ _ R1 ⟨x79,m79,hx79,rfl,hm79,rfl,hR1⟩
 obtain rfl:=hR1.symm
 refine bg (fun w hs=>⟨(lh sc3 rfl (Z62 e1 ha4)) w hs,trivial,trivial⟩) ?_
 refine tk rfl (PE.min rfl rfl) rfl (Zg 1 rfl (sqt 3 rfl ?_))
 obtain ⟨t,ht⟩:∃ t,t=min x79 (nn l a):=⟨_,rfl⟩
 rw [← ht]
 obtain ⟨k1,k2,k3⟩:=ZhG e1 ha4 hb4 t
 refine pur 3 rfl ?_
 refine Z1 rfl ?_ ?_<;>intro hc4
 have hab:a≠b:=by intro h;subst h;simp at hc4
 have htk:tkM l a b t=(l.set a (nn l a-t)).set b (nn l b+t):=by unfold tkM;rw [show (a == b)=false by simpa using hab];rfl
 refine Za [0,0,0,0,12,28,0,124,0,0,768,1792,0,7936,0,20477,53245,0,262143,524287] (tks 0 5 (.ld 5 (tks 6 5 (.ld 11 (tks 12 4 (.tk 17 (.big 16 (.tk 18 (.big 19 .done))))))))) Zl (by kernel_rfl) ?_
 refine Zg 3 rfl (tk rfl (PE.fA Z1B rfl) rfl (tk rfl (PE.indexArr Z4y rfl rfl (by omega) (by omega)) rfl (ld rfl rfl (lh sc3 rfl (Z62 e1 ha4)) rfl (Zg 1 rfl (tk rfl (PE.sub rfl rfl (by omega)) rfl (Zg 1 rfl (tk rfl (PE.fA Z1B rfl) rfl (tk rfl (PE.indexArr Z4y rfl rfl (by omega) (by omega)) rfl (ld rfl rfl (lh sc3 rfl (Z62 e1 hb4)) rfl (Zg 1 rfl (tk rfl (PE.add rfl rfl (by omega)) rfl ?_)))))))))))
 refine Zw b8 ?_
 refine tk rfl (PE.fA Z1B rfl) rfl (tk rfl (PE.indexArr Z4y rfl rfl (by omega) (by omega)) rfl (tk rfl (PE.fA Z1B rfl) rfl ?_))
 refine Zy (l':=.int .i64 x26::Ze ((l).set a (nn l a-t))) rfl rfl rfl cn3 rfl rfl rfl (Z7f e1 ha4 _) (by rw [Z6T e1];show 0+1+((a:Nat):Int).toNat*1+1≤5;omega) ?_
 refine bgT (tk rfl (PE.indexArr Z4y rfl rfl (by omega) (by omega)) rfl ?_)
 refine Zy (l':=.int .i64 x26::Ze ((l.set a (nn l a-t)).set b (nn l b+t))) rfl rfl rfl cn3 rfl rfl rfl (Z7f (show (l.set a (nn l a-t)).length=4 by simp [e1]) hb4 _) (by rw [Z6T (show (l.set a (nn l a-t)).length=4 by simp [e1])];show 0+1+((b:Nat):Int).toNat*1+1≤5;omega) ?_
 refine bgT (sqt 2 rfl ?_)
 rw [← htk]
 obtain ⟨x0,x1,x2,x3,hx⟩:=Z37 k1
 obtain ⟨hok,hfit⟩:=Zex (spot:=x26) hm hn (by omega) hmi.1 hn0 ha4 hb4 (t:=t) (by rw [← hl];omega) (by rw [← hl];exact hx)
 rw [hx]
 refine spL rfl rfl (lhA (Z2d ⟨x26,x0,x1,x2,x3⟩) ZeO rfl rfl rfl) rfl ?_
 refine Zw b6 ?_
 refine Z2V rfl rfl rfl Zk6 rfl rfl rfl rfl ?_
 refine Z4 ?_
 exact Z9 (vs:=[_]) rfl (.cons (RV.cell rfl (lhA (Z2d ⟨x26,x0,x1,x2,x3⟩) ZeO rfl rfl rfl)) .nil) rfl ⟨⟨x26,x0,x1,x2,x3⟩,tq2+1+1+1+1,m79,hok,hfit,rfl,by omega,by assumption,rfl,rfl⟩ (fun w h=>St.sub ((((h.del b6).del b8).del b5).del b4))
 have hab:a=b:=by simp at hc4;omega
 have htk:tkM l a b t=l:=by unfold tkM;rw [show (a == b)=true by simpa using hab];rfl
 refine Z3 (sqt 2 rfl ?_)
 rw [← htk]
 obtain ⟨x0,x1,x2,x3,hx⟩:=Z37 k1
 obtain ⟨hok,hfit⟩:=Zex (spot:=x26) hm hn (by omega) hmi.1 hn0 ha4 hb4 (t:=t) (by rw [← hl];omega) (by rw [← hl];exact hx)
 rw [hx]
 refine spL rfl rfl (lhA (Z2d ⟨x26,x0,x1,x2,x3⟩) ZeO rfl rfl rfl) rfl ?_
 refine Zw b6 ?_
 refine Z2V rfl rfl rfl Zk6 rfl rfl rfl rfl ?_
 refine Z4 ?_
 exact Z9 (vs:=[_]) rfl (.cons (RV.cell rfl (lhA (Z2d ⟨x26,x0,x1,x2,x3⟩) ZeO rfl rfl rfl)) .nil) rfl ⟨⟨x26,x0,x1,x2,x3⟩,tq2+1+1+1+1,m79,hok,hfit,rfl,by omega,by assumption,rfl,rfl⟩ (fun w h=>St.sub ((((h.del b6).del b8).del b5).del b4))
theorem ZqN:apT Tryz.prog 63=some (149,5,40):=by kernel_rfl
theorem Zov:apT Tryz.prog 66=some (79,5,40):=by kernel_rfl
theorem Zcs:cal Tryz.prog 20=true:=by kernel_rfl
theorem ZoX:cal Tryz.prog 47=true:=by kernel_rfl
theorem Zr0:Zz Tryz.prog 63=some 1:=by kernel_rfl
theorem Zoa:Zz Tryz.prog 65=some 3:=by kernel_rfl
theorem Zr1:Zz Tryz.prog 66=some 1:=by kernel_rfl
theorem Z7L:Zz Tryz.prog 68=some 3:=by kernel_rfl
theorem Zpz:ZD Tryz.prog 149=some [(0,1),(1,1),(2,1),(3,1),(4,1)]:=by kernel_rfl
theorem Zrd:ZD Tryz.prog 65=some [(0,1),(1,1),(2,1)]:=by kernel_rfl
theorem Zjv:ZD Tryz.prog 68=some [(0,1),(1,1),(2,1)]:=by kernel_rfl
theorem Zrl:slE Tryz.prog 63=some (149,5):=by kernel_rfl
theorem ZpX:slE Tryz.prog 66=some (79,5):=by kernel_rfl
theorem Zo1:Zp Tryz.prog 149=some ([.int .i64 0,.int .i64 0,.int .i64 0,.int .i64 0,.int .i64 0]):=by kernel_rfl
theorem Zo7:Zp Tryz.prog 65=some ([.int .i64 0,.int .i64 0,.slice none 0 0]):=by kernel_rfl
theorem Z7B:Zp Tryz.prog 68=some ([.int .i64 0,.int .i64 0,.slice none 0 0]):=by kernel_rfl
theorem Zb8 {l:List Grd} {x:Grd} (h:∀ i,Z1C l i=false) (hx:∀ q∈l,x.price≤q.price):∀ i,Z1C (l++[x]) i=false:=fun i=>by
 rcases Nat.lt_trichotomy (i+1) l.length with h1 | h1 | h1
 · have:=h i
   unfold Z1C at this ⊢
   rw [List.getElem?_append_left (by omega),List.getElem?_append_left (by omega)];exact this
 · obtain ⟨q,hq⟩:∃ q,l[i]?=some q:=⟨_,List.getElem?_eq_getElem (by omega)⟩
   have h2:=hx q (List.mem_of_getElem? hq)
   unfold Z1C
   rw [List.getElem?_append_left (by omega),hq,List.getElem?_append_right (by omega),show i+1-l.length=0 from by omega]
   simp only [List.getElem?_cons_zero]
   rw [decide_eq_false (by omega)]
 · unfold Z1C
   rw [List.getElem?_eq_none (l:=l++[x]) (i:=i+1) (by simp;omega)]
   split<;>simp_all
structure GrI (l:List Grd) (k:Nat) (pr:Int):Prop where
 len:l.length=k
 bd:0≤pr∧pr≤100
 q:∀ q∈l,(pr≤q.price∧q.price≤100)∧∀ k<4,0≤nn q.ns k∧nn q.ns k≤40
 bad:∀ i,Z1C l i=false
theorem GrI.more {l:List Grd} {k:Nat} {pr a b c d x:Int} (h:GrI l k pr) (ha:0≤a∧a≤40) (hb:0≤b∧b≤40) (hc:0≤c∧c≤40) (hd:0≤d∧d≤40) (hx:0≤x∧x≤pr):GrI (l++[⟨a,b,c,d,pr⟩]) (k+1) (pr-x):=by
 have hp:=h.bd
 refine ⟨by simp [h.len],by omega,fun q hq=>?_,Zb8 h.bad (fun q hq=>(h.q q hq).1.1)⟩
 rcases List.mem_append.1 hq with hq | hq
 · have:=h.q q hq;exact ⟨by omega,this.2⟩
 · simp only [List.mem_singleton] at hq;subst hq;exact ⟨by simp only;omega,of4 ⟨ha,hb,hc,hd⟩⟩
structure MdOk (ng nh:Int) (g:Gat) (c:Crt) (m:Mix):Prop where
 gok:g.ok
 cok:c.ok
 mix:Mxt m
 err:g.err≤8
 miss:g.miss≤6
 fit:∀ h∈c.hs,Zb6 g.miss h m=true
 many:g.grs.length≤ng
 more:c.hs.length≤nh
 net:0≤c.full-c.empty∧c.full-c.empty<2000
theorem Zid (l0:List Int) (a0:Option Addr) (c0 bk:Nat) (hgl:l0.length≤9223372036854775807) (tq mx:Int) (htq:0≤tq∧tq≤1000) (hmx:0≤mx∧mx≤4294967295) (ng nh:Int) (hng:0≤ng∧ng≤4) (hnh:0≤nh∧nh≤6) (H:Z6) (R:Z5) [hG:MemRows a0 1 (urows l0) R] :
    Fn Tryz.prog 16 [.pointer (some ⟨bk,0,none⟩),.int .i64 ng,.int .i64 nh] ((bk,cel 111 [.slice a0 l0.length c0,.int .i64 (tq),.int .u32 (mx)])::H) R (fun v H' R'=>∃ (g:Gat) (c:Crt) (m:Mix) (ag:Option Addr) (cg:Nat) (tq' mx':Int) (o:OSl 79 5 (hrows c.hs)),MdOk ng nh g c m∧g.grs.length≤cg∧v = .tuple #[g.v (g.sl ag cg),c.v o.fs,.agg (Ze m).toArray]∧(tq≤tq'∧tq'≤tq+200)∧(0≤mx'∧mx'≤4294967295)∧H'=(bk,cel 111 [.slice a0 l0.length c0,.int .i64 (tq'),.int .u32 (mx')])::(o.G++H)∧R'=RowsA ag 5 (grows g.grs)::R):=by
 refine Zc Tryz.func16 rfl Tryz.ntmps16 rfl ?_
 refine sqt 3 rfl (alc rfl Zo7 rfl (fun b6=>alc rfl Z7B rfl (fun b7=>alc rfl Zkb rfl (fun b8=>sqt 7 rfl ?_))))
 refine Zw bk ?_
 refine pur 1 rfl ?_
 refine cl rfl Z1h rfl rfl (c_Below l0 a0 c0 bk hgl _ _ (by omega) (by assumption) (9) _ _) ?_
 rintro _ _ R1 ⟨x15,m15,hx15,rfl,hm15,rfl,hR1⟩
 obtain rfl:=hR1.symm
 refine pur 1 rfl ?_
 refine cl rfl Z1h rfl rfl (c_Below l0 a0 c0 bk hgl _ _ (by omega) (by assumption) (7) _ _) ?_
 rintro _ _ R1 ⟨x17,m17,hx17,rfl,hm17,rfl,hR1⟩
 obtain rfl:=hR1.symm
 refine sp rfl (PE.build (out:=gtl ⟨x15,x17,[]⟩ (.slice none 0 0)) Zrd Zo7 rfl rfl) rfl (alc rfl Zo7 rfl (fun b9=>?_))
 refine sto rfl rfl rfl Zoa rfl rfl rfl rfl ?_
 refine sqt 3 rfl ?_
 refine Zw bk ?_
 refine pur 1 rfl ?_
 refine cl rfl Z6t rfl rfl (c_Among l0 a0 c0 bk hgl _ _ (by omega) (by assumption) (1) (100) (by first | omega | (dsimp only;omega)) _ _) ?_
 rintro _ _ R1 ⟨x20,m20,hx20,rfl,hm20,rfl,hR1⟩
 obtain rfl:=hR1.symm
 refine pur 1 rfl (Z0 (sqt 5 rfl (pur 2 rfl (sp rfl (PE.add rfl rfl (by omega)) rfl ?_))))
 refine cl rfl Z1h rfl rfl (c_Below l0 a0 c0 bk hgl _ _ (by omega) (by assumption) (ng+1) _ _) ?_
 rintro _ _ R1 ⟨x24,m24,hx24,rfl,hm24,rfl,hR1⟩
 obtain rfl:=hR1.symm
 refine pur 1 rfl (Z2 ?_)
 obtain ⟨n24,rfl⟩:∃ n:Nat,x24=n:=⟨x24.toNat,by omega⟩
 refine Zd (ι:=(x:{x:Nat×Int×List Grd×Int×Int // x.1≤n24∧GrI x.2.2.1 x.1 x.2.1∧(tq≤x.2.2.2.1∧x.2.2.2.1≤tq+10+5*x.1)∧(0≤x.2.2.2.2∧x.2.2.2.2≤4294967295)})×OSl 149 5 (grows x.1.2.2.1)) (fun x=>⟨[(0,.pointer (some ⟨bk,0,none⟩)),(6,.pointer (some ⟨b6,0,none⟩)),(7,.pointer (some ⟨b7,0,none⟩)),(8,.pointer (some ⟨b8,0,none⟩)),(9,.pointer (some ⟨b9,0,none⟩)),(2,.int .i64 nh),(10,.int .i64 x.1.1.2.1),(24,.int .i64 n24),(25,.int .i64 x.1.1.1)],
   (bk,cel 111 [.slice a0 l0.length c0,.int .i64 (x.1.1.2.2.2.1),.int .u32 (x.1.1.2.2.2.2)])::(x.2.G++(b9,cel 65 (gtl ⟨x15,x17,x.1.1.2.2.1⟩ x.2.fs))::(b8,cel 69 (Ze [0,0,0,0]))::(b7,cel 68 [.int .i64 0,.int .i64 0,.slice none 0 0])::(b6,cel 65 [.int .i64 0,.int .i64 0,.slice none 0 0])::H),R⟩) (fun x=>n24-x.1.1.1) ⟨⟨(0,x20,[],tq+1+1+1+1,m24),by omega,⟨rfl,by dsimp only;omega,by simp,fun i=>by simp [Z1C]⟩,by dsimp only;omega,by assumption⟩,OSl.nil _ _⟩ ?_ (fun x=>?_)
 exact Zf idH
 obtain ⟨⟨⟨k,pr,l,tq2,mx2⟩,hk,hri,htq2,hmx2⟩,o'⟩:=x
 dsimp only at hk hri htq2 hmx2 o' ⊢
 have h2:=hri.bd
 have h3:=hri.len
 refine sqt 1 rfl (pur 1 rfl (Z0 ?_))
 refine Z1 rfl ?_ ?_<;>intro hc0<;>try simp only [cS] at hc0
 refine Z3 (Z0 (Z2 (Z0 ?_)))
 refine Za [0,1,0,4,0,28,0,124,0,508,0,2044,4092,8191,16383,32767] (.tk 0 (.ld 1 (.tk 2 (.tk 4 (.tk 6 (.tk 8 (.tk 10 (.big 3 (.big 5 (.big 7 (.big 9 (.tk 11 (.big 12 (.big 13 (.tk 14 (.big 15 .done)))))))))))))))) Zl (by kernel_rfl) ?_
 refine tk rfl (PE.fA Z81 rfl) rfl (ld rfl rfl (lh Zgo rfl rfl) rfl (Zg 5 rfl ?_))
 refine cl rfl Z6t rfl rfl (c_Among l0 a0 c0 bk hgl _ _ (by omega) (by assumption) (10) (38) (by first | omega | (dsimp only;omega)) _ _) ?_
 rintro _ _ R1 ⟨x30,m30,hx30,rfl,hm30,rfl,hR1⟩
 obtain rfl:=hR1.symm
 refine bg (fun w hs=>⟨(lh Zgo rfl rfl) w hs,trivial⟩) ?_
 refine cl rfl Z6t rfl rfl (c_Among l0 a0 c0 bk hgl _ _ (by omega) (by assumption) (1) (14) (by first | omega | (dsimp only;omega)) _ _) ?_
 rintro _ _ R1 ⟨x32,m32,hx32,rfl,hm32,rfl,hR1⟩
 obtain rfl:=hR1.symm
 refine bg (fun w hs=>⟨(lh Zgo rfl rfl) w hs,trivial⟩) ?_
 refine cl rfl Z1h rfl rfl (c_Below l0 a0 c0 bk hgl _ _ (by omega) (by assumption) (9) _ _) ?_
 rintro _ _ R1 ⟨x34,m34,hx34,rfl,hm34,rfl,hR1⟩
 obtain rfl:=hR1.symm
 refine bg (fun w hs=>⟨(lh Zgo rfl rfl) w hs,trivial⟩) ?_
 refine cl rfl Z6t rfl rfl (c_Among l0 a0 c0 bk hgl _ _ (by omega) (by assumption) (1) (14) (by first | omega | (dsimp only;omega)) _ _) ?_
 rintro _ _ R1 ⟨x36,m36,hx36,rfl,hm36,rfl,hR1⟩
 obtain rfl:=hR1.symm
 refine bg (fun w hs=>⟨(lh Zgo rfl rfl) w hs,trivial⟩) ?_
 refine tk rfl (PE.build (out:=grow ⟨x30,x32,x34,x36,pr⟩) Zpz Zo1 rfl rfl) rfl ?_
 refine bsl (out:=[_,_,_,_,_]) rfl Zrl Zo1 rfl rfl rfl rfl rfl rfl (fun b39=>?_)
 refine bg (fun w hs=>⟨(lh Zgo rfl rfl) w hs,trivial⟩) ?_
 refine apO (o') rfl ZqN rfl rfl (Z0y (row:=grow ⟨x30,x32,x34,x36,pr⟩) rfl) rfl rfl ((by simp only [grows,List.length_map,List.length_singleton];omega)) rfl (fun o40=>?_)
 refine bgT (tk rfl (PE.fA Z81 rfl) rfl ?_)
 refine Zy (l':=gtl ⟨x15,x17,l++[⟨x30,x32,x34,x36,pr⟩]⟩ o40.fs) rfl rfl rfl Zr0 rfl (by rw [o40.cells.1];first | done | rfl) (by rw [o40.cells.1];simp [o40.cells.2]) (by rw [o40.cells.1];first | done | rfl) (by rw [o40.cells.1];first | done | exact Nat.le_refl _) ?_
 refine bgT (sqr 7 rfl ?_)
 refine Zw bk ?_
 refine pur 3 rfl (sp rfl (PE.add rfl rfl (by omega)) rfl ?_)
 refine cl rfl Z1h rfl rfl (c_Below l0 a0 c0 bk hgl _ _ (by omega) (by assumption) (pr+1) _ _) ?_
 rintro _ _ R1 ⟨x46,m46,hx46,rfl,hm46,rfl,hR1⟩
 obtain rfl:=hR1.symm
 refine sp rfl (PE.sub rfl rfl (by omega)) rfl (pur 1 rfl (sqr 2 rfl (sp rfl (PE.add rfl rfl (by omega)) rfl (pur 1 rfl ?_))))
 exact Zb ⟨⟨(k+1,pr-x46,l++[⟨x30,x32,x34,x36,pr⟩],tq2+1+1+1+1+1,m46),by omega,hri.more (x:=x46) (by omega) (by omega) (by omega) (by omega) (by omega),by dsimp only;omega,by assumption⟩,o40.cast (by simp [grows])⟩ (fun w h=>(h.del b39).perm (by first | exact .refl _ | exact List.Perm.cons _ (.refl _)))
 obtain rfl:k=n24:=by omega
 obtain ⟨ag,cg,he,hcg,hf⟩:=o'.freezeC
 rw [he]
 refine Zw bk ?_
 refine Sy.heap (H':=_) (fun w h=>hf (h.perm (List.perm_middle (l₁:=o'.G) (a:=_)).symm)) ?_
 rw [show (grows l).length=l.length from List.length_map _]
 rw [show (grows l).length=l.length from List.length_map _] at hcg
 have hgo:Gat.ok ⟨x15,x17,l⟩:=⟨by simp only;omega,by simp only;omega,by simp only;omega,fun q hq=>by have:=hri.q q hq;exact ⟨by omega,this.2⟩,hri.bad⟩
 clear he hf
 refine Z7 (Z8 (Z8 (Zi (sqt 4 rfl (pur 1 rfl ?_)))))
 refine cl rfl ZoX rfl rfl (Zie l0 a0 c0 bk hgl _ _ (by omega) (by assumption) _ _) ?_
 rintro _ _ R1 ⟨q,tq5,mx5,hq,rfl,htq5,hmx5,rfl,hR1⟩
 obtain rfl:=hR1.symm
 refine alc rfl Zkb rfl (fun b11=>?_)
 refine Z2V rfl rfl rfl Zk5 rfl (by rw [ints_length];exact hq.len) rfl (Zs _) ?_
 refine sqt 3 rfl ?_
 refine Zw bk ?_
 refine pur 1 rfl ?_
 refine cl rfl Z1h rfl rfl (c_Below l0 a0 c0 bk hgl _ _ (by omega) (by assumption) (900) _ _) ?_
 rintro _ _ R1 ⟨x52,m52,hx52,rfl,hm52,rfl,hR1⟩
 obtain rfl:=hR1.symm
 refine pur 1 rfl (sqt 8 rfl (pur 2 rfl ?_))
 refine cl rfl Z1h rfl rfl (c_Below l0 a0 c0 bk hgl _ _ (by omega) (by assumption) (2000) _ _) ?_
 rintro _ _ R1 ⟨x55,m55,hx55,rfl,hm55,rfl,hR1⟩
 obtain rfl:=hR1.symm
 refine sp rfl (PE.add rfl rfl (by omega)) rfl (pur 1 rfl (sp rfl (PE.build (out:=ctl ⟨x52+x55,x52,[]⟩ (.slice none 0 0)) Zjv Z7B rfl rfl) rfl (alc rfl Z7B rfl (fun b13=>?_))))
 refine sto rfl rfl rfl Z7L rfl rfl rfl rfl ?_
 refine Z0 (sqt 5 rfl ?_)
 refine Zw bk ?_
 refine pur 2 rfl (sp rfl (PE.add rfl rfl (by omega)) rfl ?_)
 refine cl rfl Z1h rfl rfl (c_Below l0 a0 c0 bk hgl _ _ (by omega) (by assumption) (nh+1) _ _) ?_
 rintro _ _ R1 ⟨x62,m62,hx62,rfl,hm62,rfl,hR1⟩
 obtain rfl:=hR1.symm
 refine pur 1 rfl (Z2 ?_)
 obtain ⟨n62,rfl⟩:∃ n:Nat,x62=n:=⟨x62.toNat,by omega⟩
 refine Zd (ι:=(x:{x:Nat×List Hnd×Int×Int // x.1≤n62∧(x.2.1.length=x.1∧∀ h∈x.2.1,h.ok∧Zb6 x17 h q=true)∧(tq≤x.2.2.1∧x.2.2.1≤tq+60+20*x.1)∧(0≤x.2.2.2∧x.2.2.2≤4294967295)})×OSl 79 5 (hrows x.1.2.1)) (fun x=>⟨[(0,.pointer (some ⟨bk,0,none⟩)),(6,.pointer (some ⟨b6,0,none⟩)),(7,.pointer (some ⟨b7,0,none⟩)),(8,.pointer (some ⟨b8,0,none⟩)),(9,.pointer (some ⟨b9,0,none⟩)),(11,.pointer (some ⟨b11,0,none⟩)),(13,.pointer (some ⟨b13,0,none⟩)),(62,.int .i64 n62),(63,.int .i64 x.1.1.1)],
   (bk,cel 111 [.slice a0 l0.length c0,.int .i64 (x.1.1.2.2.1),.int .u32 (x.1.1.2.2.2)])::(x.2.G++(b13,cel 68 (ctl ⟨x52+x55,x52,x.1.1.2.1⟩ x.2.fs))::(b11,cel 69 (Ze q))::(b9,cel 65 (gtl ⟨x15,x17,l⟩ (.slice ag l.length cg)))::(b8,cel 69 (Ze [0,0,0,0]))::(b7,cel 68 [.int .i64 0,.int .i64 0,.slice none 0 0])::(b6,cel 65 [.int .i64 0,.int .i64 0,.slice none 0 0])::H),RowsA ag 5 (grows l)::R⟩) (fun x=>n62-x.1.1.1) ⟨⟨(0,[],tq5+1+1+1,m62),by omega,⟨rfl,by simp⟩,by dsimp only;omega,by assumption⟩,OSl.nil _ _⟩ ?_ (fun x=>?_)
 exact Zf idH
 obtain ⟨⟨⟨k,hds,tq3,mx3⟩,hk1,⟨hkl,hkh⟩,htq3,hmx3⟩,o'⟩:=x
 dsimp only at hk1 hkl hkh htq3 hmx3 o' ⊢
 refine sqt 1 rfl (pur 1 rfl (Z0 ?_))
 refine Z1 rfl ?_ ?_<;>intro hc1<;>try simp only [cS] at hc1
 refine Z3 (Z0 (Z2 ?_))
 refine Za [0,1,0,0,0,28,60,127,255,511] (.tk 0 (.ld 1 (.tk 2 (.ld 3 (.ld 4 (.big 5 (.big 6 (.big 7 (.tk 8 (.big 9 .done)))))))))) Zl (by kernel_rfl) ?_
 refine tk rfl (PE.fA Z0U rfl) rfl (ld rfl rfl (lh Z7A rfl rfl) rfl (Zg 1 rfl (ld rfl rfl (lhA (gtl ⟨x15,x17,l⟩ (.slice ag l.length cg)) Z5H rfl rfl rfl) rfl (ld rfl rfl (lhA (Ze (q)) Z5I rfl (rest:=[]) (by rw [List.append_nil];rfl) (by rw [ints_length];exact hq.len)) rfl ?_))))
 refine cl rfl Zcs rfl rfl (c_Taken l0 a0 c0 bk hgl _ _ (by omega) (by assumption) ⟨x15,x17,l⟩ (by dsimp only;omega) (.slice ag l.length cg) q hq _ _) ?_
 rintro _ _ R1 ⟨h,tq4,mx4,hho,hhf,rfl,htq4,hmx4,rfl,hR1⟩
 obtain rfl:=hR1.symm
 refine bg (fun w hs=>⟨trivial,trivial,(lh Z7A rfl rfl) w hs,trivial⟩) ?_
 refine bsl (out:=[_,_,_,_,_]) rfl ZpX Zk0 rfl rfl rfl rfl rfl rfl (fun b71=>?_)
 refine bg (fun w hs=>⟨(lh Z7A rfl rfl) w hs,trivial⟩) ?_
 refine apO (o') rfl Zov rfl rfl (Z0y (row:=Z2d h) rfl) rfl rfl ((by simp only [hrows,List.length_map,List.length_singleton];omega)) rfl (fun o72=>?_)
 refine bgT (tk rfl (PE.fA Z0U rfl) rfl ?_)
 refine Zy (l':=ctl ⟨x52+x55,x52,hds++[h]⟩ o72.fs) rfl rfl rfl Zr1 rfl (by rw [o72.cells.1];first | done | rfl) (by rw [o72.cells.1];simp [o72.cells.2]) (by rw [o72.cells.1];first | done | rfl) (by rw [o72.cells.1];first | done | exact Nat.le_refl _) ?_
 refine bgT (sqr 2 rfl ?_)
 refine Zw bk ?_
 refine sp rfl (PE.add rfl rfl (by omega)) rfl (pur 1 rfl ?_)
 exact Zb ⟨⟨(k+1,hds++[h],tq4,mx4),by omega,⟨by simp [hkl],fun x hx=>by rcases List.mem_append.1 hx with hx | hx;exact hkh x hx;obtain rfl:=List.mem_singleton.1 hx;exact ⟨hho,hhf⟩⟩,by dsimp only;omega,by assumption⟩,o72.cast (by simp [hrows])⟩ (fun w h=>(h.del b71).perm (by first | exact .refl _ | exact List.Perm.cons _ (.refl _)))
 obtain rfl:k=n62:=by omega
 refine Zw bk ?_
 refine Z7 (Z8 (Z8 (Zi (Z0 ?_))))
 refine Za [0,0,0,1,11,31] (.ld 0 (.ld 1 (.ld 2 (.big 3 (.big 4 (.big 5 .done)))))) Zl (by kernel_rfl) ?_
 refine ld rfl rfl (lhA (gtl ⟨x15,x17,l⟩ (.slice ag l.length cg)) Z5H rfl rfl rfl) rfl (ld rfl rfl (lhA (ctl ⟨x52+x55,x52,hds⟩ o'.fs) Z2b rfl rfl rfl) rfl (ld rfl rfl (lhA (Ze (q)) Z5I rfl (rest:=[]) (by rw [List.append_nil];rfl) (by rw [ints_length];exact hq.len)) rfl ?_))
 refine sto rfl rfl rfl Zoa rfl rfl rfl rfl ?_
 refine bg (fun w hs=>⟨(lhA (Ze (q)) Z5I rfl (rest:=[]) (by rw [List.append_nil];rfl) (by rw [ints_length];exact hq.len)) w hs,(lhA (ctl ⟨x52+x55,x52,hds⟩ o'.fs) Z2b rfl rfl rfl) w hs,trivial,trivial⟩) ?_
 refine Zy (l':=ctl ⟨x52+x55,x52,hds⟩ o'.fs) rfl rfl rfl Z7L rfl rfl (by show (ctl _ o'.fs).all (·.oneCell')=true;simp only [ctl,List.all_cons,List.all_nil,o'.cells.2,Bool.and_true];rfl) rfl (Nat.le_refl _) ?_
 refine bg (fun w hs=>⟨(lhA (Ze (q)) Z5I rfl (rest:=[]) (by rw [List.append_nil];rfl) (by rw [ints_length];exact hq.len)) w hs,trivial,trivial⟩) ?_
 refine Z2V rfl rfl rfl Zk5 rfl (by rw [ints_length];exact hq.len) rfl (Zs _) ?_
 refine bgT (Z4 ?_)
 have hco:Crt.ok ⟨x52+x55,x52,hds⟩:=⟨by simp only;omega,by simp only;omega,by simp only;omega,fun h hh=>(hkh h hh).1⟩
 exact Z9 (vs:=[_,_,_]) rfl (.cons (RV.cell rfl (lhA [_,_,_] Z5H rfl rfl rfl)) (.cons (RV.cell rfl (lhA [_,_,_] Z2b rfl rfl rfl)) (.cons (RV.cell rfl (lhA (Ze (q)) Z5I rfl (rest:=[]) (by rw [List.append_nil];rfl) (by rw [ints_length];exact hq.len))) .nil))) rfl ⟨⟨x15,x17,l⟩,⟨x52+x55,x52,hds⟩,q,ag,cg,tq3,mx3,o',⟨hgo,hco,hq,by simp only;omega,by simp only;omega,fun h hh=>(hkh h hh).2,by simp only;omega,by simp only;omega,by simp only;omega⟩,hcg,rfl,by omega,by assumption,rfl,rfl⟩ (fun w h=>St.sub ((((((h.del b13).del b11).del b9).del b8).del b7).del b6))
theorem Fn.post {P:Program} {f:FuncId} {args:List Value} {H:Z6} {R:Z5} {Q Q':Value→Z6→Z5→Prop} (h:Fn P f args H R Q) (hq:∀ v H1 R1,Q v H1 R1→∃ H2 R2,Q' v H2 R2∧∀ w,St H1 R1 w→St H2 R2 w):Fn P f args H R Q' :=
 fun w hs=>CallsIn.mono (h w hs) fun e w' ⟨v,H1,R1,q,he,hs'⟩=>by obtain ⟨H2,R2,q2,hst⟩:=hq _ _ _ q;exact ⟨v,H2,R2,q2,he,hst _ hs'⟩
theorem c_Made (l0:List Int) (a0:Option Addr) (c0 bk:Nat) (hgl:l0.length≤9223372036854775807) (tq mx:Int) (htq:0≤tq∧tq≤1000) (hmx:0≤mx∧mx≤4294967295) (ng nh:Int) (hng:0≤ng∧ng≤4) (hnh:0≤nh∧nh≤6) (H:Z6) (R:Z5) [hG:MemRows a0 1 (urows l0) R] :
   Fn Tryz.prog 16 [.pointer (some ⟨bk,0,none⟩),.int .i64 ng,.int .i64 nh] ((bk,cel 111 [.slice a0 l0.length c0,.int .i64 (tq),.int .u32 (mx)])::H) R (fun v H' R'=>∃ (g:Gat) (c:Crt) (m:Mix) (ag:Option Addr) (cg:Nat) (ah:Option Addr) (ch:Nat) (tq' mx':Int),MdOk ng nh g c m∧g.grs.length≤cg∧v = .tuple #[g.v (g.sl ag cg),c.v (c.sl ah ch),.agg (Ze m).toArray]∧(tq≤tq'∧tq'≤tq+200)∧(0≤mx'∧mx'≤4294967295)∧H'=(bk,cel 111 [.slice a0 l0.length c0,.int .i64 (tq'),.int .u32 (mx')])::H∧R'=RowsA ah 5 (hrows c.hs)::RowsA ag 5 (grows g.grs)::R) :=
 Fn.post (Zid l0 a0 c0 bk hgl tq mx htq hmx ng nh hng hnh H R) (by
   rintro v _ _ ⟨g,c,m,ag,cg,tq',mx',o,h1,h2,rfl,h3,h4,rfl,rfl⟩
   obtain ⟨ah,ch,he,hf⟩:=o.freeze
   exact ⟨_,_,⟨g,c,m,ag,cg,ah,ch,tq',mx',h1,h2,by rw [he,show (hrows c.hs).length=c.hs.length from List.length_map _];rfl,h3,h4,rfl,rfl⟩,fun w h=>hf (h.perm (List.perm_middle (l₁:=o.G) (a:=_)).symm)⟩)
theorem ZdA {ng nh:Int} {g:Gat} {c:Crt} {m:Mix} (h:MdOk ng nh g c m):Z1J g c=0∧Z0C g c false=0∧∃ b,clo (Z5T g.miss c.hs fun _=>true)=some b∧Tight b∧∀ m',Mx b m'↔(Mxt m'∧∀ x∈c.hs,Zb6 g.miss x m'=true):=by
 have h1:=gat_ok.2 h.gok
 have h2:=crt_ok.2 h.cok
 have h0:Z1J g c=0:=by simp [Z1J,h1,h2]
 have hmi:=h.gok.miss
 have hiff:∀ m',Mx (Z5T g.miss c.hs fun _=>true) m'↔(Mxt m'∧∀ x∈c.hs,Zb6 g.miss x m'=true):=fun m'=>by
   rw [Zia hmi.1 h.cok.hs]
   constructor
   · rintro ⟨h3,h4⟩
     refine ⟨h3,fun x hx=>?_⟩
     obtain ⟨i,hi⟩:=List.getElem?_of_mem hx
     exact h4 i x hi rfl
   · rintro ⟨h3,h4⟩
     exact ⟨h3,fun i x hx _=>h4 x (List.mem_of_getElem? hx)⟩
 cases hb:clo (Z5T g.miss c.hs fun _=>true) with
 | none=>exact absurd ((hiff m).2 ⟨h.mix,h.fit⟩) (Z6y (Z6m _ _ _) hb m)
 | some b =>
   obtain ⟨h3,h4⟩:=Z3k (Z6m _ _ _) hb
   exact ⟨h0,by simp [Z0C,h0,hb],b,rfl,h3,fun m'=>(h4 m').trans (hiff m')⟩
theorem md_net {ng nh:Int} {g:Gat} {c:Crt} {m:Mix} (h:MdOk ng nh g c m):Znt g c = .tuple #[spv (netP g c).1 (netP g c).2,.int .i64 0]∧(0≤(netP g c).1∧(netP g c).1≤c.full-c.empty)∧(c.full-c.empty≤(netP g c).2∧(netP g c).2≤2100):=by
 have h1:=h.net
 have h2:=h.gok.err
 refine ⟨by unfold Znt;rw [decide_eq_false (show ¬ Z1J g c≠0 by rw [(ZdA h).1];decide)];rfl,?_,?_⟩<;>simp only [netP]<;>omega
theorem wgh_at {n w x a p z:Int} (hn:0≤n) (hw:n≤w∧w≤x) (ha:0≤a) (hp:a≤p∧p≤z):n*a / 40≤w*p / 40∧w*p / 40≤x*z / 40 :=
 ⟨Int.ediv_le_ediv (by omega) (Int.mul_le_mul hw.1 hp.1 ha (by omega)),Int.ediv_le_ediv (by omega) (Int.mul_le_mul hw.2 hp.2 (by omega) (by omega))⟩
def ZjW:Crt:=⟨0,0,[]⟩
def Z7q (c:Crt) (h:Hnd):Crt×Int:=bif decide (c.check≠0) then (ZjW,c.check) else bif decide (c.hs.length=6) then (ZjW,9) else bif decide (Crt.check { c with hs:=c.hs++[h] }≠0) then (ZjW,Crt.check { c with hs:=c.hs++[h] }) else ({ c with hs:=c.hs++[h] },0)
theorem Z5i (l:List Hnd):(hrows l).flatten.length=5*l.length:=by
 rw [Z06 (sz:=5) (Z2n l),hrows,List.length_map];omega
theorem Zhl (l:List Hnd):(hrows l).flatten.all (·.oneCell')=true:=by
 rw [List.all_eq_true]
 intro v hv
 obtain ⟨r,hr,hv⟩:=List.mem_flatten.1 hv
 obtain ⟨x,_,rfl⟩:=List.mem_map.1 hr
 simp only [Z2d,List.mem_cons,List.not_mem_nil,or_false] at hv
 rcases hv with rfl | rfl | rfl | rfl | rfl<;>rfl
theorem Z2q (n:Nat):(Z1x n [Value.int .i64 0,.int .i64 0,.int .i64 0,.int .i64 0,.int .i64 0]).length=5*n:=by
 rw [← Z1A,Z06 (sz:=5) (fun q hq=>by rw [(List.mem_replicate.1 hq).2];rfl),List.length_replicate];omega
theorem ZaF (l:List Hnd) (h:Hnd):spl (spl (Z1x (l.length+1) [Value.int .i64 0,.int .i64 0,.int .i64 0,.int .i64 0,.int .i64 0]) 0 (hrows l).flatten) (0+((l.length:Nat):Int).toNat*5) (Z2d h)=(hrows (l++[h])).flatten:=by
 have h1:=Z5i l
 have h2:=Z2q (l.length+1)
 rw [show hrows (l++[h])=hrows l++[Z2d h] by simp [hrows],List.flatten_append,List.flatten_singleton]
 unfold spl
 rw [List.take_zero,List.nil_append,Nat.zero_add,Nat.zero_add,Int.toNat_natCast,List.take_append_of_le_length (by omega),List.take_of_length_le (by omega),List.drop_append,List.drop_eq_nil_of_le (show (hrows l).flatten.length≤l.length*5+(Z2d h).length by rw [h1];omega),List.nil_append,List.drop_drop,List.drop_eq_nil_of_le (by rw [h1,h2];show 5*(l.length+1)≤5*l.length+(l.length*5+5-5*l.length);omega),List.append_nil]
theorem Zjj {b b':Box} (hb:Tight b') (h:∀ m,Mx b' m→Mx b m) {k:Nat} (hk:k<4):bl b k≤bl b' k∧bh b' k≤bh b k:=by
 have hf:=hb.fit k hk
 obtain ⟨m1,h1,e1⟩:=hb.had hk (v:=bl b' k) ⟨Int.le_refl _,hf.1⟩
 obtain ⟨m2,h2,e2⟩:=hb.had hk (v:=bh b' k) ⟨hf.1,Int.le_refl _⟩
 have h3:=(h m1 h1).at_ k hk
 have h4:=(h m2 h2).at_ k hk
 omega
theorem Zje {nh:Int} {g:Gat} {c:Crt} {m:Mix} (hm:MdOk 4 nh g c m) (hn:nh≤5) {h:Hnd} (hh:h.ok) (hf:Zb6 g.miss h m=true):MdOk 4 6 g { c with hs:=c.hs++[h] } m:=by
 have h1:=hm.cok
 have h2:=hm.more
 refine ⟨hm.gok,⟨by simp;omega,h1.full,h1.empty,fun x hx=>?_⟩,hm.mix,hm.err,hm.miss,fun x hx=>?_,hm.many,by simp;omega,hm.net⟩
 · rcases List.mem_append.1 hx with hx | hx
   · exact h1.hs x hx
   · obtain rfl:=List.mem_singleton.1 hx;exact hh
 · rcases List.mem_append.1 hx with hx | hx
   · exact hm.fit x hx
   · obtain rfl:=List.mem_singleton.1 hx;exact hf
theorem c_Take (c:Crt) (ah:Option Addr) (ch:Nat) (hlh:c.hs.length≤9223372036854775807) (h:Hnd) (H:Z6) (R:Z5) [hA:MemRows ah 5 (hrows c.hs) R] :
    Fn Tryz.prog 19 [c.v (c.sl ah ch),.agg (Z2d h).toArray] H R (fun v H' R'=>∃ a cd,(Z7q c h).1.hs.length≤cd∧v = .tuple #[(Z7q c h).1.v ((Z7q c h).1.sl a cd),.int .i64 (Z7q c h).2]∧H'=H∧R'=RowsA a 5 (hrows (Z7q c h).1.hs)::R):=by
 refine Zc Tryz.func19 rfl Tryz.ntmps19 rfl ?_
 refine sqt 4 rfl (bx rfl rfl rfl (fun b2=>bx rfl rfl rfl (fun b3=>alc rfl Z7B rfl (fun b4=>pur 1 rfl (Z0 (sqt 3 rfl (spL rfl rfl (lhA [_,_,_] Z2b rfl rfl rfl) rfl ?_)))))))
 refine clV rfl Zfs rfl rfl (Z1L c ah ch hlh _ _) ?_
 refine pur 1 rfl (sqt 2 rfl (pur 2 rfl ?_))
 refine Z1 rfl ?_ ?_<;>intro hc0
 have e:Z7q c h=(ZjW,c.check):=by unfold Z7q;rw [dT (by simpa using hc0)];rfl
 refine sqt 4 rfl (sp rfl (PE.build (out:=[_,_,_]) Zjv Z7B rfl rfl) rfl (pur 1 rfl ?_))
 refine sto rfl rfl rfl Z7L rfl rfl rfl rfl ?_
 refine pur 1 rfl (Z4 ?_)
 refine Sy.heap (fun w h9=>St.also h9 (f:=RowsA none 5 []) (fun w9 _=>fun i row hi=>by simp at hi)) ?_
 rw [e]
 exact Z9 (vs:=[_,_]) rfl (.cons (RV.cell rfl (lhA [_,_,_] Z2b rfl rfl rfl)) (.cons (RV.tmp rfl) .nil)) rfl ⟨none,0,Nat.le_refl _,rfl,rfl,(rfl:RowsA none 5 []::R=_)⟩ (fun w h=>St.sub (((h.del b4).del b3).del b2))
 have h0:c.check=0:=by simpa using hc0
 have hco:=crt_ok.1 h0
 have hmn:=hco.many
 refine Z3 (Z0 (sqt 4 rfl (sp rfl (PE.fA Z0U rfl) rfl (spL rfl rfl (lh Z7A rfl rfl) rfl (sp rfl (PE.lenSl Z91 rfl) rfl (pur 1 rfl ?_))))))
 refine Z1 rfl ?_ ?_<;>intro hc1<;>try simp only [cS] at hc1
 have e:Z7q c h=(ZjW,9):=by unfold Z7q;rw [dF (show ¬ c.check≠0 by omega),dT (show c.hs.length=6 by omega)];rfl
 refine sqt 3 rfl (sp rfl (PE.build (out:=[_,_,_]) Zjv Z7B rfl rfl) rfl ?_)
 refine sto rfl rfl rfl Z7L rfl rfl rfl rfl ?_
 refine pur 1 rfl (Z4 ?_)
 refine Sy.heap (fun w h9=>St.also h9 (f:=RowsA none 5 []) (fun w9 _=>fun i row hi=>by simp at hi)) ?_
 rw [e]
 exact Z9 (vs:=[_,_]) rfl (.cons (RV.cell rfl (lhA [_,_,_] Z2b rfl rfl rfl)) (.cons (RV.tmp rfl) .nil)) rfl ⟨none,0,Nat.le_refl _,rfl,rfl,(rfl:RowsA none 5 []::R=_)⟩ (fun w h=>St.sub (((h.del b4).del b3).del b2))
 refine Z3 (Z0 ?_)
 refine Za [0,1,0,4,0,16,48,112,240,511,0,2047] (.tk 0 (.ld 1 (.tk 2 (.ld 3 (.tk 4 (.ld 5 (.tk 6 (.tk 7 (.any (.alt 8 (.tk 9 (.big 10 (.big 11 .done))) (.alt 10 (.big 8 (.tk 9 (.big 11 .done))) .stop))))))))))) Zl (by kernel_rfl) ?_
 refine tk rfl (PE.fA Zd3 rfl) rfl (ld rfl rfl (lh sc3 rfl rfl) rfl (tk rfl (PE.fA Zd4 rfl) rfl (ld rfl rfl (lh sc3 rfl rfl) rfl (tk rfl (PE.fA Z0U rfl) rfl (ld rfl rfl (lh Z7A rfl rfl) rfl (tk rfl (PE.lenSl Z91 rfl) rfl (tk rfl (PE.add rfl rfl (by omega)) rfl ?_)))))))
 refine ZL ?_ ?_
 rw [show ((c.hs.length:Int)+1)=((c.hs.length+1:Nat):Int) from by omega]
 refine mkS rfl Zov Zk0 rfl rfl (Nat.le_refl _) ⟨by omega,by omega⟩ rfl (fun b28=>?_)
 refine bg (fun w hs=>⟨trivial,(lh sc3 rfl rfl) w hs,(lh sc3 rfl rfl) w hs,trivial⟩) ?_
 refine tk rfl (PE.build (out:=[.int .i64 c.full,.int .i64 c.empty,.slice (some ⟨b28,0,none⟩) (c.hs.length+1) (c.hs.length+1)]) Zjv Z7B rfl rfl) rfl (alc rfl Z7B rfl (fun b7=>?_))
 refine bg (fun w hs=>⟨(lh sc3 rfl rfl) w hs,(lh sc3 rfl rfl) w hs,trivial⟩) ?_
 refine sto rfl rfl rfl Z7L rfl rfl rfl rfl ?_
 refine bgT (sqt 5 rfl (sp rfl (PE.fA Z0U rfl) rfl (spL rfl rfl (lh Z7A rfl rfl) rfl (sp rfl (PE.fA Z0U rfl) rfl (spL rfl rfl (lh Z7A rfl rfl) rfl ?_)))))
 refine Zqo (rows:=hrows c.hs) rfl ZpX rfl (by rw [show (hrows c.hs).length=c.hs.length from List.length_map _];rfl) (Z2n _) (by rw [show (hrows c.hs).length=c.hs.length from List.length_map _];omega) (Zhl _) (by rw [Z5i,Z2q];omega) rfl ?_
 refine sqt 8 rfl (sp rfl (PE.fA Z0U rfl) rfl (spL rfl rfl (lh Z7A rfl rfl) rfl (sp rfl (PE.fA Z0U rfl) rfl (spL rfl rfl (lh Z7A rfl rfl) rfl (sp rfl (PE.lenSl Z91 rfl) rfl (spL rfl rfl (lhA [_,_,_,_,_] ZeO rfl rfl rfl) rfl (sp rfl (PE.indexAddr Zob rfl rfl (by omega) (by omega)) rfl ?_)))))))
 refine Zy (l':=(hrows (c.hs++[h])).flatten) rfl rfl rfl Zk6 rfl rfl rfl (ZaF _ _) (by unfold spl;simp only [List.length_append,List.length_take,List.length_drop,Z2q,Z5i];show 0+((c.hs.length:Nat):Int).toNat*5+5≤_;omega) ?_
 refine Z0 (sqt 3 rfl ?_)
 refine Sy.heap (fun w h0=>St.rows (sz:=5) (rows:=hrows (c.hs++[h])) (rest:=[]) (by rw [List.append_nil];exact h0.pull b28) (Z2n _)) ?_
 rw [show c.hs.length+1=(c.hs++[h]).length from by simp]
 obtain ⟨d,hd⟩:∃ d:Crt,d={ c with hs:=c.hs++[h] }:=⟨_,rfl⟩
 have hdh:c.hs++[h]=d.hs:=by rw [hd]
 rw [hdh,show c.full=d.full from by rw [hd],show c.empty=d.empty from by rw [hd]]
 refine spL rfl rfl (lhA (ctl d (d.sl (some ⟨b28,0,none⟩) d.hs.length)) Z2b rfl rfl rfl) rfl ?_
 refine clV rfl Zfs rfl rfl (Z1L d (some ⟨b28,0,none⟩) d.hs.length (by rw [← hdh];simp;omega) _ _) ?_
 refine pur 1 rfl (sqt 2 rfl (pur 2 rfl ?_))
 refine Z1 rfl ?_ ?_<;>intro hc2
 have e:Z7q c h=(ZjW,d.check):=by unfold Z7q;rw [dF (show ¬ c.check≠0 by omega),dF (show ¬ c.hs.length=6 by omega),← hd,dT (by simpa using hc2)];rfl
 refine sqt 4 rfl (sp rfl (PE.build (out:=[_,_,_]) Zjv Z7B rfl rfl) rfl (pur 1 rfl ?_))
 refine sto rfl rfl rfl Z7L rfl rfl rfl rfl ?_
 refine pur 1 rfl (Z4 ?_)
 refine Sy.heap (fun w h9=>St.also h9.ftail (f:=RowsA none 5 []) (fun w9 _=>fun i row hi=>by simp at hi)) ?_
 rw [e]
 exact Z9 (vs:=[_,_]) rfl (.cons (RV.cell rfl (lhA [_,_,_] Z2b rfl rfl rfl)) (.cons (RV.tmp rfl) .nil)) rfl ⟨none,0,Nat.le_refl _,rfl,rfl,(rfl:RowsA none 5 []::R=_)⟩ (fun w h=>St.sub ((((h.del b7).del b4).del b3).del b2))
 have e:Z7q c h=(d,0):=by unfold Z7q;rw [dF (show ¬ c.check≠0 by omega),dF (show ¬ c.hs.length=6 by omega),← hd,dF (by simpa using hc2)];rfl
 refine Z3 (sqt 3 rfl (spL rfl rfl (lhA (ctl d (d.sl (some ⟨b28,0,none⟩) d.hs.length)) Z2b rfl rfl rfl) rfl ?_))
 refine sto rfl rfl rfl Z7L rfl rfl rfl rfl ?_
 refine pur 1 rfl (Z4 ?_)
 rw [e]
 exact Z9 (vs:=[_,_]) rfl (.cons (RV.cell rfl (lhA [_,_,_] Z2b rfl rfl rfl)) (.cons (RV.tmp rfl) .nil)) rfl ⟨some ⟨b28,0,none⟩,d.hs.length,Nat.le_refl _,rfl,rfl,(rfl:RowsA (some ⟨b28,0,none⟩) 5 (hrows d.hs)::R=_)⟩ (fun w h=>St.sub ((((h.del b7).del b4).del b3).del b2))
 refine ZL ?_ ?_
 refine alc rfl Z7B rfl (fun b7=>?_)
 refine bg (fun w hs=>⟨(lh Z7A rfl rfl) w hs,(lh sc3 rfl rfl) w hs,(lh sc3 rfl rfl) w hs,trivial⟩) ?_
 rw [show ((c.hs.length:Int)+1)=((c.hs.length+1:Nat):Int) from by omega]
 refine mkS rfl Zov Zk0 rfl rfl (Nat.le_refl _) ⟨by omega,by omega⟩ rfl (fun b28=>?_)
 refine bg (fun w hs=>⟨trivial,(lh sc3 rfl rfl) w hs,(lh sc3 rfl rfl) w hs,trivial⟩) ?_
 refine tk rfl (PE.build (out:=[.int .i64 c.full,.int .i64 c.empty,.slice (some ⟨b28,0,none⟩) (c.hs.length+1) (c.hs.length+1)]) Zjv Z7B rfl rfl) rfl ?_
 refine sto rfl rfl rfl Z7L rfl rfl rfl rfl ?_
 refine bgT (sqt 5 rfl (sp rfl (PE.fA Z0U rfl) rfl (spL rfl rfl (lh Z7A rfl rfl) rfl (sp rfl (PE.fA Z0U rfl) rfl (spL rfl rfl (lh Z7A rfl rfl) rfl ?_)))))
 refine Zqo (rows:=hrows c.hs) rfl ZpX rfl (by rw [show (hrows c.hs).length=c.hs.length from List.length_map _];rfl) (Z2n _) (by rw [show (hrows c.hs).length=c.hs.length from List.length_map _];omega) (Zhl _) (by rw [Z5i,Z2q];omega) rfl ?_
 refine sqt 8 rfl (sp rfl (PE.fA Z0U rfl) rfl (spL rfl rfl (lh Z7A rfl rfl) rfl (sp rfl (PE.fA Z0U rfl) rfl (spL rfl rfl (lh Z7A rfl rfl) rfl (sp rfl (PE.lenSl Z91 rfl) rfl (spL rfl rfl (lhA [_,_,_,_,_] ZeO rfl rfl rfl) rfl (sp rfl (PE.indexAddr Zob rfl rfl (by omega) (by omega)) rfl ?_)))))))
 refine Zy (l':=(hrows (c.hs++[h])).flatten) rfl rfl rfl Zk6 rfl rfl rfl (ZaF _ _) (by unfold spl;simp only [List.length_append,List.length_take,List.length_drop,Z2q,Z5i];show 0+((c.hs.length:Nat):Int).toNat*5+5≤_;omega) ?_
 refine Z0 (sqt 3 rfl ?_)
 refine Sy.heap (fun w h0=>St.rows (sz:=5) (rows:=hrows (c.hs++[h])) (rest:=[]) (by rw [List.append_nil];exact h0.pull b28) (Z2n _)) ?_
 rw [show c.hs.length+1=(c.hs++[h]).length from by simp]
 obtain ⟨d,hd⟩:∃ d:Crt,d={ c with hs:=c.hs++[h] }:=⟨_,rfl⟩
 have hdh:c.hs++[h]=d.hs:=by rw [hd]
 rw [hdh,show c.full=d.full from by rw [hd],show c.empty=d.empty from by rw [hd]]
 refine spL rfl rfl (lhA (ctl d (d.sl (some ⟨b28,0,none⟩) d.hs.length)) Z2b rfl rfl rfl) rfl ?_
 refine clV rfl Zfs rfl rfl (Z1L d (some ⟨b28,0,none⟩) d.hs.length (by rw [← hdh];simp;omega) _ _) ?_
 refine pur 1 rfl (sqt 2 rfl (pur 2 rfl ?_))
 refine Z1 rfl ?_ ?_<;>intro hc2
 have e:Z7q c h=(ZjW,d.check):=by unfold Z7q;rw [dF (show ¬ c.check≠0 by omega),dF (show ¬ c.hs.length=6 by omega),← hd,dT (by simpa using hc2)];rfl
 refine sqt 4 rfl (sp rfl (PE.build (out:=[_,_,_]) Zjv Z7B rfl rfl) rfl (pur 1 rfl ?_))
 refine sto rfl rfl rfl Z7L rfl rfl rfl rfl ?_
 refine pur 1 rfl (Z4 ?_)
 refine Sy.heap (fun w h9=>St.also h9.ftail (f:=RowsA none 5 []) (fun w9 _=>fun i row hi=>by simp at hi)) ?_
 rw [e]
 exact Z9 (vs:=[_,_]) rfl (.cons (RV.cell rfl (lhA [_,_,_] Z2b rfl rfl rfl)) (.cons (RV.tmp rfl) .nil)) rfl ⟨none,0,Nat.le_refl _,rfl,rfl,(rfl:RowsA none 5 []::R=_)⟩ (fun w h=>St.sub ((((h.del b7).del b4).del b3).del b2))
 have e:Z7q c h=(d,0):=by unfold Z7q;rw [dF (show ¬ c.check≠0 by omega),dF (show ¬ c.hs.length=6 by omega),← hd,dF (by simpa using hc2)];rfl
 refine Z3 (sqt 3 rfl (spL rfl rfl (lhA (ctl d (d.sl (some ⟨b28,0,none⟩) d.hs.length)) Z2b rfl rfl rfl) rfl ?_))
 refine sto rfl rfl rfl Z7L rfl rfl rfl rfl ?_
 refine pur 1 rfl (Z4 ?_)
 rw [e]
 exact Z9 (vs:=[_,_]) rfl (.cons (RV.cell rfl (lhA [_,_,_] Z2b rfl rfl rfl)) (.cons (RV.tmp rfl) .nil)) rfl ⟨some ⟨b28,0,none⟩,d.hs.length,Nat.le_refl _,rfl,rfl,(rfl:RowsA (some ⟨b28,0,none⟩) 5 (hrows d.hs)::R=_)⟩ (fun w h=>St.sub ((((h.del b7).del b4).del b3).del b2))
 exact Z0f
structure BndP (g:Gat) (c:Crt) (m:Mix) (b:Box):Prop where
 told:Z0C g c false=0
 bnd:Zk4 g c=b
 tight:Tight b
 can:ZmL g c=Zix g.grs b
 mx:∀ m',Mx b m'↔(Mxt m'∧∀ x∈c.hs,Zb6 g.miss x m'=true)
 at_:∀ k<4,0≤bl b k∧bl b k≤nn m k∧nn m k≤bh b k∧bh b k≤40
 wgt:∀ k<4,wgtR g c (k:Nat) = .tuple #[spv ((netP g c).1*bl b k / 40) ((netP g c).2*bh b k / 40),.int .i64 0]
theorem md_bnd {ng nh:Int} {g:Gat} {c:Crt} {m:Mix} (h:MdOk ng nh g c m):∃ b,BndP g c m b:=by
 obtain ⟨h0,h1,b,hb,hbt,hmx⟩:=ZdA h
 have hm:=(hmx m).2 ⟨h.mix,h.fit⟩
 refine ⟨b,h1,Z5S h1 hb,hbt,Ziy h1 hb,hmx,fun k hk=>?_,fun k hk=>?_⟩
 · have h2:=hm.at_ k hk
   have h3:=hbt.ok.at_ k hk
   omega
 · have hi:(!(inb (k:Nat) 0 3))=false:=by simp [inb];omega
   unfold wgtR
   rw [hi,decide_eq_false (show ¬ Z0C g c false≠0 by omega),Z5S h1 hb];rfl
theorem tak_md {nh:Int} {g:Gat} {c:Crt} {m:Mix} (hm:MdOk 4 nh g c m) (hn:nh≤5) {h:Hnd} (hh:h.ok) (hf:Zb6 g.miss h m=true):∃ d:Crt,Z7q c h=(d,0)∧MdOk 4 6 g d m∧d.hs=c.hs++[h]∧d.full=c.full∧d.empty=c.empty:=by
 have hd:=Zje hm hn hh hf
 have h1:=crt_ok.2 hm.cok
 have h2:=crt_ok.2 hd.cok
 have h3:=hm.more
 exact ⟨_,by unfold Z7q;rw [decide_eq_false (show ¬ c.check≠0 by omega),decide_eq_false (show ¬ c.hs.length=6 by omega),decide_eq_false (show ¬ Crt.check { c with hs:=c.hs++[h] }≠0 by omega)];rfl,hd,rfl,rfl,rfl⟩
structure MoreP (g:Gat) (c d:Crt) (b b':Box) (l l':List Int):Prop where
 at_:∀ k<4,bl b k≤bl b' k∧bh b' k≤bh b k
 can:ZmL g c=l
 can':ZmL g d=l'
 sub:∀ x∈l',x∈l
 few:l.length≤g.grs.length+1
 few':l'.length≤g.grs.length+1
 net:netP g d=netP g c
theorem md_more {nh nh':Int} {g:Gat} {c d:Crt} {m:Mix} {b b':Box} {h:Hnd} (hb:BndP g c m b) (hb':BndP g d m b') (hd:d.hs=c.hs++[h]) (hf:d.full=c.full) (he:d.empty=c.empty):∃ l l',MoreP g c d b b' l l':=by
 have hsub:∀ m',Mx b' m'→Mx b m':=fun m' h1=>by
   obtain ⟨h2,h3⟩:=(hb'.mx m').1 h1
   exact (hb.mx m').2 ⟨h2,fun x hx=>h3 x (by rw [hd];simp [hx])⟩
 refine ⟨_,_,fun k hk=>Zjj hb'.tight hsub hk,hb.can,hb'.can,fun x hx=>?_,Zcu _ _,Zcu _ _,by unfold netP;rw [hf,he]⟩
 obtain ⟨m',h1,h2⟩:=(Zct hb'.tight.ok).1 hx
 exact (Zct hb.tight.ok).2 ⟨m',hsub m' h1,h2⟩
end Go.Proofs.YtcfdanhklbklkaaGreat.Gt
namespace Go.Proofs.YtcfdanhklbklkaaGreat.Sk
set_option linter.unusedSimpArgs false
set_option linter.unusedVariables false
structure Fl where
 fr:Nat
 to:Nat
 lo:Int
 hi:Int
def na (l:List Int) (k:Nat):Int:=l.getD k 0
def ovr:List Fl→List Int→Nat→Int
 | f::F,a::A,c=>((bif decide (f.to=c) then a else 0)-(bif decide (f.fr=c) then a else 0))+ovr F A c
 | _,_,_=>0
def pot (p:Nat→Int):List Fl→List Int→Int
 | f::F,a::A=>(p f.to-p f.fr)*a+pot p F A
 | _,_=>0
def Z3f (g:Nat→Int):Nat→Int
 | 0=>0
 | n+1=>Z3f g n+g n
theorem ZaK (g h:Nat→Int):∀ n,Z3f (fun c=>g c+h c) n=Z3f g n+Z3f h n
 | 0=>rfl
 | n+1=>by unfold Z3f;rw [ZaK g h n];omega
theorem Z1e {g:Nat→Int}:∀ n,(∀ c,c<n→g c=0)→Z3f g n=0
 | 0,_=>rfl
 | n+1,h=>by unfold Z3f;rw [Z1e n (fun c hc=>h c (by omega)),h n (by omega)];rfl
theorem Z7m {p:Nat→Int} {x:Nat} {a:Int}:∀ {n},x<n→Z3f (fun c=>p c*(bif decide (x=c) then a else 0)) n=p x*a
 | n+1,h=>by
   unfold Z3f
   by_cases e:x=n
   · subst e
     rw [Z1e x (fun c hc=>by rw [decide_eq_false (by omega),cond_false,Int.mul_zero]),decide_eq_true rfl,cond_true];omega
   · rw [Z7m (n:=n) (by omega),decide_eq_false e,cond_false,Int.mul_zero];omega
theorem Z7n (g h:Nat→Int):∀ n,Z3f (fun c=>g c-h c) n=Z3f g n-Z3f h n
 | 0=>rfl
 | n+1=>by unfold Z3f;rw [Z7n g h n];omega
theorem ZaA (p:Nat→Int) {n:Nat}:∀ {F:List Fl} {A:List Int},(∀ f∈F,f.fr<n∧f.to<n)→Z3f (fun c=>p c*ovr F A c) n=pot p F A
 | [],A,_=>by rw [Z1e n (fun c _=>by unfold ovr;exact Int.mul_zero _)];rfl
 | f::F,[],_=>by rw [Z1e n (fun c _=>by unfold ovr;exact Int.mul_zero _)];rfl
 | f::F,a::A,h=>by
   have hf:=h f (by simp)
   have ih:=ZaA p (n:=n) (F:=F) (A:=A) (fun g hg=>h g (by simp [hg]))
   have e:(fun c=>p c*ovr (f::F) (a::A) c)=fun c=>(p c*(bif decide (f.to=c) then a else 0)-p c*(bif decide (f.fr=c) then a else 0))+p c*ovr F A c:=funext fun c=>by
     show p c*(_+ovr F A c)=_
     rw [Int.mul_add,Int.mul_sub]
   rw [e,ZaK (fun c=>p c*(bif decide (f.to=c) then a else 0)-p c*(bif decide (f.fr=c) then a else 0)),Z7n,Z7m hf.2,Z7m hf.1,ih]
   show _=(p f.to-p f.fr)*a+pot p F A
   rw [Int.sub_mul]
structure Feas (n:Nat) (F:List Fl) (A:List Int):Prop where
 len:A.length=F.length
 bnd:∀ i f,F[i]?=some f→f.lo≤na A i∧na A i≤f.hi
 bal:∀ c,c<n→ovr F A c=0
theorem Feas.pot {n:Nat} {F:List Fl} {A:List Int} (h:Feas n F A) (hF:∀ f∈F,f.fr<n∧f.to<n) (p:Nat→Int):pot p F A=0:=by
 rw [← ZaA p hF]
 exact Z1e n fun c hc=>by rw [h.bal c hc];exact Int.mul_zero _
def Z0b:(Nat→Int)→List Int→Int
 | w,a::A=>w 0*a+Z0b (fun i=>w (i+1)) A
 | _,[]=>0
theorem ZaR {p:Nat→Int}:∀ {F:List Fl} {A B:List Int} {w:Nat→Int},A.length=F.length→B.length=F.length →
   (∀ i f,F[i]?=some f→w i*(na B i-na A i)≤(p f.to-p f.fr)*(na B i-na A i))→Z0b w B-Z0b w A≤pot p F B-pot p F A
 | [],[],[],w,_,_,_=>Int.le_refl 0
 | f::F,a::A,b::B,w,hA,hB,h=>by
   have h0:=h 0 f rfl
   have ih:=ZaR (p:=p) (F:=F) (A:=A) (B:=B) (w:=fun i=>w (i+1)) (by simpa using hA) (by simpa using hB) (fun i g hg=>h (i+1) g hg)
   show (w 0*b+_)-(w 0*a+_)≤((p f.to-p f.fr)*b+_)-((p f.to-p f.fr)*a+_)
   have h1:w 0*(b-a)≤(p f.to-p f.fr)*(b-a):=h0
   rw [Int.mul_sub,Int.mul_sub] at h1
   omega
theorem Znv {n:Nat} {F:List Fl} {A B:List Int} (hF:∀ f∈F,f.fr<n∧f.to<n) (hA:Feas n F A) (hB:Feas n F B) {w p:Nat→Int}
   (hm:∀ i f,F[i]?=some f→na A i<f.hi→p f.fr+w i≤p f.to) (hl:∀ i f,F[i]?=some f→f.lo<na A i→p f.to-w i≤p f.fr):Z0b w B≤Z0b w A:=by
 have h:=ZaR (p:=p) (w:=w) hA.len hB.len (fun i f hf=>by
   have hb:=hB.bnd i f hf
   rcases Int.lt_trichotomy (na A i) (na B i) with h1 | h1 | h1
   · have:=hm i f hf (by omega)
     exact Int.mul_le_mul_of_nonneg_right (by omega) (by omega)
   · rw [h1,Int.sub_self,Int.mul_zero,Int.mul_zero];exact Int.le_refl _
   · have:=hl i f hf (by omega)
     exact Int.mul_le_mul_of_nonpos_right (by omega) (by omega))
 rw [hA.pot hF p,hB.pot hF p] at h
 omega
theorem Zhz {S:Nat→Bool}:∀ {F:List Fl} {A B:List Int},A.length=F.length→B.length=F.length →
   (∀ i f,F[i]?=some f→S f.to=true→S f.fr=false→na A i≤na B i)→(∀ i f,F[i]?=some f→S f.to=false→S f.fr=true→na B i≤na A i) →
   pot (fun c=>bif S c then 1 else 0) F A≤pot (fun c=>bif S c then 1 else 0) F B
 | [],[],[],_,_,_,_=>Int.le_refl 0
 | f::F,a::A,b::B,hA,hB,h1,h2=>by
   have ih:=Zhz (S:=S) (F:=F) (A:=A) (B:=B) (by simpa using hA) (by simpa using hB) (fun i g hg=>h1 (i+1) g hg) (fun i g hg=>h2 (i+1) g hg)
   have k1:S f.to=true→S f.fr=false→a≤b:=h1 0 f rfl
   have k2:S f.to=false→S f.fr=true→b≤a:=h2 0 f rfl
   show ((bif S f.to then 1 else 0)-(bif S f.fr then 1 else 0))*a+_≤((bif S f.to then 1 else 0)-(bif S f.fr then 1 else 0))*b+_
   cases e1:S f.to<;>cases e2:S f.fr<;>simp only [cond_true,cond_false]
   · omega
   · have:=k2 e1 e2;omega
   · have:=k1 e1 e2;omega
   · omega
theorem Zbl {n:Nat} {F:List Fl} {A B:List Int} (hF:∀ f∈F,f.fr<n∧f.to<n) (hlen:A.length=F.length) {S:Nat→Bool}
   (hin:∀ i f,F[i]?=some f→S f.to=true→S f.fr=false→na A i≤f.lo) (hout:∀ i f,F[i]?=some f→S f.to=false→S f.fr=true→f.hi≤na A i)
   (hpos:0<Z3f (fun c=>(bif S c then 1 else 0)*ovr F A c) n) (hB:Feas n F B):False:=by
 rw [ZaA (fun c=>bif S c then 1 else 0) hF] at hpos
 have h:=Zhz (S:=S) hlen hB.len (fun i f hf e1 e2=>by have:=hin i f hf e1 e2;have:=hB.bnd i f hf;omega) (fun i f hf e1 e2=>by have:=hout i f hf e1 e2;have:=hB.bnd i f hf;omega)
 rw [hB.pot hF] at h
 omega
theorem Z0w {l:List Int} {i k:Nat} {v:Int} (hi:i<l.length):na (l.set i v) k=bif decide (i=k) then v else na l k:=by
 unfold na
 rw [List.getD_eq_getElem?_getD,List.getD_eq_getElem?_getD,List.getElem?_set]
 by_cases e:i=k
 · subst e;rw [if_pos rfl,if_pos hi,decide_eq_true rfl];rfl
 · rw [if_neg e,decide_eq_false e];rfl
def fl (F:List Fl) (i:Nat):Fl:=F.getD i ⟨0,0,0,0⟩
theorem Z0g {F:List Fl} {i:Nat} {f:Fl} (h:F[i]?=some f):fl F i=f:=by unfold fl;rw [List.getD_eq_getElem?_getD,h];rfl
theorem Z4h {F:List Fl} {i:Nat} (h:i<F.length):F[i]?=some (fl F i):=by unfold fl;rw [List.getD_eq_getElem?_getD,List.getElem?_eq_getElem h];rfl
structure Wy where
 i:Nat
 more:Bool
 deriving DecidableEq
def Wy.fr (F:List Fl) (w:Wy):Nat:=bif w.more then (fl F w.i).fr else (fl F w.i).to
def Wy.to (F:List Fl) (w:Wy):Nat:=bif w.more then (fl F w.i).to else (fl F w.i).fr
def Wy.res (F:List Fl) (A:List Int) (w:Wy):Int:=bif w.more then (fl F w.i).hi-na A w.i else na A w.i-(fl F w.i).lo
def Wy.s (w:Wy):Int:=bif w.more then 1 else -1
def snd (A:List Int) (l:List Wy) (n:Int):List Int:=l.foldl (fun A w=>A.set w.i (na A w.i+w.s*n)) A
theorem Z9i (l:List Wy) (n:Int):∀ A:List Int,(snd A l n).length=A.length:=by
 induction l with
 | nil=>exact fun A=>rfl
 | cons w l ih=>intro A;show (snd (A.set w.i _) l n).length=_;rw [ih,List.length_set]
theorem ZdV {c:Nat} {x:Int}:∀ {F:List Fl} {A:List Int} {i:Nat},A.length=F.length→i<F.length →
   ovr F (A.set i (na A i+x)) c=ovr F A c+((bif decide ((fl F i).to=c) then x else 0)-(bif decide ((fl F i).fr=c) then x else 0))
 | f::F,a::A,0,_,_=>by
   show ((bif decide (f.to=c) then (a+x) else 0)-(bif decide (f.fr=c) then (a+x) else 0))+ovr F A c=(((bif decide (f.to=c) then a else 0)-(bif decide (f.fr=c) then a else 0))+ovr F A c)+((bif decide (f.to=c) then x else 0)-(bif decide (f.fr=c) then x else 0))
   cases decide (f.to=c)<;>cases decide (f.fr=c)<;>simp only [cond_true,cond_false]<;>omega
 | f::F,a::A,i+1,h,hi=>by
   have ih:=ZdV (c:=c) (x:=x) (F:=F) (A:=A) (i:=i) (by simpa using h) (by simpa using hi)
   show _+ovr F (A.set i (na A i+x)) c=(_+ovr F A c)+_
   rw [ih,Int.add_assoc];rfl
def eff (F:List Fl):List Wy→Nat→Int
 | [],_=>0
 | w::l,c=>((bif decide (w.to F=c) then 1 else 0)-(bif decide (w.fr F=c) then 1 else 0))+eff F l c
theorem Zjp {F:List Fl} {A:List Int} {w:Wy} {n:Int} {c:Nat} (hA:A.length=F.length) (hw:w.i<F.length) :
   ovr F (A.set w.i (na A w.i+w.s*n)) c=ovr F A c+n*((bif decide (w.to F=c) then 1 else 0)-(bif decide (w.fr F=c) then 1 else 0)):=by
 rw [ZdV hA hw]
 unfold Wy.to Wy.fr Wy.s
 cases w.more<;>simp only [cond_true,cond_false]<;>cases decide ((fl F w.i).to=c)<;>cases decide ((fl F w.i).fr=c)<;>simp only [cond_true,cond_false]<;>omega
theorem Z96 {F:List Fl} {n:Int} {c:Nat}:∀ {l:List Wy} {A:List Int},A.length=F.length→(∀ w∈l,w.i<F.length)→ovr F (snd A l n) c=ovr F A c+n*eff F l c
 | [],A,_,_=>by show ovr F A c=_+n*0;omega
 | w::l,A,hA,hl=>by
   have ih:=Z96 (F:=F) (n:=n) (c:=c) (l:=l) (A:=A.set w.i (na A w.i+w.s*n)) (by rw [List.length_set];exact hA) (fun v hv=>hl v (by simp [hv]))
   show ovr F (snd (A.set w.i (na A w.i+w.s*n)) l n) c=_
   rw [ih,Zjp hA (hl w (by simp))]
   show _=ovr F A c+n*(_+eff F l c)
   rw [Int.mul_add];omega
def chn (F:List Fl):List Wy→Nat→Nat→Prop
 | [],b,a=>b=a
 | w::l,b,a=>w.to F=b∧chn F l (w.fr F) a
theorem Z8S {F:List Fl} {c:Nat}:∀ {l:List Wy} {b a:Nat},chn F l b a→eff F l c=(bif decide (b=c) then 1 else 0)-(bif decide (a=c) then 1 else 0)
 | [],b,a,h=>by
   have h:b=a:=h
   subst h
   show (0:Int)=_
   omega
 | w::l,b,a,⟨h1,h2⟩=>by
   have ih:=Z8S (c:=c) h2
   show _+eff F l c=_
   rw [ih,h1];omega
theorem ZhE {n:Int} {k:Nat}:∀ {l:List Wy} {A:List Int},(∀ w∈l,w.i<A.length)→l.Nodup →
   na (snd A l n) k=na A k+((bif l.contains ⟨k,true⟩ then n else 0)-(bif l.contains ⟨k,false⟩ then n else 0))
 | [],A,_,_=>by show na A k=na A k+(0-0);omega
 | w::l,A,hl,hn=>by
   have hw:=hl w (by simp)
   obtain ⟨h1,h2⟩:=List.nodup_cons.1 hn
   have ih:=ZhE (n:=n) (k:=k) (l:=l) (A:=A.set w.i (na A w.i+w.s*n)) (fun v hv=>by rw [List.length_set];exact hl v (by simp [hv])) h2
   show na (snd (A.set w.i (na A w.i+w.s*n)) l n) k=_
   rw [ih,Z0w hw,List.contains_cons,List.contains_cons]
   obtain ⟨i,m⟩:=w
   by_cases e:i=k
   · subst e
     have h3:l.contains ⟨i,m⟩=false:=by simpa using h1
     unfold Wy.s
     rw [decide_eq_true rfl,cond_true]
     cases m with
     | true =>
       rw [h3,show ((⟨i,true⟩:Wy) == ⟨i,true⟩)=true by simp,show ((⟨i,false⟩:Wy) == ⟨i,true⟩)=false by simp]
       simp only [cond_true,cond_false,Bool.true_or,Bool.false_or];omega
     | false =>
       rw [h3,show ((⟨i,false⟩:Wy) == ⟨i,false⟩)=true by simp,show ((⟨i,true⟩:Wy) == ⟨i,false⟩)=false by simp]
       simp only [cond_true,cond_false,Bool.true_or,Bool.false_or];omega
   · rw [decide_eq_false e,cond_false,show ((⟨k,true⟩:Wy) == ⟨i,m⟩)=false by simp;intro h;exact absurd h.symm e,show ((⟨k,false⟩:Wy) == ⟨i,m⟩)=false by simp;intro h;exact absurd h.symm e]
     simp only [Bool.false_or]
theorem Zei {F:List Fl} {A:List Int} {l:List Wy} {n:Int} (hA:A.length=F.length) (hb:∀ i f,F[i]?=some f→f.lo≤na A i∧na A i≤f.hi) (hl:∀ w∈l,w.i<F.length∧n≤w.res F A) (hd:l.Nodup) (hn:0≤n) :
   ∀ i f,F[i]?=some f→f.lo≤na (snd A l n) i∧na (snd A l n) i≤f.hi:=fun i f hf=>by
 have h0:=hb i f hf
 rw [ZhE (fun w hw=>by rw [hA];exact (hl w hw).1) hd]
 have h1:l.contains (⟨i,true⟩:Wy)=true→n≤f.hi-na A i:=fun h=>by
   have:=(hl _ (by simpa using h)).2
   unfold Wy.res at this;rw [Z0g hf] at this;exact this
 have h2:l.contains (⟨i,false⟩:Wy)=true→n≤na A i-f.lo:=fun h=>by
   have:=(hl _ (by simpa using h)).2
   unfold Wy.res at this;rw [Z0g hf] at this;exact this
 cases e1:l.contains (⟨i,true⟩:Wy)<;>cases e2:l.contains (⟨i,false⟩:Wy)<;>simp only [cond_true,cond_false]
 · omega
 · have:=h2 e2;omega
 · have:=h1 e1;omega
 · omega
theorem Zgp {m:Nat} {F:List Fl} {A:List Int} (h:Feas m F A) {l:List Wy} {n:Int} (hl:∀ w∈l,w.i<F.length∧n≤w.res F A) (hd:l.Nodup) (hn:0≤n) {b:Nat} (hc:chn F l b b):Feas m F (snd A l n) :=
 ⟨(Z9i l n A).trans h.len,Zei h.len h.bnd hl hd hn,fun c hcm=>by
   rw [Z96 h.len (fun w hw=>(hl w hw).1),h.bal c hcm,Z8S hc]
   rw [Int.sub_self,Int.mul_zero];rfl⟩
theorem ZaS:∀ {A:List Int} {i:Nat} {x:Int} {w:Nat→Int},i<A.length→Z0b w (A.set i (na A i+x))=Z0b w A+w i*x
 | a::A,0,x,w,_=>by
   show w 0*(a+x)+_=(w 0*a+_)+w 0*x
   rw [Int.mul_add];omega
 | a::A,i+1,x,w,h=>by
   have ih:=ZaS (A:=A) (i:=i) (x:=x) (w:=fun i=>w (i+1)) (by simpa using h)
   show w 0*a+Z0b (fun i=>w (i+1)) (A.set i (na A i+x))=(w 0*a+_)+w (i+1)*x
   rw [ih];omega
def wth (w:Nat→Int) (l:List Wy):Int:=(l.map fun v=>v.s*w v.i).sum
theorem ZaT {n:Int} {w:Nat→Int}:∀ {l:List Wy} {A:List Int},(∀ v∈l,v.i<A.length)→Z0b w (snd A l n)=Z0b w A+n*wth w l
 | [],A,_=>by show Z0b w A=_+n*0;omega
 | v::l,A,h=>by
   have ih:=ZaT (n:=n) (w:=w) (l:=l) (A:=A.set v.i (na A v.i+v.s*n)) (fun u hu=>by rw [List.length_set];exact h u (by simp [hu]))
   show Z0b w (snd (A.set v.i (na A v.i+v.s*n)) l n)=_
   rw [ih,ZaS (h v (by simp))]
   show _=Z0b w A+n*(v.s*w v.i+wth w l)
   rw [Int.mul_add,Int.mul_comm (w v.i),Int.mul_comm v.s n,Int.mul_assoc,Int.mul_comm v.s]
   have:n*(w v.i*v.s)=n*(v.s*w v.i):=by rw [Int.mul_comm (w v.i)]
   first | omega | (rw [Int.mul_comm v.s] ;omega)
def Wy.ok (n:Nat) (F:List Fl) (A:List Int) (w:Wy):Prop:=w.i<F.length∧1≤w.res F A∧w.fr F<n∧w.to F<n
def Wy.g (wt:Nat→Int) (w:Wy):Int:=w.s*wt w.i
structure BFs where
 p:Nat→Int
 by_:Nat→Wy
 rk:Nat→Nat
 tm:Nat→Nat
 now:Nat
def upd {α:Type} (f:Nat→α) (k:Nat) (v:α):Nat→α:=fun c=>if c=k then v else f c
theorem Z08 {α:Type} {f:Nat→α} {k:Nat} {v:α}:upd f k v k=v:=if_pos rfl
theorem ZZ {α:Type} {f:Nat→α} {k c:Nat} {v:α} (h:c≠k):upd f k v c=f c:=if_neg h
def BFs.put (F:List Fl) (wt:Nat→Int) (s:BFs) (r:Nat) (v:Wy):BFs:=⟨upd s.p (v.to F) (s.p (v.fr F)+v.g wt),upd s.by_ (v.to F) v,upd s.rk (v.to F) (r+1),upd s.tm (v.to F) (s.now+1),s.now+1⟩
def BFs.calm (n:Nat) (F:List Fl) (A:List Int) (wt:Nat→Int) (s:BFs) (c:Nat):Prop:=∀ v:Wy,v.ok n F A→v.fr F=c→s.p c+v.g wt≤s.p (v.to F)
structure BFI (n:Nat) (F:List Fl) (A:List Int) (wt:Nat→Int) (r c0:Nat) (s:BFs):Prop where
 way:∀ c,0<s.rk c→(s.by_ c).ok n F A∧(s.by_ c).to F=c
 rk_le:∀ c,s.rk c≤r+1
 tm_le:∀ c,s.tm c≤s.now
 back:∀ c,0<s.rk c→s.rk c≤s.rk ((s.by_ c).fr F)+1
 le:∀ c,0<s.rk c→s.p c≤s.p ((s.by_ c).fr F)+(s.by_ c).g wt
 lt:∀ c,0<s.rk c→s.tm c≤s.tm ((s.by_ c).fr F)→s.p c<s.p ((s.by_ c).fr F)+(s.by_ c).g wt
 calm1:∀ c,c<c0→s.rk c≤r→s.calm n F A wt c
 calm2:∀ c,c0≤c→s.rk c+1≤r→s.calm n F A wt c
theorem BFI.start {n:Nat} {F:List Fl} {A:List Int} {wt:Nat→Int} (b:Wy):BFI n F A wt 0 0 ⟨fun _=>0,fun _=>b,fun _=>0,fun _=>0,0⟩ :=
 ⟨fun _ h=>absurd h (Nat.lt_irrefl 0),fun _=>Nat.zero_le _,fun _=>Nat.le_refl 0,fun _ h=>absurd h (Nat.lt_irrefl 0),fun _ h=>absurd h (Nat.lt_irrefl 0),fun _ h=>absurd h (Nat.lt_irrefl 0),fun _ h=>absurd h (Nat.not_lt_zero _),fun _ _ h=>absurd h (by omega)⟩
theorem BFI.put {n:Nat} {F:List Fl} {A:List Int} {wt:Nat→Int} {r c0:Nat} {s:BFs} (h:BFI n F A wt r c0 s) {v:Wy} (hv:v.ok n F A) (hc:v.fr F=c0) (hs:v.fr F≠v.to F) (hg:s.p (v.to F)<s.p (v.fr F)+v.g wt):BFI n F A wt r c0 (s.put F wt r v):=by
 have hrk:r≤s.rk c0:=by
   rcases Nat.lt_or_ge (s.rk c0) r with h1 | h1
   · have:=h.calm2 c0 (Nat.le_refl _) (by omega) v hv hc
     rw [← hc] at this;omega
   · exact h1
 have hpge:∀ c,s.p c≤(s.put F wt r v).p c:=fun c=>by
   show s.p c≤upd s.p (v.to F) _ c
   by_cases e:c=v.to F
   · subst e;rw [Z08];omega
   · rw [ZZ e];exact Int.le_refl _
 have hrge:∀ c,s.rk c≤(s.put F wt r v).rk c:=fun c=>by
   show s.rk c≤upd s.rk (v.to F) _ c
   by_cases e:c=v.to F
   · subst e;rw [Z08];exact h.rk_le _
   · rw [ZZ e];exact Nat.le_refl _
 have hcalm:∀ c,c≠v.to F→s.calm n F A wt c→(s.put F wt r v).calm n F A wt c:=fun c e hcl u hu hf=>by
   have h1:=hcl u hu hf
   have h2:=hpge (u.to F)
   show upd s.p (v.to F) _ c+_≤_
   rw [ZZ e];omega
 refine ⟨fun c=>?_,fun c=>?_,fun c=>?_,fun c=>?_,fun c=>?_,fun c=>?_,fun c hcc hr=>?_,fun c hcc hr=>?_⟩
 · show 0<upd s.rk (v.to F) _ c→(upd s.by_ (v.to F) v c).ok n F A∧(upd s.by_ (v.to F) v c).to F=c
   by_cases e:c=v.to F
   · subst e;rw [Z08,Z08];exact fun _=>⟨hv,rfl⟩
   · rw [ZZ e,ZZ e];exact h.way c
 · show upd s.rk (v.to F) _ c≤_
   by_cases e:c=v.to F
   · subst e;rw [Z08];exact Nat.le_refl _
   · rw [ZZ e];exact h.rk_le c
 · show upd s.tm (v.to F) _ c≤s.now+1
   by_cases e:c=v.to F
   · subst e;rw [Z08];exact Nat.le_refl _
   · rw [ZZ e];have:=h.tm_le c;omega
 · show 0<upd s.rk (v.to F) _ c→upd s.rk (v.to F) _ c≤(s.put F wt r v).rk ((upd s.by_ (v.to F) v c).fr F)+1
   by_cases e:c=v.to F
   · subst e;rw [Z08,Z08]
     intro _
     have:=hrge (v.fr F)
     rw [hc] at this ⊢;omega
   · rw [ZZ e,ZZ e]
     intro h0
     have:=h.back c h0
     have:=hrge ((s.by_ c).fr F)
     omega
 · show 0<upd s.rk (v.to F) _ c→upd s.p (v.to F) _ c≤(s.put F wt r v).p ((upd s.by_ (v.to F) v c).fr F)+(upd s.by_ (v.to F) v c).g wt
   by_cases e:c=v.to F
   · subst e;rw [Z08,Z08,Z08]
     intro _
     have:=hpge (v.fr F);omega
   · rw [ZZ e,ZZ e,ZZ e]
     intro h0
     have:=h.le c h0
     have:=hpge ((s.by_ c).fr F)
     omega
 · show 0<upd s.rk (v.to F) _ c→upd s.tm (v.to F) _ c≤upd s.tm (v.to F) _ ((upd s.by_ (v.to F) v c).fr F)→upd s.p (v.to F) _ c<upd s.p (v.to F) _ ((upd s.by_ (v.to F) v c).fr F)+(upd s.by_ (v.to F) v c).g wt
   by_cases e:c=v.to F
   · subst e;rw [Z08,Z08,Z08,Z08,ZZ hs]
     intro _ h9
     have:=h.tm_le (v.fr F);omega
   · rw [ZZ e,ZZ e,ZZ e,ZZ e]
     intro h0
     by_cases e2:(s.by_ c).fr F=v.to F
     · rw [e2,Z08,Z08]
       intro _
       have:=h.le c h0
       rw [e2] at this;omega
     · rw [ZZ e2,ZZ e2];exact h.lt c h0
 · by_cases e:c=v.to F
   · subst e
     have h1:(s.put F wt r v).rk (v.to F)=r+1:=Z08
     omega
   · have h1:(s.put F wt r v).rk c=s.rk c:=ZZ e
     exact hcalm c e (h.calm1 c hcc (by omega))
 · by_cases e:c=v.to F
   · subst e
     have h1:(s.put F wt r v).rk (v.to F)=r+1:=Z08
     omega
   · have h1:(s.put F wt r v).rk c=s.rk c:=ZZ e
     exact hcalm c e (h.calm2 c hcc (by omega))
theorem BFI.next {n:Nat} {F:List Fl} {A:List Int} {wt:Nat→Int} {r c0:Nat} {s:BFs} (h:BFI n F A wt r c0 s) (hc:s.rk c0≤r→s.calm n F A wt c0):BFI n F A wt r (c0+1) s :=
 { h with
   calm1:=fun c hcc hr=>by
     by_cases e:c=c0
     · subst e;exact hc hr
     · exact h.calm1 c (by omega) hr
   calm2:=fun c hcc hr=>h.calm2 c (by omega) hr }
theorem BFI.round {n:Nat} {F:List Fl} {A:List Int} {wt:Nat→Int} {r:Nat} {s:BFs} (h:BFI n F A wt r n s):BFI n F A wt (r+1) 0 s :=
 { h with
   rk_le:=fun c=>Nat.le_succ_of_le (h.rk_le c)
   calm1:=fun c hcc=>absurd hcc (Nat.not_lt_zero _)
   calm2:=fun c _ hr v hv hf=>by
     have hcn:c<n:=by rw [← hf];exact hv.2.2.1
     exact h.calm1 c hcn (by omega) v hv hf }
theorem BFI.best {n:Nat} {F:List Fl} {A B:List Int} {wt:Nat→Int} {r:Nat} {s:BFs} (h:BFI n F A wt r n s) (hr:∀ c,c<n→s.rk c≤r) (hF:∀ f∈F,f.fr<n∧f.to<n) (hA:Feas n F A) (hB:Feas n F B):Z0b wt B≤Z0b wt A:=by
 have hcl:∀ v:Wy,v.ok n F A→s.p (v.fr F)+v.g wt≤s.p (v.to F):=fun v hv=>h.calm1 (v.fr F) hv.2.2.1 (hr _ hv.2.2.1) v hv rfl
 refine Znv hF hA hB (p:=s.p) (fun i f hf h1=>?_) (fun i f hf h1=>?_)
 · have hm:=hF f (List.mem_of_getElem? hf)
   have h2:=hcl ⟨i,true⟩ ⟨(List.getElem?_eq_some_iff.1 hf).1,by show 1≤(fl F i).hi-na A i;rw [Z0g hf];omega,by show (fl F i).fr<n;rw [Z0g hf];exact hm.1,by show (fl F i).to<n;rw [Z0g hf];exact hm.2⟩
   have h3:s.p (fl F i).fr+1*wt i≤s.p (fl F i).to:=h2
   rw [Z0g hf] at h3;omega
 · have hm:=hF f (List.mem_of_getElem? hf)
   have h2:=hcl ⟨i,false⟩ ⟨(List.getElem?_eq_some_iff.1 hf).1,by show 1≤na A i-(fl F i).lo;rw [Z0g hf];omega,by show (fl F i).to<n;rw [Z0g hf];exact hm.2,by show (fl F i).fr<n;rw [Z0g hf];exact hm.1⟩
   have h3:s.p (fl F i).to + -1*wt i≤s.p (fl F i).fr:=h2
   rw [Z0g hf] at h3;omega
def BFs.path (F:List Fl) (s:BFs):Nat→Nat→List Wy
 | 0,_=>[]
 | k+1,c=>s.by_ c::s.path F k ((s.by_ c).fr F)
def BFs.at_ (F:List Fl) (s:BFs):Nat→Nat→Nat
 | 0,c=>c
 | k+1,c=>s.at_ F k ((s.by_ c).fr F)
theorem BFI.chain {n:Nat} {F:List Fl} {A:List Int} {wt:Nat→Int} {r c0:Nat} {s:BFs} (h:BFI n F A wt r c0 s):∀ (k c:Nat),(∀ j,j<k→0<s.rk (s.at_ F j c))→chn F (s.path F k c) c (s.at_ F k c)
 | 0,c,_=>rfl
 | k+1,c,hk=>⟨(h.way c (hk 0 (by omega))).2,h.chain k _ (fun j hj=>hk (j+1) (by omega))⟩
theorem BFI.tele {n:Nat} {F:List Fl} {A:List Int} {wt:Nat→Int} {r c0:Nat} {s:BFs} (h:BFI n F A wt r c0 s):∀ (k c:Nat),(∀ j,j<k→0<s.rk (s.at_ F j c)) →
   s.p c≤s.p (s.at_ F k c)+wth wt (s.path F k c)∧(s.p c<s.p (s.at_ F k c)+wth wt (s.path F k c)∨s.tm (s.at_ F k c)+k≤s.tm c)
 | 0,c,_=>⟨by show s.p c≤s.p c+0;omega,.inr (Nat.le_refl _)⟩
 | k+1,c,hk=>by
   have h0:=hk 0 (by omega)
   have h0:0<s.rk c:=h0
   obtain ⟨i1,i2⟩:=h.tele k ((s.by_ c).fr F) (fun j hj=>hk (j+1) (by omega))
   have h1:=h.le c h0
   have e:wth wt (s.path F (k+1) c)=(s.by_ c).g wt+wth wt (s.path F k ((s.by_ c).fr F)):=rfl
   have e2:s.at_ F (k+1) c=s.at_ F k ((s.by_ c).fr F):=rfl
   rw [e,e2]
   refine ⟨by omega,?_⟩
   rcases Nat.lt_or_ge (s.tm ((s.by_ c).fr F)) (s.tm c) with h2 | h2
   · rcases i2 with i2 | i2
     · exact .inl (by omega)
     · exact .inr (by omega)
   · have:=h.lt c h0 h2
     exact .inl (by omega)
theorem BFI.gain {n:Nat} {F:List Fl} {A:List Int} {wt:Nat→Int} {r c0:Nat} {s:BFs} (h:BFI n F A wt r c0 s) {k c:Nat} (hk:∀ j,j<k→0<s.rk (s.at_ F j c)) (h1:0<k) (hc:s.at_ F k c=c):0<wth wt (s.path F k c):=by
 obtain ⟨h2,h3⟩:=h.tele k c hk
 rw [hc] at h2 h3
 rcases h3 with h3 | h3
 · omega
 · omega
theorem BFI.rank {n:Nat} {F:List Fl} {A:List Int} {wt:Nat→Int} {r c0:Nat} {s:BFs} (h:BFI n F A wt r c0 s):∀ (k c:Nat),k≤s.rk c→s.rk c≤s.rk (s.at_ F k c)+k
 | 0,c,_=>Nat.le_refl _
 | k+1,c,hk=>by
   have h0:=h.back c (by omega)
   have ih:=h.rank k ((s.by_ c).fr F) (by omega)
   show s.rk c≤s.rk (s.at_ F k ((s.by_ c).fr F))+(k+1)
   omega
theorem Z3u {α:Type} [DecidableEq α]:∀ {l m:List α},l.Nodup→(∀ x∈l,x∈m)→l.length≤m.length
 | [],m,_,_=>Nat.zero_le _
 | x::l,m,hn,hs=>by
   obtain ⟨h1,h2⟩:=List.nodup_cons.1 hn
   have ih:=Z3u (l:=l) (m:=m.erase x) h2 (fun y hy=>(List.mem_erase_of_ne (show y≠x from fun e=>h1 (by rw [← e];exact hy))).2 (hs y (by simp [hy])))
   rw [List.length_erase_of_mem (hs x (by simp))] at ih
   have:0<m.length:=List.length_pos_of_mem (hs x (by simp))
   rw [List.length_cons];omega
theorem pig {f:Nat→Nat} {n:Nat} (h:∀ i,i≤n→f i<n):∃ i j,i<j∧j≤n∧f i=f j:=by
 false_or_by_contra
 rename_i hno
 have hd:((List.range (n+1)).map f).Nodup:=by
   refine List.nodup_iff_pairwise_ne.2 (List.pairwise_map.2 ?_)
   refine List.pairwise_lt_range.imp_of_mem (fun {a b} ha hb hab e=>hno ⟨a,b,hab,by have:=List.mem_range.1 hb;omega,e⟩)
 have h1:=Z3u (m:=List.range n) hd (fun x hx=>by
   obtain ⟨i,hi,rfl⟩:=List.mem_map.1 hx
   exact List.mem_range.2 (h i (by have:=List.mem_range.1 hi;omega)))
 rw [List.length_map,List.length_range,List.length_range] at h1
 omega
theorem BFs.at_add (F:List Fl) (s:BFs):∀ (i j c:Nat),s.at_ F (i+j) c=s.at_ F j (s.at_ F i c)
 | 0,j,c=>by rw [Nat.zero_add];rfl
 | i+1,j,c=>by
   rw [show i+1+j=(i+j)+1 by omega]
   exact s.at_add F i j ((s.by_ c).fr F)
theorem BFI.circle {n:Nat} {F:List Fl} {A:List Int} {wt:Nat→Int} {r c0:Nat} {s:BFs} (h:BFI n F A wt r c0 s) {c:Nat} (hc:c<n) (hr:s.rk c=n) :
   ∃ k,0<k∧s.at_ F k (s.at_ F n c)=s.at_ F n c∧∀ m,0<s.rk (s.at_ F m c)∧s.at_ F m c<n:=by
 have hrk:∀ j,j<n→0<s.rk (s.at_ F j c):=fun j hj=>by
   have:=h.rank j c (by omega);omega
 have hlt:∀ j,j≤n→s.at_ F j c<n:=fun j hj=>by
   cases j with
   | zero=>exact hc
   | succ j =>
     rw [s.at_add F j 1 c]
     exact (h.way _ (hrk j (by omega))).1.2.2.1
 obtain ⟨i,j,hij,hjn,he⟩:=pig hlt
 have hper:∀ m,i≤m→s.at_ F (m+(j-i)) c=s.at_ F m c:=fun m hm=>by
   obtain ⟨d,rfl⟩:∃ d,m=i+d:=⟨m-i,by omega⟩
   rw [show i+d+(j-i)=j+d by omega,s.at_add,s.at_add,he]
 refine ⟨j-i,by omega,by rw [← s.at_add,hper n (by omega)],fun m=>?_⟩
 induction m using Nat.strongRecOn with
 | ind m ih =>
   by_cases hm:m<n
   · exact ⟨hrk m hm,hlt m (by omega)⟩
   · have h1:=hper (m-(j-i)) (by omega)
     rw [show m-(j-i)+(j-i)=m by omega] at h1
     rw [h1]
     exact ih _ (by omega)
theorem Zb5 {F:List Fl} {s:BFs} {c k:Nat} (h0:0<k) (hk:s.at_ F k c=c):∃ m,0<m∧m≤k∧s.at_ F m c=c∧∀ j,0<j→j<m→s.at_ F j c≠c:=by
 induction k using Nat.strongRecOn with
 | ind k ih =>
   by_cases h:∃ j,0<j∧j<k∧s.at_ F j c=c
   · obtain ⟨j,h1,h2,h3⟩:=h
     obtain ⟨m,m1,m2,m3⟩:=ih j h2 h1 h3
     exact ⟨m,m1,by omega,m3⟩
   · exact ⟨k,h0,Nat.le_refl _,hk,fun j h1 h2 h3=>h ⟨j,h1,h2,h3⟩⟩
theorem Z76 {n:Nat} {F:List Fl} {A:List Int} {wt:Nat→Int} {r c0:Nat} {s:BFs} (h:BFI n F A wt r c0 s):∀ (k c:Nat),(∀ j,j<k→0<s.rk (s.at_ F j c))→∀ i w,(s.path F k c)[i]?=some w→i<k∧w.to F=s.at_ F i c∧w.ok n F A
 | 0,c,_,i,w,hw=>by cases hw
 | k+1,c,hk,0,w,hw=>by
   have hw:some (s.by_ c)=some w:=hw
   cases hw
   have:=h.way c (hk 0 (by omega))
   exact ⟨by omega,this.2,this.1⟩
 | k+1,c,hk,i+1,w,hw=>by
   have ih:=Z76 h k ((s.by_ c).fr F) (fun j hj=>hk (j+1) (by omega)) i w hw
   exact ⟨by omega,ih.2.1,ih.2.2⟩
theorem Zay (F:List Fl) (s:BFs):∀ (k c:Nat),(s.path F k c).length=k
 | 0,_=>rfl
 | k+1,c=>by show (s.path F k _).length+1=_;rw [Zay F s k]
theorem ZbE {F:List Fl} {s:BFs} {c m:Nat} (hm:s.at_ F m c=c) (hf:∀ j,0<j→j<m→s.at_ F j c≠c) {a b:Nat} (hab:a<b) (hb:b<m):s.at_ F a c≠s.at_ F b c:=fun e=>by
 have h1:s.at_ F (a+(m-b)) c=c:=by rw [s.at_add,e,← s.at_add,show b+(m-b)=m by omega,hm]
 exact hf (a+(m-b)) (by omega) (by omega) h1
theorem Zjs {n:Nat} {F:List Fl} {A:List Int} {wt:Nat→Int} {r c0:Nat} {s:BFs} (h:BFI n F A wt r c0 s) {m c:Nat} (hk:∀ j,j<m→0<s.rk (s.at_ F j c)) (hm:s.at_ F m c=c) (hf:∀ j,0<j→j<m→s.at_ F j c≠c):(s.path F m c).Nodup:=by
 refine List.nodup_iff_pairwise_ne.2 (List.pairwise_iff_getElem.2 fun i j hi hj hij e=>?_)
 obtain ⟨i1,i2,_⟩:=Z76 h m c hk i _ (List.getElem?_eq_getElem hi)
 obtain ⟨j1,j2,_⟩:=Z76 h m c hk j _ (List.getElem?_eq_getElem hj)
 exact ZbE hm hf hij j1 (by rw [← i2,← j2,e])
theorem Zi2 {n:Nat} {F:List Fl} {s:BFs} {c m:Nat} (hn:∀ j,s.at_ F j c<n) (hm:s.at_ F m c=c) (hf:∀ j,0<j→j<m→s.at_ F j c≠c):m≤n:=by
 have hd:((List.range m).map fun j=>s.at_ F j c).Nodup:=by
   refine List.nodup_iff_pairwise_ne.2 (List.pairwise_map.2 ?_)
   exact List.pairwise_lt_range.imp_of_mem (fun {a b} ha hb hab=>ZbE hm hf hab (List.mem_range.1 hb))
 have h1:=Z3u (m:=List.range n) hd (fun x hx=>by
   obtain ⟨i,_,rfl⟩:=List.mem_map.1 hx
   exact List.mem_range.2 (hn i))
 rwa [List.length_map,List.length_range,List.length_range] at h1
theorem BFI.found {n:Nat} {F:List Fl} {A:List Int} {wt:Nat→Int} {r c0:Nat} {s:BFs} (h:BFI n F A wt r c0 s) {c:Nat} (hc:c<n) (hr:s.rk c=n):∃ m,0<m∧m≤n∧s.at_ F m (s.at_ F n c)=s.at_ F n c∧(∀ j,0<j→j<m→s.at_ F j (s.at_ F n c)≠s.at_ F n c) ∧
   0<wth wt (s.path F m (s.at_ F n c))∧(s.path F m (s.at_ F n c)).Nodup∧chn F (s.path F m (s.at_ F n c)) (s.at_ F n c) (s.at_ F n c)∧∀ w∈s.path F m (s.at_ F n c),w.ok n F A:=by
 obtain ⟨k,h1,h2,h3⟩:=h.circle hc hr
 obtain ⟨m,m1,_,m2,m3⟩:=Zb5 h1 h2
 have hk:∀ j,j<m→0<s.rk (s.at_ F j (s.at_ F n c)):=fun j _=>by rw [← s.at_add];exact (h3 _).1
 have hch:=h.chain m (s.at_ F n c) hk
 rw [m2] at hch
 exact ⟨m,m1,Zi2 (fun j=>by rw [← s.at_add];exact (h3 _).2) m2 m3,m2,m3,h.gain hk m1 m2,Zjs h hk m2 m3,hch,fun w hw=>by
   obtain ⟨i,hi⟩:=List.mem_iff_getElem?.1 hw
   exact (Z76 h m _ hk i w hi).2.2⟩
def dom (F:List Fl) (from_:Nat) (R:List Wy):List Nat:=R.map (·.to F)++[from_]
def Tr (n:Nat) (F:List Fl) (A:List Int) (from_:Nat):List Wy→Prop
 | []=>True
 | w::R=>w.ok n F A∧w.to F∉dom F from_ R∧w.fr F∈dom F from_ R∧Tr n F A from_ R
def Z0R (F:List Fl):List Wy→Nat→List Wy
 | [],_=>[]
 | w::R,c=>bif decide (w.to F=c) then w::Z0R F R (w.fr F) else Z0R F R c
theorem dom_cons {F:List Fl} {from_:Nat} {w:Wy} {R:List Wy} {c:Nat}:c∈dom F from_ (w::R)↔c=w.to F∨c∈dom F from_ R:=by
 unfold dom;rw [List.map_cons,List.cons_append,List.mem_cons]
theorem ZfF {F:List Fl} {from_:Nat} {R:List Wy}:from_∈dom F from_ R:=by unfold dom;simp
theorem dom_mem {F:List Fl} {from_:Nat} {R:List Wy} {c:Nat}:c∈dom F from_ R↔c=from_∨∃ w∈R,w.to F=c:=by
 unfold dom
 rw [List.mem_append,List.mem_map,List.mem_singleton]
 exact or_comm
theorem Tr.ok {n:Nat} {F:List Fl} {A:List Int} {from_:Nat}:∀ {R:List Wy},Tr n F A from_ R→∀ w∈R,w.ok n F A∧w.fr F∈dom F from_ R
 | v::R,⟨h1,_,h3,h4⟩,w,hw=>by
   rcases List.mem_cons.1 hw with rfl | hw
   · exact ⟨h1,dom_cons.2 (.inr h3)⟩
   · have:=Tr.ok h4 w hw
     exact ⟨this.1,dom_cons.2 (.inr this.2)⟩
theorem Tr.chain {n:Nat} {F:List Fl} {A:List Int} {from_:Nat}:∀ {R:List Wy},Tr n F A from_ R→∀ {c},c∈dom F from_ R→chn F (Z0R F R c) c from_
 | [],_,c,hc=>by
   have hc:c∈[from_]:=hc
   exact List.mem_singleton.1 hc
 | w::R,⟨_,_,h3,h4⟩,c,hc=>by
   unfold Z0R
   by_cases e:w.to F=c
   · rw [decide_eq_true e,cond_true]
     exact ⟨e,Tr.chain h4 h3⟩
   · rw [decide_eq_false e,cond_false]
     exact Tr.chain h4 ((dom_cons.1 hc).resolve_left (fun e2=>e e2.symm))
theorem Z3G {F:List Fl}:∀ {R:List Wy} {c:Nat},(Z0R F R c).Sublist R
 | [],_=>.slnil
 | w::R,c=>by
   unfold Z0R
   by_cases e:w.to F=c
   · rw [decide_eq_true e,cond_true];exact .cons_cons _ Z3G
   · rw [decide_eq_false e,cond_false];exact .cons _ Z3G
theorem Tr.nd {n:Nat} {F:List Fl} {A:List Int} {from_:Nat}:∀ {R:List Wy},Tr n F A from_ R→R.Nodup
 | [],_=>List.nodup_nil
 | w::R,⟨_,h2,_,h4⟩=>List.nodup_cons.2 ⟨fun hw=>h2 (dom_mem.2 (.inr ⟨w,hw,rfl⟩)),Tr.nd h4⟩
theorem Z3F {F:List Fl} {w:Wy} {R:List Wy} {c:Nat} (h:w.to F≠c):Z0R F (w::R) c=Z0R F R c:=by
 rw [Z0R,decide_eq_false h,cond_false]
theorem Tr.step {n:Nat} {F:List Fl} {A:List Int} {from_:Nat}:∀ {R:List Wy},Tr n F A from_ R→∀ {c},c∈dom F from_ R→c≠from_→∃ w∈R,w.to F=c∧Z0R F R c=w::Z0R F R (w.fr F)
 | [],_,c,hc,hn=>absurd (List.mem_singleton.1 (show c∈[from_] from hc)) hn
 | w::R,⟨h1,h2,h3,h4⟩,c,hc,hn=>by
   by_cases e:w.to F=c
   · refine ⟨w,by simp,e,?_⟩
     rw [Z3F (c:=w.fr F) (fun e2=>h2 (e2▸h3)),Z0R,decide_eq_true e,cond_true]
   · obtain ⟨v,hv,e1,e2⟩:=Tr.step h4 ((dom_cons.1 hc).resolve_left (fun e2=>e e2.symm)) hn
     refine ⟨v,by simp [hv],e1,?_⟩
     have h5:=(Tr.ok h4 v hv).2
     rw [Z3F e,Z3F (c:=v.fr F) (fun e3=>h2 (e3▸h5)),e2]
theorem Tr.uniq {n:Nat} {F:List Fl} {A:List Int} {from_:Nat}:∀ {R:List Wy},Tr n F A from_ R→∀ {v w:Wy},v∈R→w∈R→v.to F=w.to F→v=w
 | u::R,⟨_,h2,_,h4⟩,v,w,hv,hw,e=>by
   rcases List.mem_cons.1 hv with h5 | h5
   · rcases List.mem_cons.1 hw with h6 | h6
     · rw [h5,h6]
     · exact absurd (show u.to F∈dom F from_ R from dom_mem.2 (.inr ⟨w,h6,by rw [← e,h5]⟩)) h2
   · rcases List.mem_cons.1 hw with h6 | h6
     · exact absurd (show u.to F∈dom F from_ R from dom_mem.2 (.inr ⟨v,h5,by rw [e,h6]⟩)) h2
     · exact Tr.uniq h4 h5 h6 e
theorem ZaL {g:Nat→Int} {n k:Nat} (h:∀ c,c<n→0≤g c) (hk:k<n) (hp:0<g k):0<Z3f g n:=by
 have key:∀ m,m≤n→0≤Z3f g m∧(k<m→0<Z3f g m):=fun m=>by
   induction m with
   | zero=>exact fun _=>⟨Int.le_refl 0,fun h=>absurd h (Nat.not_lt_zero _)⟩
   | succ m ih =>
     intro hm
     obtain ⟨i1,i2⟩:=ih (by omega)
     have hg:=h m (by omega)
     refine ⟨by unfold Z3f;omega,fun hkm=>?_⟩
     unfold Z3f
     by_cases e:k=m
     · subst e;omega
     · have:=i2 (by omega);omega
 exact (key n (Nat.le_refl _)).2 hk
theorem Tr.stuck {n:Nat} {F:List Fl} {A B:List Int} {from_:Nat} {R:List Wy} (hF:∀ f∈F,f.fr<n∧f.to<n) (hlen:A.length=F.length) (hfn:from_<n) (hcl:∀ v:Wy,v.ok n F A→v.fr F∈dom F from_ R→v.to F∈dom F from_ R)
   (hpos:0<ovr F A from_) (hno:∀ c,c<n→c∈dom F from_ R→0≤ovr F A c) (hB:Feas n F B):False:=by
 refine Zbl hF hlen (S:=fun c=>decide (c∈dom F from_ R)) (fun i f hf h1 h2=>?_) (fun i f hf h1 h2=>?_) ?_ hB
 · have hm:=hF f (List.mem_of_getElem? hf)
   have h1:=of_decide_eq_true h1
   have h2:=of_decide_eq_false h2
   rcases Int.lt_or_le f.lo (na A i) with h3 | h3
   · refine absurd (hcl ⟨i,false⟩ ⟨(List.getElem?_eq_some_iff.1 hf).1,by show 1≤na A i-(fl F i).lo;rw [Z0g hf];omega,by show (fl F i).to<n;rw [Z0g hf];exact hm.2,by show (fl F i).fr<n;rw [Z0g hf];exact hm.1⟩ (by show (fl F i).to∈_;rw [Z0g hf];exact h1)) ?_
     show ¬ (fl F i).fr∈_
     rw [Z0g hf];exact h2
   · exact h3
 · have hm:=hF f (List.mem_of_getElem? hf)
   have h1:=of_decide_eq_false h1
   have h2:=of_decide_eq_true h2
   rcases Int.lt_or_le (na A i) f.hi with h3 | h3
   · refine absurd (hcl ⟨i,true⟩ ⟨(List.getElem?_eq_some_iff.1 hf).1,by show 1≤(fl F i).hi-na A i;rw [Z0g hf];omega,by show (fl F i).fr<n;rw [Z0g hf];exact hm.1,by show (fl F i).to<n;rw [Z0g hf];exact hm.2⟩ (by show (fl F i).fr∈_;rw [Z0g hf];exact h2)) ?_
     show ¬ (fl F i).to∈_
     rw [Z0g hf];exact h1
   · exact h3
 · refine ZaL (fun c hc=>?_) hfn ?_
   · cases e:decide (c∈dom F from_ R) with
     | true=>simp only [e,cond_true];have:=hno c hc (of_decide_eq_true e);omega
     | false=>simp only [e,cond_false];omega
   · simp only [decide_eq_true (ZfF (F:=F) (from_:=from_) (R:=R)),cond_true];omega
def tot (n:Nat) (F:List Fl) (A:List Int):Int:=Z3f (fun c=>max (ovr F A c) 0) n
theorem Zes {g h:Nat→Int}:∀ n,(∀ c,c<n→g c≤h c)→Z3f g n≤Z3f h n
 | 0,_=>Int.le_refl 0
 | n+1,hh=>by unfold Z3f;have:=Zes n (fun c hc=>hh c (by omega));have:=hh n (by omega);omega
theorem Zet {g h:Nat→Int} {n k:Nat} (hh:∀ c,c<n→g c≤h c) (hk:k<n) (hl:g k<h k):Z3f g n<Z3f h n:=by
 have:=ZaL (g:=fun c=>h c-g c) (fun c hc=>by have:=hh c hc;omega) hk (by omega)
 rw [Z7n] at this;omega
theorem ZnQ (n:Nat) (F:List Fl) (A:List Int):0≤tot n F A:=by
 have:=Zes (g:=fun _=>0) (h:=fun c=>max (ovr F A c) 0) n (fun c _=>by omega)
 rw [Z1e n (fun _ _=>rfl)] at this;exact this
theorem ZdW {n:Nat} {F:List Fl} {A:List Int} (hF:∀ f∈F,f.fr<n∧f.to<n):Z3f (fun c=>ovr F A c) n=0:=by
 have h:=ZaA (fun _=>1) (A:=A) hF
 have e:(fun c=>(1:Int)*ovr F A c)=fun c=>ovr F A c:=funext fun c=>Int.one_mul _
 rw [e] at h
 rw [h]
 have:∀ (F:List Fl) (A:List Int),pot (fun _=>1) F A=0:=fun F=>by
   induction F with
   | nil=>exact fun A=>rfl
   | cons f F ih =>
     intro A
     cases A with
     | nil=>rfl
     | cons a A=>show ((1:Int)-1)*a+pot (fun _=>1) F A=0;rw [ih A];omega
 exact this F A
theorem ZiP {n:Nat} {F:List Fl} {A:List Int} (hF:∀ f∈F,f.fr<n∧f.to<n) (hlen:A.length=F.length) (hb:∀ i f,F[i]?=some f→f.lo≤na A i∧na A i≤f.hi) (h:∀ c,c<n→ovr F A c≤0):Feas n F A :=
 ⟨hlen,hb,fun c hc=>by
   have h0:=ZdW (A:=A) hF
   rcases Int.lt_or_le (ovr F A c) 0 with h1 | h1
   · have:=Zet (g:=fun c=>ovr F A c) (h:=fun _=>0) h hc h1
     rw [Z1e n (fun _ _=>rfl)] at this;omega
   · have:=h c hc;omega⟩
theorem Tr.send {n:Nat} {F:List Fl} {A:List Int} {from_ to_:Nat} {R:List Wy} {k:Int} (hlen:A.length=F.length) (hb:∀ i f,F[i]?=some f→f.lo≤na A i∧na A i≤f.hi) (h:Tr n F A from_ R) (hfn:from_<n) (hto:to_∈dom F from_ R)
   (hk:1≤k) (h1:k≤ovr F A from_) (h2:k ≤ -ovr F A to_) (hl:∀ w∈Z0R F R to_,k≤w.res F A) :
   (snd A (Z0R F R to_) k).length=F.length∧(∀ i f,F[i]?=some f→f.lo≤na (snd A (Z0R F R to_) k) i∧na (snd A (Z0R F R to_) k) i≤f.hi)∧tot n F (snd A (Z0R F R to_) k)<tot n F A:=by
 have hsub:=Z3G (F:=F) (R:=R) (c:=to_)
 have hok:∀ w∈Z0R F R to_,w.i<F.length:=fun w hw=>(h.ok w (hsub.subset hw)).1.1
 have hov:∀ c,ovr F (snd A (Z0R F R to_) k) c=ovr F A c+k*((bif decide (to_=c) then 1 else 0)-(bif decide (from_=c) then 1 else 0)):=fun c=>by
   rw [Z96 hlen hok,Z8S (h.chain hto)]
 refine ⟨(Z9i _ _ A).trans hlen,Zei hlen hb (fun w hw=>⟨hok w hw,hl w hw⟩) (h.nd.sublist hsub) (by omega),Zet (fun c _=>?_) hfn ?_⟩
 · rw [hov c]
   by_cases e1:to_=c
   · subst e1
     rw [decide_eq_true rfl,cond_true]
     cases decide (from_=to_)<;>simp only [cond_true,cond_false]<;>omega
   · rw [decide_eq_false e1,cond_false]
     cases decide (from_=c)<;>simp only [cond_true,cond_false]<;>omega
 · rw [hov from_]
   have e1:to_≠from_:=fun e=>by rw [e] at h2;omega
   rw [decide_eq_false e1,decide_eq_true rfl]
   simp only [cond_true,cond_false]
   omega
theorem Zeu {g:Nat→Int} {n k:Nat} (hk:k<n) (h:∀ c,c<n→c≠k→g c=0):Z3f g n=g k:=by
 have key:∀ m,m≤n→Z3f g m=if k<m then g k else 0:=fun m=>by
   induction m with
   | zero=>exact fun _=>rfl
   | succ m ih =>
     intro hm
     unfold Z3f
     rw [ih (by omega)]
     by_cases e:k=m
     · subst e;rw [if_neg (Nat.lt_irrefl _),if_pos (Nat.lt_succ_self _)];omega
     · rw [h m (by omega) (fun e2=>e e2.symm)]
       by_cases e3:k<m
       · rw [if_pos e3,if_pos (by omega)];omega
       · rw [if_neg e3,if_neg (by omega)];rfl
 rw [key n (Nat.le_refl _),if_pos hk]
theorem Z74 {c:Nat}:∀ {F G:List Fl} {A B:List Int},A.length=F.length→ovr (F++G) (A++B) c=ovr F A c+ovr G B c
 | [],G,[],B,_=>by show ovr G B c=0+_;omega
 | f::F,G,a::A,B,h=>by
   show _+ovr (F++G) (A++B) c=(_+ovr F A c)+_
   rw [Z74 (by simpa using h)];omega
end Go.Proofs.YtcfdanhklbklkaaGreat.Sk
