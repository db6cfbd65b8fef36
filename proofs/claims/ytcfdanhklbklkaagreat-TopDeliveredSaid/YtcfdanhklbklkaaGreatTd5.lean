/- Walks of the functions of the program, and the laws that join them: what the last theorem of this claim needs, in order. -/
import Derived.Test.YtcfdanhklbklkaaGreatTd4
namespace Go.Proofs.YtcfdanhklbklkaaGreat.Wv
set_option linter.unusedSimpArgs false
set_option linter.unusedVariables false
open Go
theorem Z12:Z0W Tryz.prog 324=some 2:=by kernel_rfl
theorem ZS:Z0W Tryz.prog 326=some 3:=by kernel_rfl
theorem Z9L:cal Tryz.prog 216=true:=by kernel_rfl
theorem ZgY:cal Tryz.prog 217=true:=by kernel_rfl
theorem Z9M:cal Tryz.prog 218=true:=by kernel_rfl
theorem Zmo:cal Tryz.prog 262=true:=by kernel_rfl
theorem Z8R:Zz Tryz.prog 324=some 2:=by kernel_rfl
theorem Z0Y:Zz Tryz.prog 326=some 3:=by kernel_rfl
theorem Z18:eqB Tryz.prog 10000 324=some (true,2):=by kernel_rfl
theorem ZcX:ZG Tryz.prog 322 1=some 1:=by kernel_rfl
theorem ZcY:ZG Tryz.prog 322 2=some 2:=by kernel_rfl
theorem Z0n:ZG Tryz.prog 322 3=some 3:=by kernel_rfl
theorem Z1v:ZG Tryz.prog 326 0=some 0:=by kernel_rfl
theorem ZcZ:ZG Tryz.prog 326 2=some 2:=by kernel_rfl
theorem Z1a:Z0O Tryz.prog 320=some (324,326):=by kernel_rfl
theorem Z1b:Z38 Tryz.prog 10000 324=true:=by kernel_rfl
theorem Z99:ZD Tryz.prog 324=some [(0,1),(1,1)]:=by kernel_rfl
theorem ZdX:ZD Tryz.prog 326=some [(0,1),(1,1),(2,1)]:=by kernel_rfl
theorem Z2U:Z0c Tryz.prog 320=true:=by kernel_rfl
theorem Z4v:Zp Tryz.prog 324=some ([.int .i64 0,.int .i64 0]):=by kernel_rfl
theorem Z5D:Zp Tryz.prog 326=some ([.int .i64 0,.int .i64 0,.bool false]):=by kernel_rfl
theorem Zqe:zvl Tryz.prog 326=some (.agg #[.int .i64 0,.int .i64 0,.bool false]):=by kernel_rfl
def svv (n l:Nat) (b:Bool):Value:=.agg #[.int .i64 (n:Int),.int .i64 (l:Int),.bool b]
def svl (n l:Nat) (b:Bool):List Value:=[.int .i64 (n:Int),.int .i64 (l:Int),.bool b]
theorem Zh8 {n s:Nat} (h:s<2 ^ n):∀ j,cnt (n+j) s=cnt n s
 | 0=>rfl
 | j+1=>by
   have ih:=Zh8 h j
   unfold cnt at ih ⊢
   rw [← Nat.add_assoc,List.range_succ,List.countP_append,ih,List.countP_cons,List.countP_nil,Zi8 h (show n≤n+j by omega)];rfl
theorem Zan {n s:Nat} (h:s<2 ^ n) (hn:n≤10):(Z3s s).length=cnt n s:=by
 rw [← Zh8 h (10-n),show n+(10-n)=10 by omega]
 unfold Z3s cnt
 rw [List.length_map,List.countP_eq_length_filter]
def Memo (gs:List Gp) (K sp:Nat) (kv:KV):Prop:=∀ e∈kv,∃ (m c n l:Nat) (b:Bool),e=([(m:Int),(c:Int)],svv n l b)∧Z5E gs K sp m c n l b
theorem Memo.len {gs:List Gp} {K sp:Nat} {kv:KV} (h:Memo gs K sp kv):∀ e∈kv,e.1.length=2:=fun e he=>by
 obtain ⟨m,c,n,l,b,rfl,_⟩:=h e he;rfl
theorem Memo.nil (gs:List Gp) (K sp:Nat):Memo gs K sp []:=fun e he=>by cases he
theorem Memo.get {gs:List Gp} {K sp:Nat} {kv:KV} (h:Memo gs K sp kv) {m c:Nat} {v:Value} (hg:kv.get [(m:Int),(c:Int)]=some v):∃ (n l:Nat) (b:Bool),v=svv n l b∧Z5E gs K sp m c n l b:=by
 unfold KV.get at hg
 obtain ⟨e,he,rfl⟩:=Option.map_eq_some_iff.1 hg
 obtain ⟨m',c',n,l,b,rfl,hb⟩:=h e (List.mem_of_find?_eq_some he)
 have hk:=List.find?_some he
 simp only [decide_eq_true_eq,List.cons.injEq,and_true] at hk
 obtain rfl:m'=m:=by omega
 obtain rfl:c'=c:=by omega
 exact ⟨n,l,b,rfl,hb⟩
theorem Memo.put {gs:List Gp} {K sp:Nat} {kv:KV} (h:Memo gs K sp kv) {m c n l:Nat} {b:Bool} (hb:Z5E gs K sp m c n l b):Memo gs K sp (kv.put [(m:Int),(c:Int)] (svv n l b)):=fun e he=>by
 rcases KV.put_mem he with rfl | h1
 · exact ⟨m,c,n,l,b,rfl,hb⟩
 · exact h e h1
def Zok (r:Rc) (m c:Nat) (H:Z6) (R:Z5):Value→Z6→Z5→Prop:=fun v H' R'=>∃ (n l:Nat) (b:Bool) (kv':KV),v=svv n l b∧Z5E r.d.h.gaps r.K r.sp m c n l b∧Memo r.d.h.gaps r.K r.sp kv'∧H'=(r.mm,ZJ true kv')::H∧R'=R
theorem ZdS {a b:Nat} (ha:a<2 ^ 10) (hb:b<2 ^ 10):a|||b<2 ^ 10:=Nat.or_lt_two_pow ha hb
theorem Zhq {a n:Nat} (h:a<2 ^ n) (hn:n≤10):a<2 ^ 62:=Nat.lt_of_lt_of_le h (Nat.pow_le_pow_right (by decide) (by omega))
theorem Zho {gs:List Gp} {K sp:Nat} {H:Z6} {R:Z5} {kv:KV} (hme:Memo gs K sp kv) {m c n l mm:Nat} {b s:Bool} (hgd:(kv.get [(m:Int),(c:Int)]).getD (svv 0 0 false)=svv n l b) (hgs:(kv.get [(m:Int),(c:Int)]).isSome=s) [hM:Mem1 mm (ZJ true kv) H] :
   ∀ w,St H R w→Lkp Tryz.prog 320 (.map (some mm)) (mkv true [(m:Int),(c:Int)]) true (.tuple #[svv n l b,.bool s]) w:=fun w hw=>by
 have h:=Z19 (b:=true) (m:=mm) (H:=H) (R:=R) kv [(m:Int),(c:Int)] Z1a (KeyT.of Z18 Z1b) (ZQ Zqe) rfl hme.len true w hw
 rw [hgs] at h
 rw [← hgd]
 exact h
def Zol (r:Rc) (q:Nat):Prop:=∀ (m c:Nat) (kv:KV) (H:Z6) (R:Z5) [hD:MemRows (some ⟨r.d.bd,0,none⟩) 4 [r.d.row] R] [hG:MemRows r.d.ag 2 (grows r.d.h.gaps) R] [hS:MemRows r.d.as_ 3 (srows r.d.h.sights) R] [sR:SubF r.d.R0 R] [hX:MemRows (some ⟨r.br,0,none⟩) 4 [r.row] R],m<2 ^ 7→c<2 ^ 10→128≤m+q→Memo r.d.h.gaps r.K r.sp kv→Fn Tryz.prog 216 [.pointer (some ⟨r.br,0,none⟩),.agg (plc m c).toArray] ((r.mm,ZJ true kv)::H) R (Zok r m c H R)
set_option maxHeartbeats 1000000 in
theorem Z4T (r:Rc) (hd:r.d.Ok) (hK:r.K<2 ^ 7) (hsp:r.sp≤1000) (q:Nat) (ih:∀ q9,q=q9+1→Zol r q9) :
    Zol r q:=by
 intro m c kv H R hD hG hS sR hX hm hc hq hme
 refine Zc Tryz.func216 rfl Tryz.ntmps216 rfl ?_
 refine sqt 2 rfl (bx rfl rfl rfl (fun b3=>alc rfl Z5D rfl (fun b4=>Z0 (Z0 ?_))))
 refine Za [0,1,3,7,0,31,63,127,127,0,767,2047] (tks 0 3 (.ld 3 (.ld 4 (.ld 5 (tks 6 3 (.big 9 (.big 10 (.tk 11 .done)))))))) Zl (by kernel_rfl) ?_
 have hok:=hd.ok
 have hgl:=hok.gl
 have hbn:=hok.bins
 have hw7:Wth r.d.h.gaps 7:=fun g hg=>by have:=hok.gaps g hg;omega
 have h27:(2:Nat) ^ 7=128:=rfl
 obtain ⟨q9,rfl⟩:∃ q9,q=q9+1:=⟨q-1,by omega⟩
 obtain ⟨n0,l0,lb0,s0,hgd,hgs,hb0⟩:∃ (n0 l0:Nat) (lb0 s0:Bool),(kv.get [(m:Int),(c:Int)]).getD (svv 0 0 false)=svv n0 l0 lb0∧(kv.get [(m:Int),(c:Int)]).isSome=s0∧(s0=true→Z5E r.d.h.gaps r.K r.sp m c n0 l0 lb0):=by
   cases hg9:kv.get [(m:Int),(c:Int)] with
   | none=>exact ⟨0,0,false,false,rfl,rfl,fun h=>by cases h⟩
   | some sv=>obtain ⟨n1,l1,b1,rfl,hb⟩:=hme.get hg9;exact ⟨n1,l1,b1,true,rfl,rfl,fun _=>hb⟩
 refine Zg 1 rfl (tk rfl (PE.nilCheck rfl) rfl (tk rfl (PE.fA Z0n rfl) rfl (ld rfl rfl (lfB (sz:=4) Z2U rfl) rfl (ld rfl rfl (lhA (plc m c) Z12 rfl rfl rfl) rfl ?_))))
 refine ldK rfl rfl rfl ((Zho hme hgd hgs)) rfl ?_
 refine Zg 3 rfl (alc rfl Z5D rfl (fun b5=>?_))
 refine bg (fun w hs=>⟨((Zho hme hgd hgs)) w hs,(lhA (plc m c) Z12 rfl rfl rfl) w hs,(lfB (sz:=4) Z2U rfl) w hs,trivial⟩) ?_
 refine Zy (l':=svl (n0) (l0) (lb0)) rfl rfl rfl Z0Y rfl rfl rfl rfl (nl rfl) ?_
 refine bgT (Zg 1 rfl (sqt 1 rfl (pur 1 rfl ?_)))
 refine Z1 rfl ?_ ?_<;>intro hc0
 refine sqt 2 rfl (spL rfl rfl (lhA (svl (n0) (l0) (lb0)) ZS rfl rfl rfl) rfl ?_)
 refine Zy (l':=svl (n0) (l0) (lb0)) rfl rfl rfl Z0Y rfl rfl rfl rfl (nl rfl) ?_
 refine Z4 ?_
 exact Z9 (vs:=[_]) rfl (.cons (RV.cell rfl (lhA (svl (n0) (l0) (lb0)) ZS rfl rfl rfl)) .nil) rfl ⟨n0,l0,lb0,kv,rfl,hb0 hc0,hme,rfl,rfl⟩ (fun w h=>((h.del b5).del b4).del b3)
 clear hb0 hc0
 refine Z3 (sqt 3 rfl (sp rfl (PE.build (out:=[_,_,_]) ZdX Z5D rfl rfl) rfl (alc rfl Z5D rfl (fun b7=>?_))))
 refine Zy (l':=svl (11) (0) (true)) rfl rfl rfl Z0Y rfl rfl rfl rfl (nl rfl) ?_
 refine sqt 4 rfl (pur 1 rfl (spL rfl rfl (lhA (plc m c) Z12 rfl rfl rfl) rfl ?_))
 refine clV rfl Zmo rfl rfl (Zfo r hd m c hm hc _ _) ?_
 refine pur 1 rfl (Z0 (sqt 2 rfl (pur 2 rfl (Z2 ?_))))
 refine Zd (ι:={x:Nat×Nat×Nat×Bool×KV // x.1&&&(Z0l r.d.h.gaps m c)=x.1∧BI r.d.h.gaps r.K r.sp m c x.1 x.2.1 x.2.2.1 x.2.2.2.1∧Memo r.d.h.gaps r.K r.sp x.2.2.2.2}) (fun x=>⟨[(0,.pointer (some ⟨r.br,0,none⟩)),(3,.pointer (some ⟨b3,0,none⟩)),(4,.pointer (some ⟨b4,0,none⟩)),(7,.pointer (some ⟨b7,0,none⟩)),(8,.int .i64 ((Z0l r.d.h.gaps m c):Nat)),(9,.int .i64 (x.1.1:Nat))],(b7,cel 326 (svl (x.1.2.1) (x.1.2.2.1) (x.1.2.2.2.1)))::(b4,cel 326 [.int .i64 0,.int .i64 0,.bool false])::(b3,cel 324 (plc m c))::(r.mm,ZJ true x.1.2.2.2.2)::H,R⟩) (fun x=>x.1.1) ⟨((Z0l r.d.h.gaps m c),11,0,true,kv),Nat.and_self _,BI.start _ _ _ _ _,hme⟩ ?_ (fun x=>?_)
 exact Zf (fun w h=>h.del b5)
 obtain ⟨⟨now,n,l,lost,kv1⟩,hsub,hbi,hme⟩:=x
 dsimp only at hsub hbi hme ⊢
 have hn11:=hbi.le
 have hnl:now<2 ^ r.d.h.gaps.length:=Nat.lt_of_le_of_lt (Zer hsub) (Z0a _ _ _)
 have hn10:now<2 ^ 10:=Nat.lt_of_lt_of_le hnl (Nat.pow_le_pow_right (by decide) hgl)
 have hc210:=ZdS hc hn10
 have hm2:(spr r.d.h.gaps (c|||now) m)<2 ^ 7:=ZaG r.d.h.gaps (c|||now) m▸Zep hw7 hm _
 have hcn:=Z7M r.d.h.gaps.length now
 have hn9:now<1024:=hn10
 have hsu:∀ i,now.testBit i=true→(Z0l r.d.h.gaps m c).testBit i=true:=fun i hi=>by
   have h9:((Z0l r.d.h.gaps m c)&&&now).testBit i=true:=by rw [Nat.and_comm,hsub];exact hi
   rw [Nat.testBit_and,Bool.and_eq_true] at h9;exact h9.1
 refine Z0 (Z2 (sqt 4 rfl (pur 1 rfl ?_)))
 refine cl rfl ZgY rfl rfl (ZgG now hn10 _ _) ?_
 rintro _ _ _ ⟨o,rfl,rfl,rfl⟩
 obtain ⟨ao,co,heo,hfz⟩:=o.freeze
 rw [heo,irl,Zan hnl hgl]
 refine Sy.heap (fun w h=>St.drop h) ?_
 clear hfz heo o
 refine sp rfl (PE.lenSl ZO rfl) rfl (pur 1 rfl (Z0 (Z0 ?_)))
 refine Za [0,0,2,0,8,0,56,126,255,0,512,0,3584,8191,0,32767] (.tk 0 (.tk 1 (.ld 2 (.tk 3 (.ld 4 (tks 5 3 (.tk 9 (.ld 10 (.tk 11 (.tk 12 (.any (.alt 8 (.tk 13 (.big 14 (.big 15 .done))) (.alt 14 (.big 8 (.tk 13 (.big 15 .done))) .stop))))))))))))) Zl (by kernel_rfl) ?_
 refine Zg 1 rfl (tk rfl (PE.fA Z03 rfl) rfl (ld rfl rfl (lh sc3 rfl rfl) rfl (tk rfl (PE.fA Z3U rfl) rfl (ld rfl rfl (lh sc3 rfl rfl) rfl (Zg 1 rfl (tk rfl (PE.orN (m:=c) (n:=now) rfl rfl (Zhq hc (Nat.le_refl _)) (Zhq hn10 (Nat.le_refl _))) rfl (tk rfl (PE.build (out:=[_,_]) Z99 Z4v rfl rfl) rfl (tk rfl (PE.fA Z3U rfl) rfl (ld rfl rfl (lh sc3 rfl rfl) rfl (Zg 1 rfl (tk rfl (PE.orN (m:=c) (n:=now) rfl rfl (Zhq hc (Nat.le_refl _)) (Zhq hn10 (Nat.le_refl _))) rfl ?_)))))))))))
 refine ZL ?_ ?_
 refine clV rfl Z9M rfl rfl (Z4z r hd m (c|||now) hm hc210 _ _) ?_
 refine bg (fun w hs=>⟨(lh sc3 rfl rfl) w hs,trivial,trivial,trivial⟩) ?_
 refine tk rfl (PE.build (out:=[_,_]) Z99 Z4v rfl rfl) rfl (alc rfl Z4v rfl (fun b11=>?_))
 refine bg (fun w hs=>⟨(lh sc3 rfl rfl) w hs,trivial⟩) ?_
 refine Zy (l':=plc (spr r.d.h.gaps (c|||now) m) (c|||now)) rfl rfl rfl Z8R rfl rfl rfl rfl (nl rfl) ?_
 refine bgT (Z0 ?_)
 refine Za [0,0,2,6,14,31,63,127,127,383,1023,2047,4095,8191,16383,8191,40959,106495,237567,524287,1048575,2097151] (tks 0 4 (.ld 4 (tks 5 4 (.ld 9 (tks 10 4 (.ld 14 (tks 15 3 (.ld 18 (tks 19 3 .done))))))))) Zl (by kernel_rfl) ?_
 refine Zg 2 rfl (tk rfl (PE.nilCheck rfl) rfl (tk rfl (PE.fA ZcY rfl) rfl (ld rfl rfl (lfB (sz:=4) sc3 rfl) rfl (Zg 2 rfl ?_))))
 refine Zq 56 rfl ?_ ?_<;>intro g56
 try simp only [cS] at g56
 refine Zg 1 rfl ?_
 refine tkG rfl rfl rfl rfl (PE.fA Z1v rfl) rfl ?_
 refine ldG rfl rfl rfl rfl rfl (lh sc3 rfl rfl) rfl (Zg 3 rfl ?_)
 refine Zq 62 rfl ?_ ?_<;>intro g62
 try simp only [cS] at g62
 refine tkG rfl rfl rfl rfl (PE.fA Z03 rfl) rfl ?_
 refine ldG rfl rfl rfl rfl rfl (lh sc3 rfl rfl) rfl (Zg 1 rfl ?_)
 refine tkG rfl rfl rfl rfl (PE.nilCheck rfl) rfl ?_
 refine tkG rfl rfl rfl rfl (PE.fA ZcX rfl) rfl ?_
 refine ldG rfl rfl rfl rfl rfl (lfB (sz:=4) sc3 rfl) rfl ?_
 refine tkG rfl rfl rfl rfl (PE.andN (m:=(spr r.d.h.gaps (c|||now) m)) (n:=r.K) rfl rfl rfl (by omega) (by omega)) rfl ?_
 refine Zg 2 rfl ?_
 refine Z1 rfl ?_ ?_<;>intro hc1<;>try simp only [cS] at hc1
 have hk0:(spr r.d.h.gaps (c|||now) m)&&&r.K=0:=by omega
 refine Z0 (sqt 5 rfl (sp rfl (PE.fA Z03 rfl) rfl (spL rfl rfl (lh sc3 rfl rfl) rfl (sp rfl (PE.fA Z03 rfl) rfl (spL rfl rfl (lh sc3 rfl rfl) rfl (pur 1 rfl ?_))))))
 refine Z1 rfl ?_ ?_<;>intro hc2<;>try simp only [cS] at hc2
 have hne:(spr r.d.h.gaps (c|||now) m)≠m:=by omega
 have hgr:=Z4I hne
 refine sqt 5 rfl (pur 1 rfl ?_)
 refine Zw r.mm ?_
 refine spL rfl rfl (lhA (plc (spr r.d.h.gaps (c|||now) m) (c|||now)) Z12 rfl rfl rfl) rfl ?_
 refine cl rfl Z9L rfl rfl (ih q9 rfl (spr r.d.h.gaps (c|||now) m) (c|||now) kv1 _ _ hm2 hc210 (by omega) hme) ?_
 rintro _ _ R1 ⟨n3,l3,lb3,kv3,rfl,hb3,hme3,rfl,hR1⟩
 obtain rfl:=hR1.symm
 clear hR1
 have hme:=hme3
 have hn3:n3≤11:=by rcases hb3 with ⟨_,p,_⟩ | ⟨_,p,_⟩<;>omega
 refine alc rfl Z5D rfl (fun b12=>?_)
 refine Zy (l':=svl (n3) (l3) (lb3)) rfl rfl rfl Z0Y rfl rfl rfl rfl (nl rfl) ?_
 refine sqt 5 rfl (pur 1 rfl (sp rfl (PE.fA Z1v rfl) rfl (spL rfl rfl (lh sc3 rfl rfl) rfl (sp rfl (PE.add rfl rfl (by omega)) rfl ?_))))
 rw [show (((cnt r.d.h.gaps.length now):Nat):Int)+(n3:Int)=(((cnt r.d.h.gaps.length now)+n3:Nat):Int) from by omega]
 refine pur 1 rfl (sqt 2 rfl (sp rfl (PE.fA ZcZ rfl) rfl (spL rfl rfl (lh sc4 rfl rfl) rfl ?_)))
 refine Z1 rfl ?_ ?_<;>intro hc3
 obtain rfl:lb3=true:=hc3
 have hnp:=(hb3.resolve_right (fun h=>by cases h.1)).2.2.2
 have hno:∀ n9,Cnd r.d.h.gaps r.K r.sp m c now n9→n≤n9:=fun n9 hcn=>by
   obtain ⟨p1,p2,p3,p4⟩:=hcn
   rcases p4 with ⟨p5,_⟩ | ⟨_,k,_,p6⟩
   · exact absurd p5 hne
   · exact absurd p6.1 (hnp k)
 refine sqr 1 rfl (pur 1 rfl (sqt 4 rfl (pur 1 rfl (sp rfl (PE.fA Z1v rfl) rfl (spL rfl rfl (lh sc3 rfl rfl) rfl (pur 1 rfl ?_))))))
 refine Z1 rfl ?_ ?_<;>intro hc4
 simp only [decide_eq_true_eq] at hc4
 omega
 refine Z3 (sqt 2 rfl (pur 2 rfl ?_))
 refine Z1 rfl ?_ ?_<;>intro hc5<;>try simp only [cS] at hc5
 have hz0:now=0:=by omega
 refine Z7 (ZW (by decide) (Z8 (Z8 (Zi (Z0 ?_)))))
 refine Za [0,1,3,7,0,0,63] (tks 0 3 (.ld 3 (.ld 4 (.ld 5 (.big 6 .done))))) Zl (by kernel_rfl) ?_
 refine Zg 1 rfl (tk rfl (PE.nilCheck rfl) rfl (tk rfl (PE.fA Z0n rfl) rfl (ld rfl rfl (lfB (sz:=4) Z2U rfl) rfl (ld rfl rfl (lhA (plc m c) Z12 rfl rfl rfl) rfl (ld rfl rfl (lhA (svl (n) (l) (lost)) ZS rfl rfl rfl) rfl ?_)))))
 refine mpu kv3 [(m:Int),(c:Int)] (v:=svv (n) (l) (lost)) rfl Z1a (KeyT.of Z18 Z1b) rfl rfl rfl rfl hme.len ?_
 refine bgT (sqt 2 rfl (spL rfl rfl (lhA (svl (n) (l) (lost)) ZS rfl rfl rfl) rfl ?_))
 refine Zy (l':=svl (n) (l) (lost)) rfl rfl rfl Z0Y rfl rfl rfl rfl (nl rfl) ?_
 refine Z4 ?_
 have hfin:Z5E r.d.h.gaps r.K r.sp m c (n) (l) (lost):=by subst hz0;exact BI.endNo hgl hbi hno
 exact Z9 (vs:=[_]) rfl (.cons (RV.cell rfl (lhA (svl (n) (l) (lost)) ZS rfl rfl rfl)) .nil) rfl ⟨_,_,_,_,rfl,hfin,hme.put hfin,rfl,rfl⟩ (fun w h=>((((((((h.del b12).del b11).pull b3).pull b4).pull b7)).del b7).del b4).del b3)
 have h0:now≠0:=by omega
 refine Z3 (sqr 5 rfl (pur 1 rfl (sp rfl (PE.sub rfl rfl (by omega)) rfl (pur 1 rfl ?_))))
 rw [show (now:Int)-1=((now-1:Nat):Int) from by omega]
 refine sp rfl (PE.andN (m:=now-1) (n:=(Z0l r.d.h.gaps m c)) rfl rfl rfl (by omega) (by have:=Z0a r.d.h.gaps m c;have:2 ^ r.d.h.gaps.length≤2 ^ 10:=Nat.pow_le_pow_right (by decide) hgl;have e9:(2:Nat) ^ 10=1024:=rfl;omega)) rfl (pur 1 rfl ?_)
 have hlt:(now-1)&&&(Z0l r.d.h.gaps m c)<now:=Nat.lt_of_le_of_lt Nat.and_le_left (by omega)
 exact Zh ⟨((now-1)&&&(Z0l r.d.h.gaps m c),n,l,lost,kv3),by dsimp only;rw [Nat.and_assoc,Nat.and_self],hbi.no hsub h0 hno,hme⟩ hlt (fun w h=>(((((h.del b12).del b11).pull b3).pull b4).pull b7))
 obtain rfl:lb3=false:=hc3
 have hlb:=(hb3.resolve_left (fun h=>by cases h.1)).2.2.1
 have htk:Cnd r.d.h.gaps r.K r.sp m c now ((cnt r.d.h.gaps.length now)+n3):=⟨hsu,by omega,hk0,.inr ⟨hne,n3,rfl,hlb⟩⟩
 refine Z3 (sqt 4 rfl (pur 1 rfl (sp rfl (PE.fA Z1v rfl) rfl (spL rfl rfl (lh sc3 rfl rfl) rfl (pur 1 rfl ?_)))))
 refine Z1 rfl ?_ ?_<;>intro hc4<;>try simp only [cS] at hc4
 have hlt9:(cnt r.d.h.gaps.length now)+n3<n:=by omega
 refine sqr 4 rfl (pur 2 rfl (sp rfl (PE.build (out:=[_,_,_]) ZdX Z5D rfl rfl) rfl ?_))
 refine Zy (l':=svl ((cnt r.d.h.gaps.length now)+n3) (now) (false)) rfl rfl rfl Z0Y rfl rfl rfl rfl (nl rfl) ?_
 refine sqt 2 rfl (pur 2 rfl ?_)
 refine Z1 rfl ?_ ?_<;>intro hc5<;>try simp only [cS] at hc5
 have hz0:now=0:=by omega
 refine Z7 (ZW (by decide) (Z8 (Z8 (Zi (Z0 ?_)))))
 refine Za [0,1,3,7,0,0,63] (tks 0 3 (.ld 3 (.ld 4 (.ld 5 (.big 6 .done))))) Zl (by kernel_rfl) ?_
 refine Zg 1 rfl (tk rfl (PE.nilCheck rfl) rfl (tk rfl (PE.fA Z0n rfl) rfl (ld rfl rfl (lfB (sz:=4) Z2U rfl) rfl (ld rfl rfl (lhA (plc m c) Z12 rfl rfl rfl) rfl (ld rfl rfl (lhA (svl ((cnt r.d.h.gaps.length now)+n3) (now) (false)) ZS rfl rfl rfl) rfl ?_)))))
 refine mpu kv3 [(m:Int),(c:Int)] (v:=svv ((cnt r.d.h.gaps.length now)+n3) (now) (false)) rfl Z1a (KeyT.of Z18 Z1b) rfl rfl rfl rfl hme.len ?_
 refine bgT (sqt 2 rfl (spL rfl rfl (lhA (svl ((cnt r.d.h.gaps.length now)+n3) (now) (false)) ZS rfl rfl rfl) rfl ?_))
 refine Zy (l':=svl ((cnt r.d.h.gaps.length now)+n3) (now) (false)) rfl rfl rfl Z0Y rfl rfl rfl rfl (nl rfl) ?_
 refine Z4 ?_
 have hfin:Z5E r.d.h.gaps r.K r.sp m c ((cnt r.d.h.gaps.length now)+n3) (now) (false):=by subst hz0;exact BI.endTake hgl hbi htk hlt9
 exact Z9 (vs:=[_]) rfl (.cons (RV.cell rfl (lhA (svl ((cnt r.d.h.gaps.length now)+n3) (now) (false)) ZS rfl rfl rfl)) .nil) rfl ⟨_,_,_,_,rfl,hfin,hme.put hfin,rfl,rfl⟩ (fun w h=>((((((((h.del b12).del b11).pull b3).pull b4).pull b7)).del b7).del b4).del b3)
 have h0:now≠0:=by omega
 refine Z3 (sqr 5 rfl (pur 1 rfl (sp rfl (PE.sub rfl rfl (by omega)) rfl (pur 1 rfl ?_))))
 rw [show (now:Int)-1=((now-1:Nat):Int) from by omega]
 refine sp rfl (PE.andN (m:=now-1) (n:=(Z0l r.d.h.gaps m c)) rfl rfl rfl (by omega) (by have:=Z0a r.d.h.gaps m c;have:2 ^ r.d.h.gaps.length≤2 ^ 10:=Nat.pow_le_pow_right (by decide) hgl;have e9:(2:Nat) ^ 10=1024:=rfl;omega)) rfl (pur 1 rfl ?_)
 have hlt:(now-1)&&&(Z0l r.d.h.gaps m c)<now:=Nat.lt_of_le_of_lt Nat.and_le_left (by omega)
 exact Zh ⟨((now-1)&&&(Z0l r.d.h.gaps m c),(cnt r.d.h.gaps.length now)+n3,now,false,kv3),by dsimp only;rw [Nat.and_assoc,Nat.and_self],hbi.take hsub h0 htk hlt9,hme⟩ hlt (fun w h=>(((((h.del b12).del b11).pull b3).pull b4).pull b7))
 have hno:∀ n9,Cnd r.d.h.gaps r.K r.sp m c now n9→n≤n9:=fun n9 hcn=>by rw [hcn.unique htk];omega
 refine Z3 (sqt 2 rfl (pur 2 rfl ?_))
 refine Z1 rfl ?_ ?_<;>intro hc5<;>try simp only [cS] at hc5
 have hz0:now=0:=by omega
 refine Z7 (ZW (by decide) (Z8 (Z8 (Zi (Z0 ?_)))))
 refine Za [0,1,3,7,0,0,63] (tks 0 3 (.ld 3 (.ld 4 (.ld 5 (.big 6 .done))))) Zl (by kernel_rfl) ?_
 refine Zg 1 rfl (tk rfl (PE.nilCheck rfl) rfl (tk rfl (PE.fA Z0n rfl) rfl (ld rfl rfl (lfB (sz:=4) Z2U rfl) rfl (ld rfl rfl (lhA (plc m c) Z12 rfl rfl rfl) rfl (ld rfl rfl (lhA (svl (n) (l) (lost)) ZS rfl rfl rfl) rfl ?_)))))
 refine mpu kv3 [(m:Int),(c:Int)] (v:=svv (n) (l) (lost)) rfl Z1a (KeyT.of Z18 Z1b) rfl rfl rfl rfl hme.len ?_
 refine bgT (sqt 2 rfl (spL rfl rfl (lhA (svl (n) (l) (lost)) ZS rfl rfl rfl) rfl ?_))
 refine Zy (l':=svl (n) (l) (lost)) rfl rfl rfl Z0Y rfl rfl rfl rfl (nl rfl) ?_
 refine Z4 ?_
 have hfin:Z5E r.d.h.gaps r.K r.sp m c (n) (l) (lost):=by subst hz0;exact BI.endNo hgl hbi hno
 exact Z9 (vs:=[_]) rfl (.cons (RV.cell rfl (lhA (svl (n) (l) (lost)) ZS rfl rfl rfl)) .nil) rfl ⟨_,_,_,_,rfl,hfin,hme.put hfin,rfl,rfl⟩ (fun w h=>((((((((h.del b12).del b11).pull b3).pull b4).pull b7)).del b7).del b4).del b3)
 have h0:now≠0:=by omega
 refine Z3 (sqr 5 rfl (pur 1 rfl (sp rfl (PE.sub rfl rfl (by omega)) rfl (pur 1 rfl ?_))))
 rw [show (now:Int)-1=((now-1:Nat):Int) from by omega]
 refine sp rfl (PE.andN (m:=now-1) (n:=(Z0l r.d.h.gaps m c)) rfl rfl rfl (by omega) (by have:=Z0a r.d.h.gaps m c;have:2 ^ r.d.h.gaps.length≤2 ^ 10:=Nat.pow_le_pow_right (by decide) hgl;have e9:(2:Nat) ^ 10=1024:=rfl;omega)) rfl (pur 1 rfl ?_)
 have hlt:(now-1)&&&(Z0l r.d.h.gaps m c)<now:=Nat.lt_of_le_of_lt Nat.and_le_left (by omega)
 exact Zh ⟨((now-1)&&&(Z0l r.d.h.gaps m c),n,l,lost,kv3),by dsimp only;rw [Nat.and_assoc,Nat.and_self],hbi.no hsub h0 hno,hme⟩ hlt (fun w h=>(((((h.del b12).del b11).pull b3).pull b4).pull b7))
 have heq:(spr r.d.h.gaps (c|||now) m)=m:=by omega
 have htk:Cnd r.d.h.gaps r.K r.sp m c now (cnt r.d.h.gaps.length now):=⟨hsu,by omega,hk0,.inl ⟨heq,rfl⟩⟩
 have hlt9:(cnt r.d.h.gaps.length now)<n:=by omega
 refine Z3 (sqt 4 rfl (pur 1 rfl (sp rfl (PE.fA Z1v rfl) rfl (spL rfl rfl (lh sc3 rfl rfl) rfl (pur 1 rfl ?_)))))
 refine Z1 rfl ?_ ?_<;>intro hc4
 refine sqr 4 rfl (pur 2 rfl (sp rfl (PE.build (out:=[_,_,_]) ZdX Z5D rfl rfl) rfl ?_))
 refine Zy (l':=svl ((cnt r.d.h.gaps.length now)) (now) (false)) rfl rfl rfl Z0Y rfl rfl rfl rfl (nl rfl) ?_
 refine sqt 2 rfl (pur 2 rfl ?_)
 refine Z1 rfl ?_ ?_<;>intro hc5<;>try simp only [cS] at hc5
 have hz0:now=0:=by omega
 refine Z7 (ZW (by decide) (Z8 (Z8 (Zi (Z0 ?_)))))
 refine Za [0,1,3,7,0,0,63] (tks 0 3 (.ld 3 (.ld 4 (.ld 5 (.big 6 .done))))) Zl (by kernel_rfl) ?_
 refine Zg 1 rfl (tk rfl (PE.nilCheck rfl) rfl (tk rfl (PE.fA Z0n rfl) rfl (ld rfl rfl (lfB (sz:=4) Z2U rfl) rfl (ld rfl rfl (lhA (plc m c) Z12 rfl rfl rfl) rfl (ld rfl rfl (lhA (svl ((cnt r.d.h.gaps.length now)) (now) (false)) ZS rfl rfl rfl) rfl ?_)))))
 refine mpu kv1 [(m:Int),(c:Int)] (v:=svv ((cnt r.d.h.gaps.length now)) (now) (false)) rfl Z1a (KeyT.of Z18 Z1b) rfl rfl rfl rfl hme.len ?_
 refine bgT (sqt 2 rfl (spL rfl rfl (lhA (svl ((cnt r.d.h.gaps.length now)) (now) (false)) ZS rfl rfl rfl) rfl ?_))
 refine Zy (l':=svl ((cnt r.d.h.gaps.length now)) (now) (false)) rfl rfl rfl Z0Y rfl rfl rfl rfl (nl rfl) ?_
 refine Z4 ?_
 have hfin:Z5E r.d.h.gaps r.K r.sp m c ((cnt r.d.h.gaps.length now)) (now) (false):=by subst hz0;exact BI.endTake hgl hbi htk hlt9
 exact Z9 (vs:=[_]) rfl (.cons (RV.cell rfl (lhA (svl ((cnt r.d.h.gaps.length now)) (now) (false)) ZS rfl rfl rfl)) .nil) rfl ⟨_,_,_,_,rfl,hfin,hme.put hfin,rfl,rfl⟩ (fun w h=>(((h.del b11).del b7).del b4).del b3)
 have h0:now≠0:=by omega
 refine Z3 (sqr 5 rfl (pur 1 rfl (sp rfl (PE.sub rfl rfl (by omega)) rfl (pur 1 rfl ?_))))
 rw [show (now:Int)-1=((now-1:Nat):Int) from by omega]
 refine sp rfl (PE.andN (m:=now-1) (n:=(Z0l r.d.h.gaps m c)) rfl rfl rfl (by omega) (by have:=Z0a r.d.h.gaps m c;have:2 ^ r.d.h.gaps.length≤2 ^ 10:=Nat.pow_le_pow_right (by decide) hgl;have e9:(2:Nat) ^ 10=1024:=rfl;omega)) rfl (pur 1 rfl ?_)
 have hlt:(now-1)&&&(Z0l r.d.h.gaps m c)<now:=Nat.lt_of_le_of_lt Nat.and_le_left (by omega)
 exact Zh ⟨((now-1)&&&(Z0l r.d.h.gaps m c),(cnt r.d.h.gaps.length now),now,false,kv1),by dsimp only;rw [Nat.and_assoc,Nat.and_self],hbi.take hsub h0 htk hlt9,hme⟩ hlt (fun w h=>h.del b11)
 exact absurd hc4 (by simp;omega)
 have hno:∀ n9,Cnd r.d.h.gaps r.K r.sp m c now n9→n≤n9:=fun n9 hcn=>by
   obtain ⟨p1,p2,p3,p4⟩:=hcn
   exact absurd p3 (by omega)
 refine Z3 (sqt 2 rfl (pur 2 rfl ?_))
 refine Z1 rfl ?_ ?_<;>intro hc5<;>try simp only [cS] at hc5
 have hz0:now=0:=by omega
 refine Z7 (ZW (by decide) (Z8 (Z8 (Zi (Z0 ?_)))))
 refine Za [0,1,3,7,0,0,63] (tks 0 3 (.ld 3 (.ld 4 (.ld 5 (.big 6 .done))))) Zl (by kernel_rfl) ?_
 refine Zg 1 rfl (tk rfl (PE.nilCheck rfl) rfl (tk rfl (PE.fA Z0n rfl) rfl (ld rfl rfl (lfB (sz:=4) Z2U rfl) rfl (ld rfl rfl (lhA (plc m c) Z12 rfl rfl rfl) rfl (ld rfl rfl (lhA (svl (n) (l) (lost)) ZS rfl rfl rfl) rfl ?_)))))
 refine mpu kv1 [(m:Int),(c:Int)] (v:=svv (n) (l) (lost)) rfl Z1a (KeyT.of Z18 Z1b) rfl rfl rfl rfl hme.len ?_
 refine bgT (sqt 2 rfl (spL rfl rfl (lhA (svl (n) (l) (lost)) ZS rfl rfl rfl) rfl ?_))
 refine Zy (l':=svl (n) (l) (lost)) rfl rfl rfl Z0Y rfl rfl rfl rfl (nl rfl) ?_
 refine Z4 ?_
 have hfin:Z5E r.d.h.gaps r.K r.sp m c (n) (l) (lost):=by subst hz0;exact BI.endNo hgl hbi hno
 exact Z9 (vs:=[_]) rfl (.cons (RV.cell rfl (lhA (svl (n) (l) (lost)) ZS rfl rfl rfl)) .nil) rfl ⟨_,_,_,_,rfl,hfin,hme.put hfin,rfl,rfl⟩ (fun w h=>(((h.del b11).del b7).del b4).del b3)
 have h0:now≠0:=by omega
 refine Z3 (sqr 5 rfl (pur 1 rfl (sp rfl (PE.sub rfl rfl (by omega)) rfl (pur 1 rfl ?_))))
 rw [show (now:Int)-1=((now-1:Nat):Int) from by omega]
 refine sp rfl (PE.andN (m:=now-1) (n:=(Z0l r.d.h.gaps m c)) rfl rfl rfl (by omega) (by have:=Z0a r.d.h.gaps m c;have:2 ^ r.d.h.gaps.length≤2 ^ 10:=Nat.pow_le_pow_right (by decide) hgl;have e9:(2:Nat) ^ 10=1024:=rfl;omega)) rfl (pur 1 rfl ?_)
 have hlt:(now-1)&&&(Z0l r.d.h.gaps m c)<now:=Nat.lt_of_le_of_lt Nat.and_le_left (by omega)
 exact Zh ⟨((now-1)&&&(Z0l r.d.h.gaps m c),n,l,lost,kv1),by dsimp only;rw [Nat.and_assoc,Nat.and_self],hbi.no hsub h0 hno,hme⟩ hlt (fun w h=>h.del b11)
 try simp only [cS] at g62
 have hno:∀ n9,Cnd r.d.h.gaps r.K r.sp m c now n9→n≤n9:=fun n9 hcn=>by
   obtain ⟨p1,p2,p3,p4⟩:=hcn
   rcases p4 with ⟨_,p5⟩ | ⟨_,k,p5,_⟩<;>omega
 refine Zg 1 rfl ?_
 refine ldN rfl rfl rfl rfl rfl rfl rfl rfl ?_
 refine Zg 3 rfl ?_
 refine ldN rfl rfl rfl rfl rfl rfl rfl rfl ?_
 refine Zg 3 rfl ?_
 refine Zt rfl ?_
 refine Z3 (sqt 2 rfl (pur 2 rfl ?_))
 refine Z1 rfl ?_ ?_<;>intro hc5<;>try simp only [cS] at hc5
 have hz0:now=0:=by omega
 refine Z7 (ZW (by decide) (Z8 (Z8 (Zi (Z0 ?_)))))
 refine Za [0,1,3,7,0,0,63] (tks 0 3 (.ld 3 (.ld 4 (.ld 5 (.big 6 .done))))) Zl (by kernel_rfl) ?_
 refine Zg 1 rfl (tk rfl (PE.nilCheck rfl) rfl (tk rfl (PE.fA Z0n rfl) rfl (ld rfl rfl (lfB (sz:=4) Z2U rfl) rfl (ld rfl rfl (lhA (plc m c) Z12 rfl rfl rfl) rfl (ld rfl rfl (lhA (svl (n) (l) (lost)) ZS rfl rfl rfl) rfl ?_)))))
 refine mpu kv1 [(m:Int),(c:Int)] (v:=svv (n) (l) (lost)) rfl Z1a (KeyT.of Z18 Z1b) rfl rfl rfl rfl hme.len ?_
 refine bgT (sqt 2 rfl (spL rfl rfl (lhA (svl (n) (l) (lost)) ZS rfl rfl rfl) rfl ?_))
 refine Zy (l':=svl (n) (l) (lost)) rfl rfl rfl Z0Y rfl rfl rfl rfl (nl rfl) ?_
 refine Z4 ?_
 have hfin:Z5E r.d.h.gaps r.K r.sp m c (n) (l) (lost):=by subst hz0;exact BI.endNo hgl hbi hno
 exact Z9 (vs:=[_]) rfl (.cons (RV.cell rfl (lhA (svl (n) (l) (lost)) ZS rfl rfl rfl)) .nil) rfl ⟨_,_,_,_,rfl,hfin,hme.put hfin,rfl,rfl⟩ (fun w h=>(((h.del b11).del b7).del b4).del b3)
 have h0:now≠0:=by omega
 refine Z3 (sqr 5 rfl (pur 1 rfl (sp rfl (PE.sub rfl rfl (by omega)) rfl (pur 1 rfl ?_))))
 rw [show (now:Int)-1=((now-1:Nat):Int) from by omega]
 refine sp rfl (PE.andN (m:=now-1) (n:=(Z0l r.d.h.gaps m c)) rfl rfl rfl (by omega) (by have:=Z0a r.d.h.gaps m c;have:2 ^ r.d.h.gaps.length≤2 ^ 10:=Nat.pow_le_pow_right (by decide) hgl;have e9:(2:Nat) ^ 10=1024:=rfl;omega)) rfl (pur 1 rfl ?_)
 have hlt:(now-1)&&&(Z0l r.d.h.gaps m c)<now:=Nat.lt_of_le_of_lt Nat.and_le_left (by omega)
 exact Zh ⟨((now-1)&&&(Z0l r.d.h.gaps m c),n,l,lost,kv1),by dsimp only;rw [Nat.and_assoc,Nat.and_self],hbi.no hsub h0 hno,hme⟩ hlt (fun w h=>h.del b11)
 try simp only [cS] at g56
 have hno:∀ n9,Cnd r.d.h.gaps r.K r.sp m c now n9→n≤n9:=fun n9 hcn=>by
   obtain ⟨p1,p2,p3,p4⟩:=hcn
   omega
 refine Zg 2 rfl ?_
 refine ldN rfl rfl rfl rfl rfl rfl rfl rfl ?_
 refine Zg 4 rfl ?_
 refine ldN rfl rfl rfl rfl rfl rfl rfl rfl ?_
 refine Zg 3 rfl ?_
 refine ldN rfl rfl rfl rfl rfl rfl rfl rfl ?_
 refine Zg 3 rfl ?_
 refine Zt rfl ?_
 refine Z3 (sqt 2 rfl (pur 2 rfl ?_))
 refine Z1 rfl ?_ ?_<;>intro hc5<;>try simp only [cS] at hc5
 have hz0:now=0:=by omega
 refine Z7 (ZW (by decide) (Z8 (Z8 (Zi (Z0 ?_)))))
 refine Za [0,1,3,7,0,0,63] (tks 0 3 (.ld 3 (.ld 4 (.ld 5 (.big 6 .done))))) Zl (by kernel_rfl) ?_
 refine Zg 1 rfl (tk rfl (PE.nilCheck rfl) rfl (tk rfl (PE.fA Z0n rfl) rfl (ld rfl rfl (lfB (sz:=4) Z2U rfl) rfl (ld rfl rfl (lhA (plc m c) Z12 rfl rfl rfl) rfl (ld rfl rfl (lhA (svl (n) (l) (lost)) ZS rfl rfl rfl) rfl ?_)))))
 refine mpu kv1 [(m:Int),(c:Int)] (v:=svv (n) (l) (lost)) rfl Z1a (KeyT.of Z18 Z1b) rfl rfl rfl rfl hme.len ?_
 refine bgT (sqt 2 rfl (spL rfl rfl (lhA (svl (n) (l) (lost)) ZS rfl rfl rfl) rfl ?_))
 refine Zy (l':=svl (n) (l) (lost)) rfl rfl rfl Z0Y rfl rfl rfl rfl (nl rfl) ?_
 refine Z4 ?_
 have hfin:Z5E r.d.h.gaps r.K r.sp m c (n) (l) (lost):=by subst hz0;exact BI.endNo hgl hbi hno
 exact Z9 (vs:=[_]) rfl (.cons (RV.cell rfl (lhA (svl (n) (l) (lost)) ZS rfl rfl rfl)) .nil) rfl ⟨_,_,_,_,rfl,hfin,hme.put hfin,rfl,rfl⟩ (fun w h=>(((h.del b11).del b7).del b4).del b3)
 have h0:now≠0:=by omega
 refine Z3 (sqr 5 rfl (pur 1 rfl (sp rfl (PE.sub rfl rfl (by omega)) rfl (pur 1 rfl ?_))))
 rw [show (now:Int)-1=((now-1:Nat):Int) from by omega]
 refine sp rfl (PE.andN (m:=now-1) (n:=(Z0l r.d.h.gaps m c)) rfl rfl rfl (by omega) (by have:=Z0a r.d.h.gaps m c;have:2 ^ r.d.h.gaps.length≤2 ^ 10:=Nat.pow_le_pow_right (by decide) hgl;have e9:(2:Nat) ^ 10=1024:=rfl;omega)) rfl (pur 1 rfl ?_)
 have hlt:(now-1)&&&(Z0l r.d.h.gaps m c)<now:=Nat.lt_of_le_of_lt Nat.and_le_left (by omega)
 exact Zh ⟨((now-1)&&&(Z0l r.d.h.gaps m c),n,l,lost,kv1),by dsimp only;rw [Nat.and_assoc,Nat.and_self],hbi.no hsub h0 hno,hme⟩ hlt (fun w h=>h.del b11)
 refine ZL ?_ ?_
 refine alc rfl Z4v rfl (fun b11=>?_)
 refine bg (fun w hs=>⟨(lh sc3 rfl rfl) w hs,(lh sc3 rfl rfl) w hs,(lh sc3 rfl rfl) w hs,trivial⟩) ?_
 refine clV rfl Z9M rfl rfl (Z4z r hd m (c|||now) hm hc210 _ _) ?_
 refine bg (fun w hs=>⟨(lh sc3 rfl rfl) w hs,trivial,trivial,trivial⟩) ?_
 refine tk rfl (PE.build (out:=[_,_]) Z99 Z4v rfl rfl) rfl ?_
 refine Zy (l':=plc (spr r.d.h.gaps (c|||now) m) (c|||now)) rfl rfl rfl Z8R rfl rfl rfl rfl (nl rfl) ?_
 refine bgT (Z0 ?_)
 refine Za [0,0,2,6,14,31,63,127,127,383,1023,2047,4095,8191,16383,8191,40959,106495,237567,524287,1048575,2097151] (tks 0 4 (.ld 4 (tks 5 4 (.ld 9 (tks 10 4 (.ld 14 (tks 15 3 (.ld 18 (tks 19 3 .done))))))))) Zl (by kernel_rfl) ?_
 refine Zg 2 rfl (tk rfl (PE.nilCheck rfl) rfl (tk rfl (PE.fA ZcY rfl) rfl (ld rfl rfl (lfB (sz:=4) sc3 rfl) rfl (Zg 2 rfl ?_))))
 refine Zq 56 rfl ?_ ?_<;>intro g56
 try simp only [cS] at g56
 refine Zg 1 rfl ?_
 refine tkG rfl rfl rfl rfl (PE.fA Z1v rfl) rfl ?_
 refine ldG rfl rfl rfl rfl rfl (lh sc3 rfl rfl) rfl (Zg 3 rfl ?_)
 refine Zq 62 rfl ?_ ?_<;>intro g62
 try simp only [cS] at g62
 refine tkG rfl rfl rfl rfl (PE.fA Z03 rfl) rfl ?_
 refine ldG rfl rfl rfl rfl rfl (lh sc3 rfl rfl) rfl (Zg 1 rfl ?_)
 refine tkG rfl rfl rfl rfl (PE.nilCheck rfl) rfl ?_
 refine tkG rfl rfl rfl rfl (PE.fA ZcX rfl) rfl ?_
 refine ldG rfl rfl rfl rfl rfl (lfB (sz:=4) sc3 rfl) rfl ?_
 refine tkG rfl rfl rfl rfl (PE.andN (m:=(spr r.d.h.gaps (c|||now) m)) (n:=r.K) rfl rfl rfl (by omega) (by omega)) rfl ?_
 refine Zg 2 rfl ?_
 refine Z1 rfl ?_ ?_<;>intro hc1<;>try simp only [cS] at hc1
 have hk0:(spr r.d.h.gaps (c|||now) m)&&&r.K=0:=by omega
 refine Z0 (sqt 5 rfl (sp rfl (PE.fA Z03 rfl) rfl (spL rfl rfl (lh sc3 rfl rfl) rfl (sp rfl (PE.fA Z03 rfl) rfl (spL rfl rfl (lh sc3 rfl rfl) rfl (pur 1 rfl ?_))))))
 refine Z1 rfl ?_ ?_<;>intro hc2<;>try simp only [cS] at hc2
 have hne:(spr r.d.h.gaps (c|||now) m)≠m:=by omega
 have hgr:=Z4I hne
 refine sqt 5 rfl (pur 1 rfl ?_)
 refine Zw r.mm ?_
 refine spL rfl rfl (lhA (plc (spr r.d.h.gaps (c|||now) m) (c|||now)) Z12 rfl rfl rfl) rfl ?_
 refine cl rfl Z9L rfl rfl (ih q9 rfl (spr r.d.h.gaps (c|||now) m) (c|||now) kv1 _ _ hm2 hc210 (by omega) hme) ?_
 rintro _ _ R1 ⟨n3,l3,lb3,kv3,rfl,hb3,hme3,rfl,hR1⟩
 obtain rfl:=hR1.symm
 clear hR1
 have hme:=hme3
 have hn3:n3≤11:=by rcases hb3 with ⟨_,p,_⟩ | ⟨_,p,_⟩<;>omega
 refine alc rfl Z5D rfl (fun b12=>?_)
 refine Zy (l':=svl (n3) (l3) (lb3)) rfl rfl rfl Z0Y rfl rfl rfl rfl (nl rfl) ?_
 refine sqt 5 rfl (pur 1 rfl (sp rfl (PE.fA Z1v rfl) rfl (spL rfl rfl (lh sc3 rfl rfl) rfl (sp rfl (PE.add rfl rfl (by omega)) rfl ?_))))
 rw [show (((cnt r.d.h.gaps.length now):Nat):Int)+(n3:Int)=(((cnt r.d.h.gaps.length now)+n3:Nat):Int) from by omega]
 refine pur 1 rfl (sqt 2 rfl (sp rfl (PE.fA ZcZ rfl) rfl (spL rfl rfl (lh sc4 rfl rfl) rfl ?_)))
 refine Z1 rfl ?_ ?_<;>intro hc3
 obtain rfl:lb3=true:=hc3
 have hnp:=(hb3.resolve_right (fun h=>by cases h.1)).2.2.2
 have hno:∀ n9,Cnd r.d.h.gaps r.K r.sp m c now n9→n≤n9:=fun n9 hcn=>by
   obtain ⟨p1,p2,p3,p4⟩:=hcn
   rcases p4 with ⟨p5,_⟩ | ⟨_,k,_,p6⟩
   · exact absurd p5 hne
   · exact absurd p6.1 (hnp k)
 refine sqr 1 rfl (pur 1 rfl (sqt 4 rfl (pur 1 rfl (sp rfl (PE.fA Z1v rfl) rfl (spL rfl rfl (lh sc3 rfl rfl) rfl (pur 1 rfl ?_))))))
 refine Z1 rfl ?_ ?_<;>intro hc4
 simp only [decide_eq_true_eq] at hc4
 omega
 refine Z3 (sqt 2 rfl (pur 2 rfl ?_))
 refine Z1 rfl ?_ ?_<;>intro hc5<;>try simp only [cS] at hc5
 have hz0:now=0:=by omega
 refine Z7 (ZW (by decide) (Z8 (Z8 (Zi (Z0 ?_)))))
 refine Za [0,1,3,7,0,0,63] (tks 0 3 (.ld 3 (.ld 4 (.ld 5 (.big 6 .done))))) Zl (by kernel_rfl) ?_
 refine Zg 1 rfl (tk rfl (PE.nilCheck rfl) rfl (tk rfl (PE.fA Z0n rfl) rfl (ld rfl rfl (lfB (sz:=4) Z2U rfl) rfl (ld rfl rfl (lhA (plc m c) Z12 rfl rfl rfl) rfl (ld rfl rfl (lhA (svl (n) (l) (lost)) ZS rfl rfl rfl) rfl ?_)))))
 refine mpu kv3 [(m:Int),(c:Int)] (v:=svv (n) (l) (lost)) rfl Z1a (KeyT.of Z18 Z1b) rfl rfl rfl rfl hme.len ?_
 refine bgT (sqt 2 rfl (spL rfl rfl (lhA (svl (n) (l) (lost)) ZS rfl rfl rfl) rfl ?_))
 refine Zy (l':=svl (n) (l) (lost)) rfl rfl rfl Z0Y rfl rfl rfl rfl (nl rfl) ?_
 refine Z4 ?_
 have hfin:Z5E r.d.h.gaps r.K r.sp m c (n) (l) (lost):=by subst hz0;exact BI.endNo hgl hbi hno
 exact Z9 (vs:=[_]) rfl (.cons (RV.cell rfl (lhA (svl (n) (l) (lost)) ZS rfl rfl rfl)) .nil) rfl ⟨_,_,_,_,rfl,hfin,hme.put hfin,rfl,rfl⟩ (fun w h=>((((((((h.del b12).del b11).pull b3).pull b4).pull b7)).del b7).del b4).del b3)
 have h0:now≠0:=by omega
 refine Z3 (sqr 5 rfl (pur 1 rfl (sp rfl (PE.sub rfl rfl (by omega)) rfl (pur 1 rfl ?_))))
 rw [show (now:Int)-1=((now-1:Nat):Int) from by omega]
 refine sp rfl (PE.andN (m:=now-1) (n:=(Z0l r.d.h.gaps m c)) rfl rfl rfl (by omega) (by have:=Z0a r.d.h.gaps m c;have:2 ^ r.d.h.gaps.length≤2 ^ 10:=Nat.pow_le_pow_right (by decide) hgl;have e9:(2:Nat) ^ 10=1024:=rfl;omega)) rfl (pur 1 rfl ?_)
 have hlt:(now-1)&&&(Z0l r.d.h.gaps m c)<now:=Nat.lt_of_le_of_lt Nat.and_le_left (by omega)
 exact Zh ⟨((now-1)&&&(Z0l r.d.h.gaps m c),n,l,lost,kv3),by dsimp only;rw [Nat.and_assoc,Nat.and_self],hbi.no hsub h0 hno,hme⟩ hlt (fun w h=>(((((h.del b12).del b11).pull b3).pull b4).pull b7))
 obtain rfl:lb3=false:=hc3
 have hlb:=(hb3.resolve_left (fun h=>by cases h.1)).2.2.1
 have htk:Cnd r.d.h.gaps r.K r.sp m c now ((cnt r.d.h.gaps.length now)+n3):=⟨hsu,by omega,hk0,.inr ⟨hne,n3,rfl,hlb⟩⟩
 refine Z3 (sqt 4 rfl (pur 1 rfl (sp rfl (PE.fA Z1v rfl) rfl (spL rfl rfl (lh sc3 rfl rfl) rfl (pur 1 rfl ?_)))))
 refine Z1 rfl ?_ ?_<;>intro hc4<;>try simp only [cS] at hc4
 have hlt9:(cnt r.d.h.gaps.length now)+n3<n:=by omega
 refine sqr 4 rfl (pur 2 rfl (sp rfl (PE.build (out:=[_,_,_]) ZdX Z5D rfl rfl) rfl ?_))
 refine Zy (l':=svl ((cnt r.d.h.gaps.length now)+n3) (now) (false)) rfl rfl rfl Z0Y rfl rfl rfl rfl (nl rfl) ?_
 refine sqt 2 rfl (pur 2 rfl ?_)
 refine Z1 rfl ?_ ?_<;>intro hc5<;>try simp only [cS] at hc5
 have hz0:now=0:=by omega
 refine Z7 (ZW (by decide) (Z8 (Z8 (Zi (Z0 ?_)))))
 refine Za [0,1,3,7,0,0,63] (tks 0 3 (.ld 3 (.ld 4 (.ld 5 (.big 6 .done))))) Zl (by kernel_rfl) ?_
 refine Zg 1 rfl (tk rfl (PE.nilCheck rfl) rfl (tk rfl (PE.fA Z0n rfl) rfl (ld rfl rfl (lfB (sz:=4) Z2U rfl) rfl (ld rfl rfl (lhA (plc m c) Z12 rfl rfl rfl) rfl (ld rfl rfl (lhA (svl ((cnt r.d.h.gaps.length now)+n3) (now) (false)) ZS rfl rfl rfl) rfl ?_)))))
 refine mpu kv3 [(m:Int),(c:Int)] (v:=svv ((cnt r.d.h.gaps.length now)+n3) (now) (false)) rfl Z1a (KeyT.of Z18 Z1b) rfl rfl rfl rfl hme.len ?_
 refine bgT (sqt 2 rfl (spL rfl rfl (lhA (svl ((cnt r.d.h.gaps.length now)+n3) (now) (false)) ZS rfl rfl rfl) rfl ?_))
 refine Zy (l':=svl ((cnt r.d.h.gaps.length now)+n3) (now) (false)) rfl rfl rfl Z0Y rfl rfl rfl rfl (nl rfl) ?_
 refine Z4 ?_
 have hfin:Z5E r.d.h.gaps r.K r.sp m c ((cnt r.d.h.gaps.length now)+n3) (now) (false):=by subst hz0;exact BI.endTake hgl hbi htk hlt9
 exact Z9 (vs:=[_]) rfl (.cons (RV.cell rfl (lhA (svl ((cnt r.d.h.gaps.length now)+n3) (now) (false)) ZS rfl rfl rfl)) .nil) rfl ⟨_,_,_,_,rfl,hfin,hme.put hfin,rfl,rfl⟩ (fun w h=>((((((((h.del b12).del b11).pull b3).pull b4).pull b7)).del b7).del b4).del b3)
 have h0:now≠0:=by omega
 refine Z3 (sqr 5 rfl (pur 1 rfl (sp rfl (PE.sub rfl rfl (by omega)) rfl (pur 1 rfl ?_))))
 rw [show (now:Int)-1=((now-1:Nat):Int) from by omega]
 refine sp rfl (PE.andN (m:=now-1) (n:=(Z0l r.d.h.gaps m c)) rfl rfl rfl (by omega) (by have:=Z0a r.d.h.gaps m c;have:2 ^ r.d.h.gaps.length≤2 ^ 10:=Nat.pow_le_pow_right (by decide) hgl;have e9:(2:Nat) ^ 10=1024:=rfl;omega)) rfl (pur 1 rfl ?_)
 have hlt:(now-1)&&&(Z0l r.d.h.gaps m c)<now:=Nat.lt_of_le_of_lt Nat.and_le_left (by omega)
 exact Zh ⟨((now-1)&&&(Z0l r.d.h.gaps m c),(cnt r.d.h.gaps.length now)+n3,now,false,kv3),by dsimp only;rw [Nat.and_assoc,Nat.and_self],hbi.take hsub h0 htk hlt9,hme⟩ hlt (fun w h=>(((((h.del b12).del b11).pull b3).pull b4).pull b7))
 have hno:∀ n9,Cnd r.d.h.gaps r.K r.sp m c now n9→n≤n9:=fun n9 hcn=>by rw [hcn.unique htk];omega
 refine Z3 (sqt 2 rfl (pur 2 rfl ?_))
 refine Z1 rfl ?_ ?_<;>intro hc5<;>try simp only [cS] at hc5
 have hz0:now=0:=by omega
 refine Z7 (ZW (by decide) (Z8 (Z8 (Zi (Z0 ?_)))))
 refine Za [0,1,3,7,0,0,63] (tks 0 3 (.ld 3 (.ld 4 (.ld 5 (.big 6 .done))))) Zl (by kernel_rfl) ?_
 refine Zg 1 rfl (tk rfl (PE.nilCheck rfl) rfl (tk rfl (PE.fA Z0n rfl) rfl (ld rfl rfl (lfB (sz:=4) Z2U rfl) rfl (ld rfl rfl (lhA (plc m c) Z12 rfl rfl rfl) rfl (ld rfl rfl (lhA (svl (n) (l) (lost)) ZS rfl rfl rfl) rfl ?_)))))
 refine mpu kv3 [(m:Int),(c:Int)] (v:=svv (n) (l) (lost)) rfl Z1a (KeyT.of Z18 Z1b) rfl rfl rfl rfl hme.len ?_
 refine bgT (sqt 2 rfl (spL rfl rfl (lhA (svl (n) (l) (lost)) ZS rfl rfl rfl) rfl ?_))
 refine Zy (l':=svl (n) (l) (lost)) rfl rfl rfl Z0Y rfl rfl rfl rfl (nl rfl) ?_
 refine Z4 ?_
 have hfin:Z5E r.d.h.gaps r.K r.sp m c (n) (l) (lost):=by subst hz0;exact BI.endNo hgl hbi hno
 exact Z9 (vs:=[_]) rfl (.cons (RV.cell rfl (lhA (svl (n) (l) (lost)) ZS rfl rfl rfl)) .nil) rfl ⟨_,_,_,_,rfl,hfin,hme.put hfin,rfl,rfl⟩ (fun w h=>((((((((h.del b12).del b11).pull b3).pull b4).pull b7)).del b7).del b4).del b3)
 have h0:now≠0:=by omega
 refine Z3 (sqr 5 rfl (pur 1 rfl (sp rfl (PE.sub rfl rfl (by omega)) rfl (pur 1 rfl ?_))))
 rw [show (now:Int)-1=((now-1:Nat):Int) from by omega]
 refine sp rfl (PE.andN (m:=now-1) (n:=(Z0l r.d.h.gaps m c)) rfl rfl rfl (by omega) (by have:=Z0a r.d.h.gaps m c;have:2 ^ r.d.h.gaps.length≤2 ^ 10:=Nat.pow_le_pow_right (by decide) hgl;have e9:(2:Nat) ^ 10=1024:=rfl;omega)) rfl (pur 1 rfl ?_)
 have hlt:(now-1)&&&(Z0l r.d.h.gaps m c)<now:=Nat.lt_of_le_of_lt Nat.and_le_left (by omega)
 exact Zh ⟨((now-1)&&&(Z0l r.d.h.gaps m c),n,l,lost,kv3),by dsimp only;rw [Nat.and_assoc,Nat.and_self],hbi.no hsub h0 hno,hme⟩ hlt (fun w h=>(((((h.del b12).del b11).pull b3).pull b4).pull b7))
 have heq:(spr r.d.h.gaps (c|||now) m)=m:=by omega
 have htk:Cnd r.d.h.gaps r.K r.sp m c now (cnt r.d.h.gaps.length now):=⟨hsu,by omega,hk0,.inl ⟨heq,rfl⟩⟩
 have hlt9:(cnt r.d.h.gaps.length now)<n:=by omega
 refine Z3 (sqt 4 rfl (pur 1 rfl (sp rfl (PE.fA Z1v rfl) rfl (spL rfl rfl (lh sc3 rfl rfl) rfl (pur 1 rfl ?_)))))
 refine Z1 rfl ?_ ?_<;>intro hc4
 refine sqr 4 rfl (pur 2 rfl (sp rfl (PE.build (out:=[_,_,_]) ZdX Z5D rfl rfl) rfl ?_))
 refine Zy (l':=svl ((cnt r.d.h.gaps.length now)) (now) (false)) rfl rfl rfl Z0Y rfl rfl rfl rfl (nl rfl) ?_
 refine sqt 2 rfl (pur 2 rfl ?_)
 refine Z1 rfl ?_ ?_<;>intro hc5<;>try simp only [cS] at hc5
 have hz0:now=0:=by omega
 refine Z7 (ZW (by decide) (Z8 (Z8 (Zi (Z0 ?_)))))
 refine Za [0,1,3,7,0,0,63] (tks 0 3 (.ld 3 (.ld 4 (.ld 5 (.big 6 .done))))) Zl (by kernel_rfl) ?_
 refine Zg 1 rfl (tk rfl (PE.nilCheck rfl) rfl (tk rfl (PE.fA Z0n rfl) rfl (ld rfl rfl (lfB (sz:=4) Z2U rfl) rfl (ld rfl rfl (lhA (plc m c) Z12 rfl rfl rfl) rfl (ld rfl rfl (lhA (svl ((cnt r.d.h.gaps.length now)) (now) (false)) ZS rfl rfl rfl) rfl ?_)))))
 refine mpu kv1 [(m:Int),(c:Int)] (v:=svv ((cnt r.d.h.gaps.length now)) (now) (false)) rfl Z1a (KeyT.of Z18 Z1b) rfl rfl rfl rfl hme.len ?_
 refine bgT (sqt 2 rfl (spL rfl rfl (lhA (svl ((cnt r.d.h.gaps.length now)) (now) (false)) ZS rfl rfl rfl) rfl ?_))
 refine Zy (l':=svl ((cnt r.d.h.gaps.length now)) (now) (false)) rfl rfl rfl Z0Y rfl rfl rfl rfl (nl rfl) ?_
 refine Z4 ?_
 have hfin:Z5E r.d.h.gaps r.K r.sp m c ((cnt r.d.h.gaps.length now)) (now) (false):=by subst hz0;exact BI.endTake hgl hbi htk hlt9
 exact Z9 (vs:=[_]) rfl (.cons (RV.cell rfl (lhA (svl ((cnt r.d.h.gaps.length now)) (now) (false)) ZS rfl rfl rfl)) .nil) rfl ⟨_,_,_,_,rfl,hfin,hme.put hfin,rfl,rfl⟩ (fun w h=>(((h.del b11).del b7).del b4).del b3)
 have h0:now≠0:=by omega
 refine Z3 (sqr 5 rfl (pur 1 rfl (sp rfl (PE.sub rfl rfl (by omega)) rfl (pur 1 rfl ?_))))
 rw [show (now:Int)-1=((now-1:Nat):Int) from by omega]
 refine sp rfl (PE.andN (m:=now-1) (n:=(Z0l r.d.h.gaps m c)) rfl rfl rfl (by omega) (by have:=Z0a r.d.h.gaps m c;have:2 ^ r.d.h.gaps.length≤2 ^ 10:=Nat.pow_le_pow_right (by decide) hgl;have e9:(2:Nat) ^ 10=1024:=rfl;omega)) rfl (pur 1 rfl ?_)
 have hlt:(now-1)&&&(Z0l r.d.h.gaps m c)<now:=Nat.lt_of_le_of_lt Nat.and_le_left (by omega)
 exact Zh ⟨((now-1)&&&(Z0l r.d.h.gaps m c),(cnt r.d.h.gaps.length now),now,false,kv1),by dsimp only;rw [Nat.and_assoc,Nat.and_self],hbi.take hsub h0 htk hlt9,hme⟩ hlt (fun w h=>h.del b11)
 exact absurd hc4 (by simp;omega)
 have hno:∀ n9,Cnd r.d.h.gaps r.K r.sp m c now n9→n≤n9:=fun n9 hcn=>by
   obtain ⟨p1,p2,p3,p4⟩:=hcn
   exact absurd p3 (by omega)
 refine Z3 (sqt 2 rfl (pur 2 rfl ?_))
 refine Z1 rfl ?_ ?_<;>intro hc5<;>try simp only [cS] at hc5
 have hz0:now=0:=by omega
 refine Z7 (ZW (by decide) (Z8 (Z8 (Zi (Z0 ?_)))))
 refine Za [0,1,3,7,0,0,63] (tks 0 3 (.ld 3 (.ld 4 (.ld 5 (.big 6 .done))))) Zl (by kernel_rfl) ?_
 refine Zg 1 rfl (tk rfl (PE.nilCheck rfl) rfl (tk rfl (PE.fA Z0n rfl) rfl (ld rfl rfl (lfB (sz:=4) Z2U rfl) rfl (ld rfl rfl (lhA (plc m c) Z12 rfl rfl rfl) rfl (ld rfl rfl (lhA (svl (n) (l) (lost)) ZS rfl rfl rfl) rfl ?_)))))
 refine mpu kv1 [(m:Int),(c:Int)] (v:=svv (n) (l) (lost)) rfl Z1a (KeyT.of Z18 Z1b) rfl rfl rfl rfl hme.len ?_
 refine bgT (sqt 2 rfl (spL rfl rfl (lhA (svl (n) (l) (lost)) ZS rfl rfl rfl) rfl ?_))
 refine Zy (l':=svl (n) (l) (lost)) rfl rfl rfl Z0Y rfl rfl rfl rfl (nl rfl) ?_
 refine Z4 ?_
 have hfin:Z5E r.d.h.gaps r.K r.sp m c (n) (l) (lost):=by subst hz0;exact BI.endNo hgl hbi hno
 exact Z9 (vs:=[_]) rfl (.cons (RV.cell rfl (lhA (svl (n) (l) (lost)) ZS rfl rfl rfl)) .nil) rfl ⟨_,_,_,_,rfl,hfin,hme.put hfin,rfl,rfl⟩ (fun w h=>(((h.del b11).del b7).del b4).del b3)
 have h0:now≠0:=by omega
 refine Z3 (sqr 5 rfl (pur 1 rfl (sp rfl (PE.sub rfl rfl (by omega)) rfl (pur 1 rfl ?_))))
 rw [show (now:Int)-1=((now-1:Nat):Int) from by omega]
 refine sp rfl (PE.andN (m:=now-1) (n:=(Z0l r.d.h.gaps m c)) rfl rfl rfl (by omega) (by have:=Z0a r.d.h.gaps m c;have:2 ^ r.d.h.gaps.length≤2 ^ 10:=Nat.pow_le_pow_right (by decide) hgl;have e9:(2:Nat) ^ 10=1024:=rfl;omega)) rfl (pur 1 rfl ?_)
 have hlt:(now-1)&&&(Z0l r.d.h.gaps m c)<now:=Nat.lt_of_le_of_lt Nat.and_le_left (by omega)
 exact Zh ⟨((now-1)&&&(Z0l r.d.h.gaps m c),n,l,lost,kv1),by dsimp only;rw [Nat.and_assoc,Nat.and_self],hbi.no hsub h0 hno,hme⟩ hlt (fun w h=>h.del b11)
 try simp only [cS] at g62
 have hno:∀ n9,Cnd r.d.h.gaps r.K r.sp m c now n9→n≤n9:=fun n9 hcn=>by
   obtain ⟨p1,p2,p3,p4⟩:=hcn
   rcases p4 with ⟨_,p5⟩ | ⟨_,k,p5,_⟩<;>omega
 refine Zg 1 rfl ?_
 refine ldN rfl rfl rfl rfl rfl rfl rfl rfl ?_
 refine Zg 3 rfl ?_
 refine ldN rfl rfl rfl rfl rfl rfl rfl rfl ?_
 refine Zg 3 rfl ?_
 refine Zt rfl ?_
 refine Z3 (sqt 2 rfl (pur 2 rfl ?_))
 refine Z1 rfl ?_ ?_<;>intro hc5<;>try simp only [cS] at hc5
 have hz0:now=0:=by omega
 refine Z7 (ZW (by decide) (Z8 (Z8 (Zi (Z0 ?_)))))
 refine Za [0,1,3,7,0,0,63] (tks 0 3 (.ld 3 (.ld 4 (.ld 5 (.big 6 .done))))) Zl (by kernel_rfl) ?_
 refine Zg 1 rfl (tk rfl (PE.nilCheck rfl) rfl (tk rfl (PE.fA Z0n rfl) rfl (ld rfl rfl (lfB (sz:=4) Z2U rfl) rfl (ld rfl rfl (lhA (plc m c) Z12 rfl rfl rfl) rfl (ld rfl rfl (lhA (svl (n) (l) (lost)) ZS rfl rfl rfl) rfl ?_)))))
 refine mpu kv1 [(m:Int),(c:Int)] (v:=svv (n) (l) (lost)) rfl Z1a (KeyT.of Z18 Z1b) rfl rfl rfl rfl hme.len ?_
 refine bgT (sqt 2 rfl (spL rfl rfl (lhA (svl (n) (l) (lost)) ZS rfl rfl rfl) rfl ?_))
 refine Zy (l':=svl (n) (l) (lost)) rfl rfl rfl Z0Y rfl rfl rfl rfl (nl rfl) ?_
 refine Z4 ?_
 have hfin:Z5E r.d.h.gaps r.K r.sp m c (n) (l) (lost):=by subst hz0;exact BI.endNo hgl hbi hno
 exact Z9 (vs:=[_]) rfl (.cons (RV.cell rfl (lhA (svl (n) (l) (lost)) ZS rfl rfl rfl)) .nil) rfl ⟨_,_,_,_,rfl,hfin,hme.put hfin,rfl,rfl⟩ (fun w h=>(((h.del b11).del b7).del b4).del b3)
 have h0:now≠0:=by omega
 refine Z3 (sqr 5 rfl (pur 1 rfl (sp rfl (PE.sub rfl rfl (by omega)) rfl (pur 1 rfl ?_))))
 rw [show (now:Int)-1=((now-1:Nat):Int) from by omega]
 refine sp rfl (PE.andN (m:=now-1) (n:=(Z0l r.d.h.gaps m c)) rfl rfl rfl (by omega) (by have:=Z0a r.d.h.gaps m c;have:2 ^ r.d.h.gaps.length≤2 ^ 10:=Nat.pow_le_pow_right (by decide) hgl;have e9:(2:Nat) ^ 10=1024:=rfl;omega)) rfl (pur 1 rfl ?_)
 have hlt:(now-1)&&&(Z0l r.d.h.gaps m c)<now:=Nat.lt_of_le_of_lt Nat.and_le_left (by omega)
 exact Zh ⟨((now-1)&&&(Z0l r.d.h.gaps m c),n,l,lost,kv1),by dsimp only;rw [Nat.and_assoc,Nat.and_self],hbi.no hsub h0 hno,hme⟩ hlt (fun w h=>h.del b11)
 try simp only [cS] at g56
 have hno:∀ n9,Cnd r.d.h.gaps r.K r.sp m c now n9→n≤n9:=fun n9 hcn=>by
   obtain ⟨p1,p2,p3,p4⟩:=hcn
   omega
 refine Zg 2 rfl ?_
 refine ldN rfl rfl rfl rfl rfl rfl rfl rfl ?_
 refine Zg 4 rfl ?_
 refine ldN rfl rfl rfl rfl rfl rfl rfl rfl ?_
 refine Zg 3 rfl ?_
 refine ldN rfl rfl rfl rfl rfl rfl rfl rfl ?_
 refine Zg 3 rfl ?_
 refine Zt rfl ?_
 refine Z3 (sqt 2 rfl (pur 2 rfl ?_))
 refine Z1 rfl ?_ ?_<;>intro hc5<;>try simp only [cS] at hc5
 have hz0:now=0:=by omega
 refine Z7 (ZW (by decide) (Z8 (Z8 (Zi (Z0 ?_)))))
 refine Za [0,1,3,7,0,0,63] (tks 0 3 (.ld 3 (.ld 4 (.ld 5 (.big 6 .done))))) Zl (by kernel_rfl) ?_
 refine Zg 1 rfl (tk rfl (PE.nilCheck rfl) rfl (tk rfl (PE.fA Z0n rfl) rfl (ld rfl rfl (lfB (sz:=4) Z2U rfl) rfl (ld rfl rfl (lhA (plc m c) Z12 rfl rfl rfl) rfl (ld rfl rfl (lhA (svl (n) (l) (lost)) ZS rfl rfl rfl) rfl ?_)))))
 refine mpu kv1 [(m:Int),(c:Int)] (v:=svv (n) (l) (lost)) rfl Z1a (KeyT.of Z18 Z1b) rfl rfl rfl rfl hme.len ?_
 refine bgT (sqt 2 rfl (spL rfl rfl (lhA (svl (n) (l) (lost)) ZS rfl rfl rfl) rfl ?_))
 refine Zy (l':=svl (n) (l) (lost)) rfl rfl rfl Z0Y rfl rfl rfl rfl (nl rfl) ?_
 refine Z4 ?_
 have hfin:Z5E r.d.h.gaps r.K r.sp m c (n) (l) (lost):=by subst hz0;exact BI.endNo hgl hbi hno
 exact Z9 (vs:=[_]) rfl (.cons (RV.cell rfl (lhA (svl (n) (l) (lost)) ZS rfl rfl rfl)) .nil) rfl ⟨_,_,_,_,rfl,hfin,hme.put hfin,rfl,rfl⟩ (fun w h=>(((h.del b11).del b7).del b4).del b3)
 have h0:now≠0:=by omega
 refine Z3 (sqr 5 rfl (pur 1 rfl (sp rfl (PE.sub rfl rfl (by omega)) rfl (pur 1 rfl ?_))))
 rw [show (now:Int)-1=((now-1:Nat):Int) from by omega]
 refine sp rfl (PE.andN (m:=now-1) (n:=(Z0l r.d.h.gaps m c)) rfl rfl rfl (by omega) (by have:=Z0a r.d.h.gaps m c;have:2 ^ r.d.h.gaps.length≤2 ^ 10:=Nat.pow_le_pow_right (by decide) hgl;have e9:(2:Nat) ^ 10=1024:=rfl;omega)) rfl (pur 1 rfl ?_)
 have hlt:(now-1)&&&(Z0l r.d.h.gaps m c)<now:=Nat.lt_of_le_of_lt Nat.and_le_left (by omega)
 exact Zh ⟨((now-1)&&&(Z0l r.d.h.gaps m c),n,l,lost,kv1),by dsimp only;rw [Nat.and_assoc,Nat.and_self],hbi.no hsub h0 hno,hme⟩ hlt (fun w h=>h.del b11)
 exact Z0f
theorem Z5U (r:Rc) (hd:r.d.Ok) (hK:r.K<2 ^ 7) (hsp:r.sp≤1000):∀ q,Zol r q
 | 0=>Z4T r hd hK hsp 0 (fun _ h=>by cases h)
 | q + 1 => Z4T r hd hK hsp (q + 1) (fun q9 h => by
     obtain rfl:q=q9:=Nat.succ.inj h
     exact Z5U r hd hK hsp q)
theorem ZgX:cal Tryz.prog 215=true:=by kernel_rfl
theorem ZpF:ZD Tryz.prog 322=some [(0,1),(1,1),(2,1),(3,1)]:=by kernel_rfl
theorem Zqc:Zp Tryz.prog 322=some ([.pointer none,.int .i64 0,.int .i64 0,.map none]):=by kernel_rfl
def Hse.rcE (h:Hse) (fr to_:List Int) (sp:Int):Int:=bif decide (h.botE fr to_≠0) then h.botE fr to_ else bif !inB sp 0 10 then 3 else 0
abbrev rcD (h:Hse) (ag as_:Option Addr) (cg cs:Nat) (to_:List Int) (sp:Int) (bd br mm:Nat):Rc:=⟨dkA h ag as_ cg cs bd,br,msk to_,sp.toNat,mm⟩
set_option maxHeartbeats 400000 in
theorem Zin (h:Hse) (ag as_:Option Addr) (cg cs:Nat) (hlg:h.gaps.length≤9223372036854775807) (hls:h.sights.length≤9223372036854775807) (fr to_:List Int) (af at_:Option Addr) (cf ct:Nat) (hlf:fr.length≤1000000) (hlt:to_.length≤1000000) (hfc:fr.length≤cf) (htc:to_.length≤ct) (spd:Int) (H:Z6) (R:Z5) [hG:MemRows ag 2 (grows h.gaps) R] [hS:MemRows as_ 3 (srows h.sights) R] [hF:MemRows af 1 (irows fr) R] [hT:MemRows at_ 1 (irows to_) R] :
    Fn Tryz.prog 214 [h.v (h.sg ag cg) (h.ss as_ cs),.slice af fr.length cf,.slice at_ to_.length ct,.int .i64 spd] H R (fun v H' R'=>(h.rcE fr to_ spd≠0∧v = .tuple #[.pointer none,.int .i64 (h.rcE fr to_ spd)]∧H'=H∧R'=R)∨(h.rcE fr to_ spd=0∧∃ bd br mm,v = .tuple #[.pointer (some ⟨br,0,none⟩),.int .i64 0]∧H'=(mm,ZJ true [])::H∧R'=RowsA (some ⟨br,0,none⟩) 4 [(rcD h ag as_ cg cs to_ spd bd br mm).row]::RowsA (some ⟨bd,0,none⟩) 4 [(dkA h ag as_ cg cs bd).row]::R)):=by
 refine Zc Tryz.func214 rfl Tryz.ntmps214 rfl ?_
 refine sqt 3 rfl (bx rfl rfl rfl (fun b4=>pur 2 rfl (Z0 (sqt 5 rfl (spL rfl rfl (lhA (htl h (h.sg ag cg) (h.ss as_ cs)) ZeP rfl rfl rfl) rfl (pur 2 rfl ?_))))))
 refine clV rfl ZmH rfl rfl (ZgE h ag as_ cg cs hlg hls fr to_ af at_ cf ct (by omega) (by omega) hfc htc _ _) ?_
 refine pur 1 rfl (sqt 2 rfl (pur 2 rfl ?_))
 refine Z1 rfl ?_ ?_<;>intro hc0
 have hbe:h.botE fr to_≠0:=of_decide_eq_true hc0
 have e:h.rcE fr to_ spd=h.botE fr to_:=by unfold Hse.rcE;rw [dT hbe];rfl
 refine sqt 3 rfl (pur 3 rfl (Z4 ?_))
 exact rtB rfl rfl rfl rfl (.inl ⟨by rw [e];exact hbe,by rw [e]<;>rfl,rfl,rfl⟩) (fun w h9=>h9.del b4)
 have hbe:h.botE fr to_=0:=Classical.byContradiction fun e=>by rw [decide_eq_true e] at hc0;cases hc0
 have hb:=Z9B hbe
 obtain ⟨q1,q2,q3,q4,q5,q6⟩:=Z3g hb
 refine Z3 (Z0 (sqt 3 rfl (pur 1 rfl ?_)))
 refine clV rfl Z9I rfl rfl (Z3K _ _ _ _ _) ?_
 refine pur 1 rfl ?_
 refine Z1 rfl ?_ ?_<;>intro hc1
 have hin:(!inB spd 0 10)=true:=hc1
 have e:h.rcE fr to_ spd=3:=by unfold Hse.rcE;rw [hbe,hin];rfl
 refine sqt 2 rfl (pur 2 rfl (Z4 ?_))
 exact rtB rfl rfl rfl rfl (.inl ⟨by rw [e];decide,by rw [e]<;>rfl,rfl,rfl⟩) (fun w h9=>h9.del b4)
 have hin:(!inB spd 0 10)=false:=hc1
 have e:h.rcE fr to_ spd=0:=by unfold Hse.rcE;rw [hbe,hin];rfl
 have hsp:0≤spd∧spd≤10:=by simpa [inB] using hin
 refine Z3 (sqt 10 rfl (spL rfl rfl (lhA (htl h (h.sg ag cg) (h.ss as_ cs)) ZeP rfl rfl rfl) rfl ?_))
 refine cl rfl ZmG rfl rfl (Zfa h ag as_ cg cs _ _) ?_
 rintro _ _ _ ⟨bd,rfl,rfl,rfl⟩
 refine pur 1 rfl ?_
 refine clV rfl ZgX rfl rfl (ZkJ to_ (fun k hk=>by have:=q2 k hk;omega) hlt at_ ct _ _) ?_
 refine pur 1 rfl ?_
 refine mkm rfl rfl true (fun mm=>?_)
 refine sp rfl (PE.build (out:=[_,_,_,_]) ZpF Zqc rfl rfl) rfl (bx rfl rfl rfl (fun b28=>pur 2 rfl (Z4 ?_)))
 refine Sy.heap (fun w h9=>St.rows (sz:=4) (rows:=[(rcD h ag as_ cg cs to_ spd bd b28 mm).row]) (rest:=[]) (by have h8:=h9.pull b28;show St ((b28,cel _ [.pointer (some ⟨bd,0,none⟩),.int .i64 ((msk to_:Nat):Int),.int .i64 ((spd.toNat:Nat):Int),.map (some mm)])::_) _ w;rw [show ((spd.toNat:Nat):Int)=spd by omega];exact h8) (by simp [Rc.row])) ?_
 exact rtB rfl rfl rfl rfl (.inr ⟨e,bd,b28,mm,rfl,rfl,rfl⟩) (fun w h9=>h9.del b4)
theorem ZqL:apT Tryz.prog 44=some (23,1,24):=by kernel_rfl
theorem ZlR:cal Tryz.prog 214=true:=by kernel_rfl
theorem Z8Y:ZG Tryz.prog 326 1=some 1:=by kernel_rfl
structure PL where
 a:Option Addr
 c:Nat
 l:List Int
def ZdY (x:PL):List Value:=[.slice x.a x.l.length x.c]
def Z1o (l:List PL):List (List Value):=l.map ZdY
def Inn (l:List PL) (w:World):Prop:=∀ x∈l,RowsA x.a 1 (irows x.l) w
def lls (l:List PL):List (List Int):=l.map (·.l)
theorem Z1F (l:List PL):(Z1o l).length=l.length:=List.length_map _
theorem Zhy {l:List PL} {k:Nat} {x:PL} (h:l[k]?=some x):(Z1o l)[k]?=some (ZdY x):=by simp [Z1o,h]
theorem Zdw (l:List PL):(lls l).length=l.length:=List.length_map _
theorem St.inn {H:Z6} {R:Z5} {w:World} {l:List PL} {x:PL} [m:MemF (Inn l) R] (h:St H R w) (hx:x∈l):St H (RowsA x.a 1 (irows x.l)::R) w :=
 h.also fun _ hw=>hw _ m.mem x hx
theorem PE.fieldV {P:Program} {L:Zn} {d:Option Tmp} {ty:TypeId} {pos:String} {af:Array Edge} {gg:Option (Nat×Bool)} {T k e o:Nat} {x:Operand} {vs:List Value} {v:Value} (hF:fTy P T k=some (e,o)) (hE:Z0c P e=true) (hx:ev L x=some (.agg vs.toArray)) (hv:vs[o]?=some v) :
   PE P L ⟨d,.field T x k,ty,pos,af,gg⟩ v:=fun ρ hρ w=>by
 unfold fTy at hF
 split at hF
 · rename_i fs hu
   obtain ⟨f,hf,he⟩:=Option.map_eq_some_iff.1 hF
   cases he
   simp [execOp,hρ _ _ hx,Instr.field,Sem.run_bind,Sem.run_pure,run_underlying hu,Result.andThen,hf,asAgg,part,Z0L hE,hv]
 · cases hF
theorem St.innSnoc {H:Z6} {R:Z5} {w:World} {l:List PL} (x:PL) [m:MemF (Inn l) R] [n:MemRows x.a 1 (irows x.l) R] (h:St H R w):St H (Inn (l++[x])::R) w:=h.also fun w' hw y hy=>by
 rcases List.mem_append.1 hy with h1 | h1
 · exact hw _ m.mem y h1
 · rw [List.mem_singleton.1 h1];exact hw _ n.mem
theorem St.inn0 {H:Z6} {R:Z5} {w:World} (h:St H R w):St H (Inn []::R) w:=h.also fun w' hw y hy=>by cases hy
theorem Z9S {gs:List Gp} {c m:Nat} (hw:Wth gs 7) (hm:m<2 ^ 7) (h:spr gs c m≠m):cnt 7 m<cnt 7 (spr gs c m):=by
 have hex:∃ k,(spr gs c m).testBit k=true∧m.testBit k=false:=Classical.byContradiction fun hn=>h (Z0K fun k=>by
   cases hb:m.testBit k with
   | true=>exact Z1q hb
   | false =>
     cases hb2:(spr gs c m).testBit k with
     | false=>rfl
     | true=>exact absurd ⟨k,hb2,hb⟩ hn)
 obtain ⟨k,h3,h4⟩:=hex
 unfold cnt
 exact Z57 (fun x _ hx=>Z1q hx) ⟨k,List.mem_range.2 (Z2e (Z6d hw hm) h3),h3,h4⟩
theorem Z2N (l:List PL) (x:PL):Z1o l++[ZdY x]=Z1o (l++[x]):=by simp [Z1o]
theorem Z6Z (l:List PL) (x:PL):lls (l++[x])=lls l++[x.l]:=by simp [lls]
def Zop (h:Hse) (fr to_:List Int) (spd:Int) (H:Z6) (R:Z5):Value→Z6→Z5→Prop:=fun v H' R'=>H'=H∧((h.rcE fr to_ spd≠0∧v = .tuple #[.slice none 0 0,.int .i64 (h.rcE fr to_ spd)]∧R'=R) ∨
 (h.rcE fr to_ spd=0∧(∀ n,¬ Pl h.gaps (msk to_) spd.toNat (msk fr) 0 n)∧v = .tuple #[.slice none 0 0,.int .i64 6]∧R'=R) ∨
 (h.rcE fr to_ spd=0∧∃ (ls:List Nat) (pl:List PL) (a:Option Addr) (c:Nat),lls pl=ls.map Z3s∧pl.length≤8∧pl.length≤c∧(∀ l∈ls,l<2 ^ h.gaps.length)∧RunP h.gaps (msk to_) spd.toNat (msk fr) 0 ls∧Lst (Pl h.gaps (msk to_) spd.toNat (msk fr) 0) (ZeS h.gaps ls)∧v = .tuple #[.slice a pl.length c,.int .i64 0]∧R'=RowsA a 1 (Z1o pl)::Inn pl::R))
theorem ZnF {h:Hse} {fr to_:List Int} {spd:Int} (he:h.rcE fr to_ spd=0):h.Bot fr to_∧0≤spd∧spd≤10:=by
 unfold Hse.rcE at he
 by_cases h1:h.botE fr to_=0
 · rw [decide_eq_false (fun e=>e h1),cond_false] at he
   cases h2:inB spd 0 10 with
   | false=>rw [h2] at he;cases he
   | true=>exact ⟨Z9B h1,by simpa [inB] using h2⟩
 · rw [decide_eq_true h1,cond_true] at he;exact absurd he h1
theorem Seg.lt {gs:List Gp} {K sp:Nat} (hw:Wth gs 7):∀ {ls:List Nat} {m c m' c':Nat},Seg gs K sp m c ls m' c'→m<2 ^ 7→c<2 ^ gs.length→m'<2 ^ 7∧c'<2 ^ gs.length
 | [],m,c,m',c',⟨h1,h2⟩,h3,h4=>by subst h1;subst h2;exact ⟨h3,h4⟩
 | l::ls,m,c,m',c',⟨h1,h2⟩,h3,h4=>Seg.lt hw h2 (Z6d hw h3) (Nat.or_lt_two_pow h4 h1.1)
set_option maxHeartbeats 1000000 in
theorem Zkq (h:Hse) (ag as_:Option Addr) (cg cs:Nat) (hlg:h.gaps.length≤9223372036854775807) (hls:h.sights.length≤9223372036854775807) (fr to_:List Int) (af at_:Option Addr) (cf ct:Nat) (hlf:fr.length≤1000000) (hlt:to_.length≤1000000) (hfc:fr.length≤cf) (htc:to_.length≤ct) (spd:Int) (H:Z6) (R:Z5) [hG:MemRows ag 2 (grows h.gaps) R] [hS:MemRows as_ 3 (srows h.sights) R] [hF:MemRows af 1 (irows fr) R] [hT:MemRows at_ 1 (irows to_) R] :
    Fn Tryz.prog 139 [h.v (h.sg ag cg) (h.ss as_ cs),.slice af fr.length cf,.slice at_ to_.length ct,.int .i64 spd] H R (Zop h fr to_ spd H R):=by
 refine Zc Tryz.func139 rfl Tryz.ntmps139 rfl ?_
 refine sqt 3 rfl (bx rfl rfl rfl (fun b4=>pur 2 rfl (sqt 10 rfl (spL rfl rfl (lhA (htl h (h.sg ag cg) (h.ss as_ cs)) ZeP rfl rfl rfl) rfl (pur 3 rfl ?_)))))
 refine cl rfl ZlR rfl rfl (Zin h ag as_ cg cs hlg hls fr to_ af at_ cf ct hlf hlt hfc htc spd _ _) ?_
 rintro _ _ R1 (⟨hre,rfl,rfl,hR1⟩ | ⟨hre,bd,br,mm,rfl,rfl,hR1⟩)<;>obtain rfl:=hR1.symm<;>clear hR1
 refine pur 5 rfl (Z0 (sqt 2 rfl (pur 2 rfl ?_)))
 refine Z1 rfl ?_ ?_<;>intro hc0
 refine sqt 3 rfl (pur 3 rfl (Z4 ?_))
 exact rtB rfl rfl rfl rfl ⟨rfl,.inl ⟨hre,rfl,rfl⟩⟩ (fun w h9=>h9.del b4)
 exact absurd hc0 (by simp [hre])
 refine pur 5 rfl (Z0 (sqt 2 rfl (pur 2 rfl ?_)))
 refine Z1 rfl ?_ ?_<;>intro hc0
 exact absurd hc0 (by simp)
 obtain ⟨hb,hs0,hs10⟩:=ZnF hre
 obtain ⟨q1,q2,q3,q4,q5,q6⟩:=Z3g hb
 have hok:=hb.ok
 have hgl:=hok.gl
 have hw7:Wth h.gaps 7:=fun g hg=>by have:=hok.gaps g hg;have:=hok.bins;omega
 have hS7:msk fr<2 ^ 7:=Z4l fun x hx=>q1 x hx
 have hK7:msk to_<2 ^ 7:=Z4l fun x hx=>q2 x hx
 have htwo:Two h.gaps (msk fr) (msk to_):=⟨hw7,fun i g hg=>by have:=hok.gaps g (List.mem_of_getElem? hg);omega,hS7,hK7,fun v hv=>by
   cases hk:(msk to_).testBit v with
   | false=>rfl
   | true=>exact absurd ((ZU (fun k hk=>(q2 k hk).1) v).1 hk) (hb.no _ ((ZU (fun k hk=>(q1 k hk).1) v).1 hv))⟩
 have hK:(rcD h ag as_ cg cs to_ spd bd br mm).K<2 ^ 7:=hK7
 have hsp:(rcD h ag as_ cg cs to_ spd bd br mm).sp≤1000:=by show spd.toNat≤1000;omega
 refine Z3 (Z0 (sqt 8 rfl (pur 1 rfl (sp rfl (PE.nilCheck rfl) rfl (sp rfl (PE.fA Z8X rfl) rfl (spL rfl rfl (lfB (sz:=4) Z7c rfl) rfl (pur 2 rfl ?_)))))))
 refine cl rfl ZmI rfl rfl (Zkw (dkA h ag as_ cg cs bd) (Z5W h ag as_ cg cs hb.ok bd) fr to_ af at_ cf ct q1 q2 q3 (by omega) hb.no _ _) ?_
 rintro _ _ R1 ⟨fl,V,a,c,hfl,hfw,hsh,rfl,hcc,rfl,hR1⟩
 obtain rfl:=hR1.symm
 clear hR1
 have hop:=Zh9 h ag as_ cg cs bd
 rw [hop] at hsh
 have hCM:ZiF (dkA h ag as_ cg cs bd).h.gaps (dkA h ag as_ cg cs bd).cl (Z2T V)=cutM (Z2T V) h.gaps:=Z7P _ _
 rw [hCM] at hcc ⊢
 obtain ⟨hcut,hshut⟩:=Shn.cut htwo hsh hfw
 obtain ⟨CU,hCU⟩:∃ CU,CU=cutM (Z2T V) h.gaps:=⟨_,rfl⟩
 have hcl:=ZcB (Z2T V) h.gaps
 have hcn:=Z9V (Z2T V) h.gaps
 have hcm:=ZcC hgl (Z2T V)
 rw [← hCU] at hcc hcut hshut hcl hcn hcm ⊢
 refine pur 1 rfl (sqt 4 rfl (pur 1 rfl (sp rfl (PE.lenSl ZO rfl) rfl (pur 2 rfl ?_))))
 refine Z1 rfl ?_ ?_<;>intro hc1<;>try simp only [cS] at hc1
 refine sqt 4 rfl (pur 1 rfl ?_)
 refine bsl (out:=[_]) rfl ZpV Zog rfl rfl rfl rfl rfl rfl (fun b40=>?_)
 refine pur 2 rfl (Z4 ?_)
 refine Sy.heap (fun w h9=>St.rows (sz:=1) (rows:=Z1o [⟨a,c,CU⟩]) (rest:=[]) (h9.pull b40) (by simp [Z1o,ZdY])) ?_
 refine Sy.heap (fun w h9=>St.inn0 h9) ?_
 refine Sy.heap (fun w h9=>(show St _ (Inn [⟨a,c,CU⟩]::_) w from St.innSnoc (l:=[]) ⟨a,c,CU⟩ h9)) ?_
 exact rtB rfl rfl rfl rfl ⟨rfl,.inr (.inr ⟨hre,[msk CU],[⟨a,c,CU⟩],some ⟨b40,0,none⟩,1,by show [CU]=[Z3s (msk CU)];rw [hcm],by show 1≤8;decide,Nat.le_refl _,fun l hl=>by rw [List.mem_singleton.1 hl];exact hcl,RunP.once hshut hcl (by omega),by show Lst _ (cnt _ _+0);rw [hcn];exact Cut.plan hw7 hS7 hcut (by omega),rfl,rfl⟩)⟩ (fun w h9=>St.sub ((h9.del mm).del b4))
 refine Z3 (sqt 5 rfl (pur 1 rfl ?_))
 refine clV rfl ZgX rfl rfl (ZkJ fr (fun k hk=>by have:=q1 k hk;omega) hlf af cf _ _) ?_
 refine sp rfl (PE.build (out:=[_,_]) Z99 Z4v rfl rfl) rfl (alc rfl Z4v rfl (fun b13=>?_))
 refine Zy (l':=plc (msk fr) (0)) rfl rfl rfl Z8R rfl rfl rfl rfl (nl rfl) ?_
 refine Z0 (sqt 4 rfl (pur 1 rfl ?_))
 refine Zw mm ?_
 refine spL rfl rfl (lhA (plc (msk fr) 0) Z12 rfl rfl rfl) rfl ?_
 refine cl rfl Z9L rfl rfl (Z5U (rcD h ag as_ cg cs to_ spd bd br mm) (Z5W h ag as_ cg cs hb.ok bd) hK hsp 128 (msk fr) (0) [] _ _ hS7 (by decide) (by omega) (Memo.nil _ _ _)) ?_
 rintro _ _ R1 ⟨n,l0,lost,kv,rfl,hbs,hme,rfl,hR1⟩
 obtain rfl:=hR1.symm
 clear hR1
 rw [show svv n l0 lost = .agg (svl n l0 lost).toArray from rfl]
 refine sp rfl (PE.fieldV (vs:=svl n l0 lost) (show fTy Tryz.prog 326 2=some (4,2) from by kernel_rfl) sc4 rfl rfl) rfl ?_
 refine Z1 rfl ?_ ?_<;>intro hc2
 obtain rfl:lost=true:=hc2
 have hnp:=(hbs.resolve_right (fun h=>by cases h.1)).2.2.2
 refine sqt 2 rfl (pur 2 rfl (Z4 ?_))
 exact rtB rfl rfl rfl rfl ⟨rfl,.inr (.inl ⟨hre,hnp,rfl,rfl⟩)⟩ (fun w h9=>St.sub (((h9.del mm).del b13).del b4))
 obtain rfl:lost=false:=hc2
 have hls:=(hbs.resolve_left (fun h=>by cases h.1)).2.2.1
 clear hbs
 refine Z3 (sqt 1 rfl (pur 1 rfl (Z2 ?_)))
 skip
 refine Sy.heap (fun w h9=>St.inn0 h9) ?_
 refine Zd (ι:=(x:{x:List Nat×List PL×Nat×Nat×KV // lls x.2.1=x.1.map Z3s∧(∀ l∈x.1,l<2 ^ h.gaps.length)∧Seg h.gaps (msk to_) spd.toNat (msk fr) 0 x.1 x.2.2.1 x.2.2.2.1∧x.1.length≤cnt 7 x.2.2.1∧(∃ k,Lst (Pl h.gaps (msk to_) spd.toNat x.2.2.1 x.2.2.2.1) k∧Lst (Pl h.gaps (msk to_) spd.toNat (msk fr) 0) (ZeS h.gaps x.1+k))∧Memo h.gaps (msk to_) spd.toNat x.2.2.2.2})×OSl 23 1 (Z1o x.1.2.1)) (fun y=>⟨[(4,.pointer (some ⟨b4,0,none⟩)),(10,.pointer (some ⟨br,0,none⟩)),(13,.pointer (some ⟨b13,0,none⟩)),(14,y.2.fs)],y.2.G++((mm,ZJ true y.1.1.2.2.2.2)::(b13,cel 324 (plc y.1.1.2.2.1 y.1.1.2.2.2.1))::(b4,cel 95 (htl h (h.sg ag cg) (h.ss as_ cs)))::H),Inn y.1.1.2.1::RowsA (some ⟨br,0,none⟩) 4 [(rcD h ag as_ cg cs to_ spd bd br mm).row]::RowsA (some ⟨bd,0,none⟩) 4 [(dkA h ag as_ cg cs bd).row]::R⟩) (fun y=>128-y.1.1.2.2.1) ⟨⟨([],[],msk fr,0,kv),rfl,(fun l hl=>by cases hl),⟨rfl,rfl⟩,Nat.zero_le _,⟨n,hls,by show Lst _ (0+n);rw [Nat.zero_add];exact hls⟩,hme⟩,OSl.nil _ _⟩ ?_ (fun y=>?_)
 exact Zf (fun w h9=>St.sub h9)
 clear hme hls
 obtain ⟨⟨⟨ls,pl,m,c,kv⟩,hll,hlb,hseg,hlm,⟨k,hk,hN⟩,hme⟩,o⟩:=y
 dsimp only at hll hlb hseg hlm hk hN hme o ⊢
 have hmc:=hseg.lt hw7 hS7 (Nat.two_pow_pos _)
 have hm7:=hmc.1
 have hm128:m<128:=hm7
 have hc10:c<2 ^ 10:=Nat.lt_of_lt_of_le hmc.2 (Nat.pow_le_pow_right (by decide) hgl)
 have hc79:=Z7M 7 m
 have hpl:pl.length=ls.length:=by have:=congrArg List.length hll;rw [Zdw,List.length_map] at this;exact this
 refine Z2 (sqt 5 rfl (pur 1 rfl (spL rfl rfl (lhA (plc m c) Z12 rfl rfl rfl) rfl ?_)))
 refine Zw mm ?_
 refine cl rfl Z9L rfl rfl (Z5U (rcD h ag as_ cg cs to_ spd bd br mm) (Z5W h ag as_ cg cs hb.ok bd) hK hsp 128 (m) (c) kv _ _ hm7 hc10 (by omega) hme) ?_
 rintro _ _ R1 ⟨n9,l,lost,kv2,rfl,hbs,hme2,rfl,hR1⟩
 obtain rfl:=hR1.symm
 clear hR1
 obtain ⟨hlo,hn10,hlst,hcnd⟩:=hbs.resolve_left (fun h=>h.2.2.2 k hk.1)
 obtain rfl:=hlo
 have hnk:=hlst.unique hk
 have hwk:=hcnd.wk
 have hl10:l<2 ^ 10:=Nat.lt_of_lt_of_le hwk.1 (Nat.pow_le_pow_right (by decide) hgl)
 have hc210:=ZdS hc10 hl10
 refine alc rfl Z5D rfl (fun b15=>?_)
 refine Zy (l':=svl n9 l false) rfl rfl rfl Z0Y rfl rfl rfl rfl (nl rfl) ?_
 refine sqt 7 rfl (pur 1 rfl (sp rfl (PE.fA Z8Y rfl) rfl (spL rfl rfl (lh sc3 rfl rfl) rfl ?_)))
 refine cl rfl ZgY rfl rfl (ZgG l hl10 _ _) ?_
 rintro _ _ _ ⟨o9,rfl,rfl,rfl⟩
 obtain ⟨ao,co,heo,hfz⟩:=o9.freeze
 rw [heo,irl]
 refine Sy.heap (fun w h=>hfz h) ?_
 clear hfz heo
 refine bsl (out:=[_]) rfl ZpV Zog rfl rfl rfl rfl rfl rfl (fun b55=>?_)
 refine apO (o) rfl ZqL rfl rfl (Z0y (row:=ZdY ⟨ao,co,Z3s l⟩) rfl) rfl rfl ((by rw [Z1F];simp only [List.length_singleton];omega)) rfl (fun o56=>?_)
 refine pur 1 rfl (Z0 ?_)
 refine Za [0,0,2,0,8,0,32,120,254,511,0,1024,0,4096,15360,32767,0,131071] (.tk 0 (.tk 1 (.ld 2 (.tk 3 (.ld 4 (.tk 5 (.ld 6 (.tk 7 (.tk 8 (.tk 10 (.ld 11 (.tk 12 (.ld 13 (.tk 14 (.any (.alt 9 (.tk 15 (.big 16 (.big 17 .done))) (.alt 16 (.big 9 (.tk 15 (.big 17 .done))) .stop))))))))))))))))) Zl (by kernel_rfl) ?_
 refine Sy.heap (fun w h=>St.innSnoc (l:=pl) ⟨ao,co,Z3s l⟩ h) ?_
 refine Zg 1 rfl (tk rfl (PE.fA Z03 rfl) rfl (ld rfl rfl (lh sc3 rfl rfl) rfl (tk rfl (PE.fA Z3U rfl) rfl (ld rfl rfl (lh sc3 rfl rfl) rfl (tk rfl (PE.fA Z8Y rfl) rfl (ld rfl rfl (lh sc3 rfl rfl) rfl (tk rfl (PE.orN (m:=c) (n:=l) rfl rfl (Zhq hc10 (Nat.le_refl _)) (Zhq hl10 (Nat.le_refl _))) rfl (tk rfl (PE.build (out:=[_,_]) Z99 Z4v rfl rfl) rfl (tk rfl (PE.fA Z3U rfl) rfl (ld rfl rfl (lh sc3 rfl rfl) rfl (tk rfl (PE.fA Z8Y rfl) rfl (ld rfl rfl (lh sc3 rfl rfl) rfl (tk rfl (PE.orN (m:=c) (n:=l) rfl rfl (Zhq hc10 (Nat.le_refl _)) (Zhq hl10 (Nat.le_refl _))) rfl ?_)))))))))))))
 refine ZL ?_ ?_
 refine clV rfl Z9M rfl rfl (Z4z (rcD h ag as_ cg cs to_ spd bd br mm) (Z5W h ag as_ cg cs hb.ok bd) m (c|||l) hm7 hc210 _ _) ?_
 refine bg (fun w hs=>⟨(lh sc3 rfl rfl) w hs,(lh sc3 rfl rfl) w hs,trivial,trivial,trivial,trivial⟩) ?_
 refine tk rfl (PE.build (out:=[_,_]) Z99 Z4v rfl rfl) rfl (alc rfl Z4v rfl (fun b16=>?_))
 refine bg (fun w hs=>⟨(lh sc3 rfl rfl) w hs,(lh sc3 rfl rfl) w hs,trivial⟩) ?_
 refine Zy (l':=plc ((spr h.gaps (c|||l) m)) ((c|||l))) rfl rfl rfl Z8R rfl rfl rfl rfl (nl rfl) ?_
 refine bgT (Z0 (sqt 5 rfl (sp rfl (PE.fA Z03 rfl) rfl (spL rfl rfl (lh sc3 rfl rfl) rfl (sp rfl (PE.fA Z03 rfl) rfl (spL rfl rfl (lh sc3 rfl rfl) rfl (pur 1 rfl ?_)))))))
 refine Z1 rfl ?_ ?_<;>intro hc3<;>try simp only [cS] at hc3
 have he2:(spr h.gaps (c|||l) m)=m:=by omega
 have hnl:n9=cnt h.gaps.length l:=by
   rcases hcnd.2.2.2 with ⟨_,h5⟩ | ⟨h5,_⟩
   · exact h5
   · exact absurd he2 h5
 obtain ⟨ac,cc,hfe,hcc9,hff⟩:=(o56.cast (Z2N pl ⟨ao,co,Z3s l⟩)).freezeC
 rw [Z1F] at hcc9 hfe
 rw [show o56.fs=_ from hfe]
 refine Sy.heap (fun w h=>hff (St.pullG o56.G h)) ?_
 refine sqt 3 rfl (pur 3 rfl (Z4 ?_))
 exact rtB rfl rfl rfl rfl ⟨rfl,.inr (.inr ⟨hre,ls++[l],pl++[⟨ao,co,Z3s l⟩],ac,cc,by rw [Z6Z,hll,List.map_append];rfl,by rw [List.length_append,List.length_singleton];omega,hcc9,fun x hx=>(List.mem_append.1 hx).elim (hlb x) (fun h=>by rw [List.mem_singleton.1 h];exact hwk.1),RunP.stop hseg hcnd he2,by rw [Z2y,← hnl,hnk];exact hN,rfl,rfl⟩)⟩ (fun w h9=>St.sub (((((h9.del b16).del b55).del b15).del mm).del b13 |>.del b4))
 have he2:(spr h.gaps (c|||l) m)≠m:=by omega
 have hgr:=Z4I he2
 have hcg9:=Z9S hw7 hm7 he2
 obtain ⟨k2,hn2,hk2⟩:∃ k2,n9=cnt h.gaps.length l+k2∧Lst (Pl h.gaps (msk to_) spd.toNat (spr h.gaps (c|||l) m) (c|||l)) k2:=by
   rcases hcnd.2.2.2 with ⟨h5,_⟩ | ⟨_,k2,h6,h7⟩
   · exact absurd h5 he2
   · exact ⟨k2,h6,h7⟩
 refine Z3 (sqr 2 rfl (spL rfl rfl (lhA (plc (spr h.gaps (c|||l) m) (c|||l)) Z12 rfl rfl rfl) rfl ?_))
 refine Zy (l':=plc ((spr h.gaps (c|||l) m)) ((c|||l))) rfl rfl rfl Z8R rfl rfl rfl rfl (nl rfl) ?_
 exact Zb ⟨⟨(ls++[l],pl++[⟨ao,co,Z3s l⟩],(spr h.gaps (c|||l) m),(c|||l),kv2),by rw [Z6Z,hll,List.map_append];rfl,fun x hx=>(List.mem_append.1 hx).elim (hlb x) (fun h=>by rw [List.mem_singleton.1 h];exact hwk.1),hseg.snoc hwk,by dsimp only;rw [List.length_append,List.length_singleton];omega,⟨k2,hk2,by dsimp only;rw [Z2y,Nat.add_assoc,← hn2,hnk];exact hN⟩,hme2⟩,o56.cast (Z2N pl ⟨ao,co,Z3s l⟩)⟩ (fun w h=>St.sub ((((h.del b16).del b55).del b15).perm (ZF [_] o56.G _)))
 refine ZL ?_ ?_
 refine alc rfl Z4v rfl (fun b16=>?_)
 refine bg (fun w hs=>⟨(lh sc3 rfl rfl) w hs,(lh sc3 rfl rfl) w hs,(lh sc3 rfl rfl) w hs,(lh sc3 rfl rfl) w hs,(lh sc3 rfl rfl) w hs,trivial⟩) ?_
 refine clV rfl Z9M rfl rfl (Z4z (rcD h ag as_ cg cs to_ spd bd br mm) (Z5W h ag as_ cg cs hb.ok bd) m (c|||l) hm7 hc210 _ _) ?_
 refine bg (fun w hs=>⟨(lh sc3 rfl rfl) w hs,(lh sc3 rfl rfl) w hs,trivial,trivial,trivial,trivial⟩) ?_
 refine tk rfl (PE.build (out:=[_,_]) Z99 Z4v rfl rfl) rfl ?_
 refine Zy (l':=plc ((spr h.gaps (c|||l) m)) ((c|||l))) rfl rfl rfl Z8R rfl rfl rfl rfl (nl rfl) ?_
 refine bgT (Z0 (sqt 5 rfl (sp rfl (PE.fA Z03 rfl) rfl (spL rfl rfl (lh sc3 rfl rfl) rfl (sp rfl (PE.fA Z03 rfl) rfl (spL rfl rfl (lh sc3 rfl rfl) rfl (pur 1 rfl ?_)))))))
 refine Z1 rfl ?_ ?_<;>intro hc3<;>try simp only [cS] at hc3
 have he2:(spr h.gaps (c|||l) m)=m:=by omega
 have hnl:n9=cnt h.gaps.length l:=by
   rcases hcnd.2.2.2 with ⟨_,h5⟩ | ⟨h5,_⟩
   · exact h5
   · exact absurd he2 h5
 obtain ⟨ac,cc,hfe,hcc9,hff⟩:=(o56.cast (Z2N pl ⟨ao,co,Z3s l⟩)).freezeC
 rw [Z1F] at hcc9 hfe
 rw [show o56.fs=_ from hfe]
 refine Sy.heap (fun w h=>hff (St.pullG o56.G h)) ?_
 refine sqt 3 rfl (pur 3 rfl (Z4 ?_))
 exact rtB rfl rfl rfl rfl ⟨rfl,.inr (.inr ⟨hre,ls++[l],pl++[⟨ao,co,Z3s l⟩],ac,cc,by rw [Z6Z,hll,List.map_append];rfl,by rw [List.length_append,List.length_singleton];omega,hcc9,fun x hx=>(List.mem_append.1 hx).elim (hlb x) (fun h=>by rw [List.mem_singleton.1 h];exact hwk.1),RunP.stop hseg hcnd he2,by rw [Z2y,← hnl,hnk];exact hN,rfl,rfl⟩)⟩ (fun w h9=>St.sub (((((h9.del b16).del b55).del b15).del mm).del b13 |>.del b4))
 have he2:(spr h.gaps (c|||l) m)≠m:=by omega
 have hgr:=Z4I he2
 have hcg9:=Z9S hw7 hm7 he2
 obtain ⟨k2,hn2,hk2⟩:∃ k2,n9=cnt h.gaps.length l+k2∧Lst (Pl h.gaps (msk to_) spd.toNat (spr h.gaps (c|||l) m) (c|||l)) k2:=by
   rcases hcnd.2.2.2 with ⟨h5,_⟩ | ⟨_,k2,h6,h7⟩
   · exact absurd h5 he2
   · exact ⟨k2,h6,h7⟩
 refine Z3 (sqr 2 rfl (spL rfl rfl (lhA (plc (spr h.gaps (c|||l) m) (c|||l)) Z12 rfl rfl rfl) rfl ?_))
 refine Zy (l':=plc ((spr h.gaps (c|||l) m)) ((c|||l))) rfl rfl rfl Z8R rfl rfl rfl rfl (nl rfl) ?_
 exact Zb ⟨⟨(ls++[l],pl++[⟨ao,co,Z3s l⟩],(spr h.gaps (c|||l) m),(c|||l),kv2),by rw [Z6Z,hll,List.map_append];rfl,fun x hx=>(List.mem_append.1 hx).elim (hlb x) (fun h=>by rw [List.mem_singleton.1 h];exact hwk.1),hseg.snoc hwk,by dsimp only;rw [List.length_append,List.length_singleton];omega,⟨k2,hk2,by dsimp only;rw [Z2y,Nat.add_assoc,← hn2,hnk];exact hN⟩,hme2⟩,o56.cast (Z2N pl ⟨ao,co,Z3s l⟩)⟩ (fun w h=>St.sub ((((h.del b16).del b55).del b15).perm (ZF [_] o56.G _)))
 exact Z0f
theorem Zl7:cal Tryz.prog 139=true:=by kernel_rfl
theorem Zi9 {h:Hse} {fr to_:List Int} (hb:h.Bot fr to_):Two h.gaps (msk fr) (msk to_):=by
 obtain ⟨q1,q2,q3,q4,q5,q6⟩:=Z3g hb
 have hok:=hb.ok
 exact ⟨fun g hg=>by have:=hok.gaps g hg;have:=hok.bins;omega,fun i g hg=>by have:=hok.gaps g (List.mem_of_getElem? hg);omega,Z4l fun x hx=>q1 x hx,Z4l fun x hx=>q2 x hx,fun v hv=>by
   cases hk:(msk to_).testBit v with
   | false=>rfl
   | true=>exact absurd ((ZU (fun k hk=>(q2 k hk).1) v).1 hk) (hb.no _ ((ZU (fun k hk=>(q1 k hk).1) v).1 hv))⟩
theorem ZlS:cal Tryz.prog 219=true:=by kernel_rfl
theorem ik3:Zaf Tryz.prog 3=some .i64:=by kernel_rfl
section steps
variable {P:Program} {r:Option Nat} {ops:Array Oper} {n:Nat} {L:Zn} {D:List Deferred} {H:Z6} {R:Z5} {K:Act→World→Prop}
 {i d:Nat} {ty:TypeId} {pos:String} {af:Array Edge}
theorem Zow {t tn e sz by_ k:Nat} {kq kn:IntKind} {s x:Operand} {zl:List Value} (ho:ops[i]?=some ⟨some d,.call { callee:=.builtin .append,args := #[s,x],argTypes := #[t,tn] },ty,pos,af,none⟩)
   (ht:apT P t=some (e,sz,by_)) (htn:Zaf P tn=some kn) (hz:Zp P e=some zl) (hs:ev L s=some (.slice none 0 0)) (hx:ev L x=some (.int kq k))
   (hk:0<k) (hs0:0<sz) (hb:k*by_≤140737488355328∧k≤9223372036854775807) (hd:Nat.blt d n=true)
   (h:∀ (b' cap':Nat) (junk:List Value),k≤cap'→cap'≤9223372036854775807→k*sz+junk.length=cap'*sz→Sy n ((d,.slice (some ⟨b',0,none⟩) k cap')::L) D ((b',cel e (Z1x k zl++junk))::H) R K):Sy n L D H R (stp P r ops i K):=fun a w ha hD hw=>by
 unfold apT at ht
 split at ht
 case h_2=>cases ht
 rename_i e' hu
 split at ht
 case h_2=>cases ht
 rename_i ie hi
 split at ht
 case h_2=>cases ht
 rename_i z hzz
 cases hzs:Nat.beq z.cells.size ie.size with
 | false=>rw [hzs] at ht;cases ht
 | true =>
 rw [hzs,cond_true] at ht
 cases ht
 have hzs:=Nat.eq_of_beq_eq_true hzs
 have hzl:z.cells.toList=zl:=by
   have:Zp P e=some z.cells.toList:=by simp [Zp,hi,hzz]
   rw [this] at hz;exact Option.some.inj hz
 have hun:P.underlying tn=some (.int kn):=by
   unfold Zaf at htn
   split at htn
   · rename_i q hq;cases htn;exact hq
   · cases htn
 have hold:(Builtin.firstCells ie.size 0 (.slice none 0 0)).run P w.drew = .ok ([]:List Value).toArray w.drew:=by
   simp [Builtin.firstCells,Sem.run_pure]
 have h2:=Lib.run_append_grow_zeros (P:=P) w t tn ty e ie z kq kn hu hun hi hzz none 0 0 [] hold k hk hs0 (by omega) (by omega) (by omega) (growslice_fits (by omega) (by rw [Nat.zero_add];exact hb.1))
 rw [Nat.zero_add] at h2
 have hge:=grownCap_ge w k 0 e
 have hcm:grownCap w k 0 e≤maxLen:=grownCap_le_maxLen w _ 0 e (by simp only [maxLen];omega)
 have hrep:∀ q,(Builtin.zeroCells z.cells q).toList=Z1x q zl:=fun q=>by rw [← hzl];simp [Builtin.zeroCells,Z1x]
 have e1:(.cells (([]:List Value).toArray++Builtin.zeroCells z.cells k++Builtin.zeroCells z.cells (grownCap w k 0 e-k)) e:Obj)=cel e (Z1x k zl++(Builtin.zeroCells z.cells (grownCap w k 0 e-k)).toList):=by
   unfold cel;congr 1;apply Array.toList_inj.1;simp [hrep]
 refine Zx ho (Zk _ rfl _) (v:=.slice (some ⟨w.heap.size,0,none⟩) k (grownCap w k 0 e)) (w':=w.drew.alloc (cel e (Z1x k zl++(Builtin.zeroCells z.cells (grownCap w k 0 e-k)).toList))) ?_
   (h w.heap.size (grownCap w k 0 e) (Builtin.zeroCells z.cells (grownCap w k 0 e-k)).toList hge (by simp only [maxLen] at hcm;omega) ?_ _ _ (ha.put (by simpa using hd) _) hD (hw.drew.alloc _))
 · simp only [execOp,resolve,invoke,builtin,Sem.run_bind,Sem.run_pure,Result.andThen,List.map_toArray,List.map_cons,List.map_nil,ha.reads _ _ hs,ha.reads _ _ hx]
   rw [e1] at h2
   rw [h2]
 · simp only [Array.length_toList,size_zeroCells,hzs,← Nat.add_mul]
   congr 1;omega
end steps
theorem Ze3 {k:Nat} {v:Value}:(Z1x k [v]).length=k:=by simp [Z1x]
def Zcv (pl:List PL) (k:Nat):List Int:=(lls (pl.take k)).flatten
theorem Z7J {pl:List PL} {k:Nat} {x:PL} (h:pl[k]?=some x):Zcv pl (k+1)=Zcv pl k++x.l:=by
 unfold Zcv lls
 rw [List.take_add_one,h,Option.toList_some,List.map_append,List.flatten_append];simp
theorem Z6u (pl:List PL):∀ k,(Zcv pl k).length≤(lls pl).flatten.length:=fun k=>by
 unfold Zcv lls
 have h:pl.map (·.l)=(pl.take k).map (·.l)++(pl.drop k).map (·.l):=by rw [← List.map_append,List.take_append_drop]
 rw [h,List.flatten_append,List.length_append];omega
theorem Z8D (k:Nat) (hk:k≤1000000) (H:Z6) (R:Z5) :
    Fn Tryz.prog 219 [.slice none 0 0,.int .i64 (k:Int)] H R (fun v H' R'=>∃ o:OSl 3 1 [],v=o.fs∧H'=o.G++H∧R'=R):=by
 refine Zc Tryz.func219 rfl Tryz.ntmps219 rfl ?_
 refine sqt 1 rfl (pur 1 rfl (Z0 (sqt 2 rfl (pur 2 rfl ?_))))
 refine Z1 rfl ?_ ?_<;>intro hc0
 simp only [decide_eq_true_eq] at hc0
 omega
 refine Z3 (Z0 (sqt 8 rfl (pur 2 rfl (sp rfl (PE.capSl ZO rfl) rfl (pur 1 rfl (sp rfl (PE.lenSl ZO rfl) rfl (sp rfl (PE.sub rfl rfl (by omega)) rfl (sp rfl (PE.sub rfl rfl (by omega)) rfl ?_))))))))
 rw [show (k:Int)-(((0:Nat):Int)-((0:Nat):Int))=(k:Int) by omega]
 refine pur 1 rfl (sqt 2 rfl (pur 2 rfl ?_))
 refine Z1 rfl ?_ ?_<;>intro hc1
 try simp only [cS] at hc1
 refine sqr 10 rfl (pur 2 rfl (sp rfl (PE.capSl ZO rfl) rfl (sp rfl (PE.slHi (h:=0) Z1H rfl rfl (by omega)) rfl (pur 1 rfl ?_))))
 refine Zow rfl Z6j ik3 zl3 rfl rfl (by omega) (by omega) (by omega) rfl (fun b2 cap2 jk2 hc1 hc2 hc3=>?_)
 refine pur 1 rfl (sp rfl (PE.lenSl ZO rfl) rfl (sp rfl (PE.slHi (h:=0) Z1H rfl rfl (by omega)) rfl (pur 1 rfl (sqt 2 rfl (pur 2 rfl (Z4 ?_))))))
 exact rtA rfl rfl rfl ⟨⟨.slice (some ⟨b2,0,none⟩) 0 cap2,[(b2,cel 3 (Z1x k [.int .i64 0]++jk2))],by simp,.inr ⟨b2,cap2,Z1x k [.int .i64 0]++jk2,rfl,rfl,by rw [List.length_append,Ze3];simp only [List.length_nil];omega,Nat.zero_le _,hc2⟩⟩,rfl,rfl,rfl⟩ idH
 refine Z3 (sqt 2 rfl (pur 2 rfl (Z4 ?_)))
 exact rtA rfl rfl rfl ⟨OSl.nil _ _,rfl,rfl,rfl⟩ idH
set_option maxHeartbeats 400000 in
theorem Z3i (pl:List PL) (ap:Option Addr) (cp:Nat) (hpl:pl.length≤1000000) (htl:(lls pl).flatten.length≤1000000) (H:Z6) (R:Z5) [hP:MemRows ap 1 (Z1o pl) R] [hI:MemF (Inn pl) R] :
    Fn Tryz.prog 140 [.slice ap pl.length cp] H R (fun v H' R'=>∃ o:OSl 3 1 (irows (lls pl).flatten),v=o.fs∧H'=o.G++H∧R'=R):=by
 refine Zc Tryz.func140 rfl Tryz.ntmps140 rfl ?_
 refine sqt 1 rfl (pur 1 rfl (sqt 1 rfl (pur 1 rfl (Z0 (sqt 3 rfl (pur 1 rfl (sp rfl (PE.lenSl Zj5 rfl) rfl (pur 1 rfl (Z2 ?_)))))))))
 refine Zd (ι:={k:Nat // k≤pl.length}) (fun k=>⟨[(0,.slice ap pl.length cp),(3,.int .i64 ((Zcv pl k.1).length:Nat)),(9,.slice ap pl.length cp),(10,.int .i64 pl.length),(11,.int .i64 k.1)],H,R⟩) (fun k=>pl.length-k.1) ⟨0,Nat.zero_le _⟩ ?_ (fun k=>?_)
 exact Zf idH
 obtain ⟨k,hk⟩:=k
 dsimp only at hk ⊢
 have hcl:=Z6u pl k
 have hcl2:=Z6u pl (k+1)
 refine sqt 1 rfl (pur 1 rfl (Z0 ?_))
 refine Z1 rfl ?_ ?_<;>intro hc0<;>try simp only [cS] at hc0
 obtain ⟨x,hx⟩:∃ x,pl[k]?=some x:=⟨_,List.getElem?_eq_getElem (by omega)⟩
 have hst:=congrArg List.length (Z7J hx)
 rw [List.length_append] at hst
 refine Zj (a:=ap) (sz:=1) (rows:=Z1o pl) (ne0 (by rw [Z1F];omega)) (fun ba oa he=>?_)
 subst he
 refine Z3 (Z0 (Z2 (sqt 3 rfl (sp rfl (PE.indexAddr Zpq rfl rfl (by omega) (by omega)) rfl (spL rfl rfl (lf0 Z2w (Zhy hx) rfl) rfl (pur 1 rfl (sqt 5 rfl (pur 2 rfl (sp rfl (PE.lenSl ZO rfl) rfl (sp rfl (PE.add rfl rfl (by omega)) rfl ?_))))))))))
 rw [show ((Zcv pl k).length:Int)+(x.l.length:Int)=((Zcv pl (k+1)).length:Int) by omega]
 refine pur 1 rfl (sqt 2 rfl (pur 2 rfl ?_))
 refine Z1 rfl ?_ ?_<;>intro hc1
 simp only [decide_eq_true_eq] at hc1
 omega
 refine Z3 (sqr 2 rfl (sp rfl (PE.add rfl rfl (by omega)) rfl (pur 1 rfl ?_)))
 exact Zb ⟨k+1,by omega⟩ idH
 obtain rfl:k=pl.length:=by omega
 refine Z7 (Z8 (Z8 (Zi (sqt 3 rfl (pur 1 rfl ?_)))))
 refine cl rfl ZlS rfl rfl (Z8D (Zcv pl pl.length).length (by omega) _ _) ?_
 rintro _ _ R1 ⟨o0,rfl,rfl,hR1⟩
 obtain rfl:=hR1.symm
 clear hR1
 refine pur 1 rfl (Z0 (sqt 3 rfl (pur 1 rfl (sp rfl (PE.lenSl Zj5 rfl) rfl (pur 1 rfl (Z2 ?_))))))
 refine Zd (ι:=(k:{k:Nat // k≤pl.length})×OSl 3 1 (irows (Zcv pl k.1))) (fun y=>⟨[(6,y.2.fs),(25,.slice ap pl.length cp),(26,.int .i64 pl.length),(27,.int .i64 y.1.1)],y.2.G++H,R⟩) (fun y=>pl.length-y.1.1) ⟨⟨0,Nat.zero_le _⟩,o0⟩ ?_ (fun y=>?_)
 exact Zf idH
 obtain ⟨⟨k,hk⟩,o⟩:=y
 dsimp only at hk o ⊢
 have hcl:=Z6u pl k
 have hcl2:=Z6u pl (k+1)
 refine sqt 1 rfl (pur 1 rfl (Z0 ?_))
 refine Z1 rfl ?_ ?_<;>intro hc2<;>try simp only [cS] at hc2
 obtain ⟨x,hx⟩:∃ x,pl[k]?=some x:=⟨_,List.getElem?_eq_getElem (by omega)⟩
 have hst:=Z7J hx
 have hsl:=congrArg List.length hst
 rw [List.length_append] at hsl
 refine Zj (a:=ap) (sz:=1) (rows:=Z1o pl) (ne0 (by rw [Z1F];omega)) (fun ba oa he=>?_)
 subst he
 refine Sy.heap (fun w h=>St.inn (x:=x) h (List.mem_of_getElem? hx)) ?_
 refine Z3 (Z0 (Z2 (sqt 3 rfl (sp rfl (PE.indexAddr Zpq rfl rfl (by omega) (by omega)) rfl (spL rfl rfl (lf0 Z2w (Zhy hx) rfl) rfl (pur 1 rfl (sqr 4 rfl (pur 2 rfl ?_))))))))
 refine apO (news:=irows x.l) o rfl Z6j rfl rfl (Zge) (irl _) (by simp [Z0j,irows,Value.oneCell']) (by rw [irl,irl];omega) rfl (fun o33=>?_)
 refine pur 1 rfl (sqr 2 rfl (sp rfl (PE.add rfl rfl (by omega)) rfl (pur 1 rfl ?_)))
 exact Zb ⟨⟨k+1,by omega⟩,o33.cast (by rw [hst];simp [irows])⟩ (fun w h=>h.ftail)
 obtain rfl:k=pl.length:=by omega
 refine Z7 (Z8 (Z8 (Zi (sqt 2 rfl (pur 2 rfl (Z4 ?_))))))
 exact rtA rfl rfl rfl ⟨o.cast (by unfold Zcv;rw [List.take_length]),rfl,rfl,rfl⟩ idH
theorem Zco:cal Tryz.prog 140=true:=by kernel_rfl
def ZqH (h:Hse) (fr to_:List Int) (spd:Int) (H:Z6) (R:Z5):Value→Z6→Z5→Prop:=fun v H' R'=>H'=H∧R'=R∧((h.rcE fr to_ spd≠0∧v = .tuple #[.int .i64 0,.int .i64 (h.rcE fr to_ spd)]) ∨
 (h.rcE fr to_ spd=0∧(∀ n,¬ Pl h.gaps (msk to_) spd.toNat (msk fr) 0 n)∧v = .tuple #[.int .i64 0,.int .i64 6]) ∨
 (h.rcE fr to_ spd=0∧∃ n:Nat,n≤10∧Lst (Pl h.gaps (msk to_) spd.toNat (msk fr) 0) n∧v = .tuple #[.int .i64 (n:Int),.int .i64 0]))
theorem ZaI {gs:List Gp} (hg:gs.length≤10):∀ {ls:List Nat},(∀ l∈ls,l<2 ^ gs.length)→((ls.map Z3s).flatten).length=ZeS gs ls
 | [],_=>rfl
 | l::ls,h=>by
   rw [List.map_cons,List.flatten_cons,List.length_append,ZaI hg (fun x hx=>h x (List.mem_cons_of_mem _ hx)),Zan (h l (by simp)) hg];rfl
theorem St.norows9 {sz:Nat} {H:Z6} {R:Z5} {w:World} (h:St H R w):St H (Inn []::RowsA none sz (Z1o [])::R) w:=St.inn0 (St.norows (sz:=sz) h)
set_option maxHeartbeats 400000 in
theorem c_Fewest (h:Hse) (ag as_:Option Addr) (cg cs:Nat) (hlg:h.gaps.length≤9223372036854775807) (hls:h.sights.length≤9223372036854775807) (fr to_:List Int) (af at_:Option Addr) (cf ct:Nat) (hlf:fr.length≤1000000) (hlt:to_.length≤1000000) (hfc:fr.length≤cf) (htc:to_.length≤ct) (spd:Int) (H:Z6) (R:Z5) [hG:MemRows ag 2 (grows h.gaps) R] [hS:MemRows as_ 3 (srows h.sights) R] [hF:MemRows af 1 (irows fr) R] [hT:MemRows at_ 1 (irows to_) R] :
    Fn Tryz.prog 73 [h.v (h.sg ag cg) (h.ss as_ cs),.slice af fr.length cf,.slice at_ to_.length ct,.int .i64 spd] H R (ZqH h fr to_ spd H R):=by
 refine Zc Tryz.func73 rfl Tryz.ntmps73 rfl ?_
 refine sqt 3 rfl (bx rfl rfl rfl (fun b4=>pur 2 rfl (sqt 10 rfl (spL rfl rfl (lhA (htl h (h.sg ag cg) (h.ss as_ cs)) ZeP rfl rfl rfl) rfl (pur 3 rfl ?_)))))
 refine cl rfl Zl7 rfl rfl (Zkq h ag as_ cg cs hlg hls fr to_ af at_ cf ct hlf hlt hfc htc spd _ _) ?_
 rintro _ _ R1 ⟨rfl,hq⟩
 rcases hq with ⟨h9,rfl,hR1⟩ | ⟨h9,hnp,rfl,hR1⟩ | ⟨h9,ls,pl,a,c,hll,hpk,hpc,hlb,hrun,hlst,rfl,hR1⟩
 all_goals obtain rfl:=hR1.symm
 all_goals clear hR1
 refine pur 5 rfl (sqt 6 rfl ?_)
 refine Sy.heap (fun w h=>St.norows9 (sz:=1) h) ?_
 refine pur 1 rfl ?_
 refine cl rfl Zco rfl rfl (Z3i [] none 0 (by decide) (by decide) _ _) ?_
 rintro _ _ R1 ⟨o,rfl,rfl,hR1⟩
 obtain rfl:=hR1.symm
 clear hR1
 obtain ⟨ao,co,heo,hfz⟩:=o.freeze
 rw [heo,irl]
 refine Sy.heap (fun w h=>hfz h) ?_
 clear hfz heo
 refine sp rfl (PE.lenSl ZO rfl) rfl (pur 3 rfl (Z4 ?_))
 exact rtB rfl rfl rfl rfl ⟨rfl,rfl,.inl ⟨h9,rfl⟩⟩ (fun w h9=>St.sub (h9.del b4))
 refine pur 5 rfl (sqt 6 rfl ?_)
 refine Sy.heap (fun w h=>St.norows9 (sz:=1) h) ?_
 refine pur 1 rfl ?_
 refine cl rfl Zco rfl rfl (Z3i [] none 0 (by decide) (by decide) _ _) ?_
 rintro _ _ R1 ⟨o,rfl,rfl,hR1⟩
 obtain rfl:=hR1.symm
 clear hR1
 obtain ⟨ao,co,heo,hfz⟩:=o.freeze
 rw [heo,irl]
 refine Sy.heap (fun w h=>hfz h) ?_
 clear hfz heo
 refine sp rfl (PE.lenSl ZO rfl) rfl (pur 3 rfl (Z4 ?_))
 exact rtB rfl rfl rfl rfl ⟨rfl,rfl,.inr (.inl ⟨h9,hnp,rfl⟩)⟩ (fun w h9=>St.sub (h9.del b4))
 refine pur 5 rfl (sqt 6 rfl ?_)
 have hgl:=(ZnF h9).1.ok.gl
 have hlen:(lls pl).flatten.length=ZeS h.gaps ls:=by rw [hll];exact ZaI hgl hlb
 have hs10:=hlst.1.few
 have hpl:pl.length=ls.length:=by have:=congrArg List.length hll;rw [Zdw,List.length_map] at this;exact this
 refine pur 1 rfl ?_
 refine cl rfl Zco rfl rfl (Z3i pl a c (by omega) (by omega) _ _) ?_
 rintro _ _ R1 ⟨o,rfl,rfl,hR1⟩
 obtain rfl:=hR1.symm
 clear hR1
 obtain ⟨ao,co,heo,hfz⟩:=o.freeze
 rw [heo,irl,hlen]
 refine Sy.heap (fun w h=>hfz h) ?_
 clear hfz heo
 refine sp rfl (PE.lenSl ZO rfl) rfl (pur 3 rfl (Z4 ?_))
 exact rtB rfl rfl rfl rfl ⟨rfl,rfl,.inr (.inr ⟨h9,ZeS h.gaps ls,by omega,hlst,rfl⟩)⟩ (fun w h9=>St.sub (h9.del b4))
theorem Zqx:ZD Tryz.prog 95=some [(0,1),(1,1),(2,1)]:=by kernel_rfl
theorem ZqB:slE Tryz.prog 92=some (97,2):=by kernel_rfl
theorem ZqE:Zp Tryz.prog 95=some ([.int .i64 0,.slice none 0 0,.slice none 0 0]):=by kernel_rfl
theorem ZmE:cal Tryz.prog 33=true:=by kernel_rfl
theorem Z1h:cal Tryz.prog 21=true:=by kernel_rfl
theorem Ziv:cal Tryz.prog 53=true:=by kernel_rfl
theorem Z8O:Zz Tryz.prog 109=some 1:=by kernel_rfl
theorem Zpp:elN Tryz.prog 22=some 1:=by kernel_rfl
theorem Z1S:ZG Tryz.prog 111 0=some 0:=by kernel_rfl
theorem Z0m:ZG Tryz.prog 111 1=some 1:=by kernel_rfl
theorem ZE:ZG Tryz.prog 111 2=some 2:=by kernel_rfl
theorem Zdi:Zaf Tryz.prog 109=some .u32:=by kernel_rfl
theorem Z6V:Z2o Tryz.prog 22=true:=by kernel_rfl
theorem Zju:ZD Tryz.prog 111=some [(0,1),(1,1),(2,1)]:=by kernel_rfl
theorem Z1d:Z0c Tryz.prog 109=true:=by kernel_rfl
theorem Zgm:Z0c Tryz.prog 22=true:=by kernel_rfl
theorem sc5:Z0c Tryz.prog 5=true:=by kernel_rfl
theorem Z7t:(Tryz.prog.underlying 109).isSome=true:=by kernel_rfl
theorem us3:(Tryz.prog.underlying 3).isSome=true:=by kernel_rfl
theorem us5:(Tryz.prog.underlying 5).isSome=true:=by kernel_rfl
theorem ZjX:Zp Tryz.prog 111=some ([.slice none 0 0,.int .i64 0,.int .u32 0]):=by kernel_rfl
def urow (x:Int):List Value:=[.int .u8 x]
def urows (l:List Int):List (List Value):=l.map urow
theorem c_Fill (g:List Int) (ag:Option Addr) (cg:Nat) (hgl:g.length≤9223372036854775807) (H:Z6) (R:Z5) :
    Fn Tryz.prog 7 [.slice ag g.length cg] H R (fun v H' R'=>∃ bk,∃ mx:Int,(0≤mx∧mx≤4294967295)∧v = .pointer (some ⟨bk,0,none⟩)∧H'=(bk,cel 111 [.slice ag g.length cg,.int .i64 (0),.int .u32 (mx)])::H∧R'=R):=by
 refine Zc Tryz.func7 rfl Tryz.ntmps7 rfl ?_
 refine sqt 1 rfl (pur 1 rfl (sqt 8 rfl (pur 2 rfl (sp rfl (PE.lenSl Z6V rfl) rfl ?_))))
 refine spE rfl (PE.convU us3 Zdi rfl) rfl ?_
 rintro _ ⟨u6,rfl,hu6⟩
 refine spE rfl (PE.xorU rfl rfl) rfl ?_
 rintro _ ⟨u7,rfl,hu7⟩
 refine sp rfl (PE.build (out:=[_,_,_]) Zju ZjX rfl rfl) rfl (bx rfl rfl rfl (fun b9=>pur 1 rfl (Z4 ?_)))
 exact rtA rfl rfl rfl ⟨b9,u7,hu7,rfl,rfl,rfl⟩ idH
theorem Z50 (g:List Int) (ag:Option Addr) (cg bk:Nat) (hgl:g.length≤9223372036854775807) (tq mx:Int) (htq:0≤tq∧tq≤1000000000) (hmx:0≤mx∧mx≤4294967295) (H:Z6) (R:Z5) [hG:MemRows ag 1 (urows g) R] :
    Fn Tryz.prog 53 [.pointer (some ⟨bk,0,none⟩)] ((bk,cel 111 [.slice ag g.length cg,.int .i64 (tq),.int .u32 (mx)])::H) R (fun v H' R'=>∃ x m':Int,(0≤x∧x≤65535)∧v = .int .i64 x∧(0≤m'∧m'≤4294967295)∧H'=(bk,cel 111 [.slice ag g.length cg,.int .i64 (tq+1),.int .u32 (m')])::H∧R'=R):=by
 refine Zc Tryz.func53 rfl Tryz.ntmps53 rfl ?_
 refine sqt 1 rfl (pur 1 rfl (Z0 (sqt 6 rfl (pur 1 rfl (sp rfl (PE.nilCheck rfl) rfl (sp rfl (PE.fA Z1S rfl) rfl (spL rfl rfl (lh Zgm rfl rfl) rfl (sp rfl (PE.lenSl Z6V rfl) rfl (pur 1 rfl (sqt 2 rfl (pur 2 rfl ?_)))))))))))
 refine Z1 rfl ?_ ?_<;>intro hc0<;>try simp only [cS] at hc0
 obtain ⟨y,hy⟩:∃ y,g[(tq%g.length).toNat]?=some y:=⟨_,List.getElem?_eq_getElem (by have:=Int.emod_lt_of_pos tq hc0;have:=Int.emod_nonneg tq (show (g.length:Int)≠0 by omega);omega)⟩
 refine Zj (a:=ag) (sz:=1) (rows:=urows g) (by intro h0;simp [urows] at h0;simp [h0] at hy) (fun bgr ogr he=>?_)
 subst he
 refine Za [0,0,2,6,14,0,32,96,224,0,512,1536,3584,0,15872,32736,65504,131040,262142,524286,1048575,2097151,4194303] (tks 0 4 (.ld 4 (tks 5 3 (.ld 8 (tks 9 3 (.ld 12 (tks 13 3 (.ld 16 (tks 17 5 (.big 22 .done)))))))))) Zl (by kernel_rfl) ?_
 refine Zg 2 rfl (tk rfl (PE.nilCheck rfl) rfl (tk rfl (PE.fA ZE rfl) rfl (ld rfl rfl (lh Z1d rfl rfl) rfl (Zg 1 rfl (tk rfl (PE.nilCheck rfl) rfl (tk rfl (PE.fA Z1S rfl) rfl (ld rfl rfl (lh Zgm rfl rfl) rfl (Zg 1 rfl (tk rfl (PE.nilCheck rfl) rfl (tk rfl (PE.fA Z0m rfl) rfl (ld rfl rfl (lh sc3 rfl rfl) rfl (Zg 1 rfl (tk rfl (PE.rem rfl rfl (by omega)) rfl (tk rfl (PE.indexAddr Zpp rfl rfl (by exact Int.emod_nonneg tq (by omega)) (by exact Int.emod_lt_of_pos tq hc0)) rfl (ld rfl rfl (lf0 (x:=.int .u8 y) sc5 (by simp [urows,urow,hy];rfl) rfl) rfl ?_)))))))))))))))
 refine tkE rfl (PE.convU us5 Zdi rfl) rfl ?_
 rintro _ ⟨u28,rfl,hu28⟩
 refine tkE rfl (PE.xorU rfl rfl) rfl ?_
 rintro _ ⟨u29,rfl,hu29⟩
 refine tkE rfl (PE.mulU rfl rfl) rfl ?_
 rintro _ ⟨u30,rfl,hu30⟩
 refine tk rfl (PE.nilCheck rfl) rfl (tk rfl (PE.fA ZE rfl) rfl ?_)
 refine sto rfl rfl rfl Z8O rfl rfl rfl rfl ?_
 refine bgT (sqt 8 rfl (pur 1 rfl (sp rfl (PE.nilCheck rfl) rfl (sp rfl (PE.fA Z0m rfl) rfl (spL rfl rfl (lh sc3 rfl rfl) rfl (sp rfl (PE.add rfl rfl (by omega)) rfl (sp rfl (PE.nilCheck rfl) rfl (sp rfl (PE.fA Z0m rfl) rfl ?_))))))))
 refine sto rfl rfl rfl cn3 rfl rfl rfl rfl ?_
 refine Z0 (Z0 ?_)
 refine Za [0,1,3,7,0,16,48,112,240,511] (tks 0 3 (.ld 3 (tks 4 3 (.ld 7 (.tk 8 (.tk 9 .done)))))) Zl (by kernel_rfl) ?_
 refine Zg 1 rfl (tk rfl (PE.nilCheck rfl) rfl (tk rfl (PE.fA Z0m rfl) rfl (ld rfl rfl (lh sc3 rfl rfl) rfl (Zg 1 rfl (tk rfl (PE.nilCheck rfl) rfl (tk rfl (PE.fA Z1S rfl) rfl (ld rfl rfl (lh Zgm rfl rfl) rfl (tk rfl (PE.lenSl Z6V rfl) rfl (Zg 1 rfl ?_)))))))))
 refine Z1 rfl ?_ ?_<;>intro hc1<;>try simp only [cS] at hc1
 refine sqr 10 rfl (pur 2 rfl (sp rfl (PE.nilCheck rfl) rfl (sp rfl (PE.fA ZE rfl) rfl (spL rfl rfl (lh Z1d rfl rfl) rfl ?_))))
 refine spE rfl (PE.mulU rfl rfl) rfl ?_
 rintro _ ⟨u55,rfl,hu55⟩
 refine spE rfl (PE.addU rfl rfl) rfl ?_
 rintro _ ⟨u56,rfl,hu56⟩
 refine sp rfl (PE.nilCheck rfl) rfl (sp rfl (PE.fA ZE rfl) rfl ?_)
 refine sto rfl rfl rfl Z8O rfl rfl rfl rfl ?_
 refine Z0 ?_
 refine Za [0,1,3,7,0,16,48,112,240,511,1023,2047,4095,8191] (tks 0 3 (.ld 3 (tks 4 3 (.ld 7 (tks 8 6 .done))))) Zl (by kernel_rfl) ?_
 refine Zg 1 rfl (tk rfl (PE.nilCheck rfl) rfl (tk rfl (PE.fA ZE rfl) rfl (ld rfl rfl (lh Z1d rfl rfl) rfl (Zg 1 rfl (tk rfl (PE.nilCheck rfl) rfl (tk rfl (PE.fA ZE rfl) rfl (ld rfl rfl (lh Z1d rfl rfl) rfl ?_)))))))
 refine tkE rfl (PE.shrU rfl rfl (by decide) (by omega) (by omega)) rfl ?_
 rintro _ ⟨u67,rfl,hu67⟩
 refine tkE rfl (PE.xorU rfl rfl) rfl ?_
 rintro _ ⟨u68,rfl,hu68⟩
 refine tkE rfl (PE.shrU rfl rfl (by decide) (by omega) (by omega)) rfl ?_
 rintro _ ⟨u69,rfl,hu69⟩
 refine tkE rfl (PE.andU rfl rfl (by decide) (by decide)) rfl ?_
 rintro _ ⟨u70,rfl,hu70⟩
 refine tk rfl (PE.conv64 Z7t ik3 rfl (by omega)) rfl (Zg 1 rfl (Z4 ?_))
 first
   | exact rtA rfl rfl rfl ⟨u70,_,hu70,rfl,hu56,rfl,rfl⟩ idH
   | exact rtA rfl rfl rfl ⟨u70,_,hu70,rfl,hu30,rfl,rfl⟩ idH
   | exact rtA rfl rfl rfl ⟨u70,_,hu70,rfl,hmx,rfl,rfl⟩ idH
 refine Z3 (Z0 ?_)
 refine Za [0,1,3,7,0,16,48,112,240,511,1023,2047,4095,8191] (tks 0 3 (.ld 3 (tks 4 3 (.ld 7 (tks 8 6 .done))))) Zl (by kernel_rfl) ?_
 refine Zg 1 rfl (tk rfl (PE.nilCheck rfl) rfl (tk rfl (PE.fA ZE rfl) rfl (ld rfl rfl (lh Z1d rfl rfl) rfl (Zg 1 rfl (tk rfl (PE.nilCheck rfl) rfl (tk rfl (PE.fA ZE rfl) rfl (ld rfl rfl (lh Z1d rfl rfl) rfl ?_)))))))
 refine tkE rfl (PE.shrU rfl rfl (by decide) (by omega) (by omega)) rfl ?_
 rintro _ ⟨u67,rfl,hu67⟩
 refine tkE rfl (PE.xorU rfl rfl) rfl ?_
 rintro _ ⟨u68,rfl,hu68⟩
 refine tkE rfl (PE.shrU rfl rfl (by decide) (by omega) (by omega)) rfl ?_
 rintro _ ⟨u69,rfl,hu69⟩
 refine tkE rfl (PE.andU rfl rfl (by decide) (by decide)) rfl ?_
 rintro _ ⟨u70,rfl,hu70⟩
 refine tk rfl (PE.conv64 Z7t ik3 rfl (by omega)) rfl (Zg 1 rfl (Z4 ?_))
 first
   | exact rtA rfl rfl rfl ⟨u70,_,hu70,rfl,hu56,rfl,rfl⟩ idH
   | exact rtA rfl rfl rfl ⟨u70,_,hu70,rfl,hu30,rfl,rfl⟩ idH
   | exact rtA rfl rfl rfl ⟨u70,_,hu70,rfl,hmx,rfl,rfl⟩ idH
 refine Z3 (sqt 8 rfl (pur 1 rfl (sp rfl (PE.nilCheck rfl) rfl (sp rfl (PE.fA Z0m rfl) rfl (spL rfl rfl (lh sc3 rfl rfl) rfl (sp rfl (PE.add rfl rfl (by omega)) rfl (sp rfl (PE.nilCheck rfl) rfl (sp rfl (PE.fA Z0m rfl) rfl ?_))))))))
 refine sto rfl rfl rfl cn3 rfl rfl rfl rfl ?_
 refine Z0 (Z0 ?_)
 refine Za [0,1,3,7,0,16,48,112,240,511] (tks 0 3 (.ld 3 (tks 4 3 (.ld 7 (.tk 8 (.tk 9 .done)))))) Zl (by kernel_rfl) ?_
 refine Zg 1 rfl (tk rfl (PE.nilCheck rfl) rfl (tk rfl (PE.fA Z0m rfl) rfl (ld rfl rfl (lh sc3 rfl rfl) rfl (Zg 1 rfl (tk rfl (PE.nilCheck rfl) rfl (tk rfl (PE.fA Z1S rfl) rfl (ld rfl rfl (lh Zgm rfl rfl) rfl (tk rfl (PE.lenSl Z6V rfl) rfl (Zg 1 rfl ?_)))))))))
 refine Z1 rfl ?_ ?_<;>intro hc1<;>try simp only [cS] at hc1
 refine sqr 10 rfl (pur 2 rfl (sp rfl (PE.nilCheck rfl) rfl (sp rfl (PE.fA ZE rfl) rfl (spL rfl rfl (lh Z1d rfl rfl) rfl ?_))))
 refine spE rfl (PE.mulU rfl rfl) rfl ?_
 rintro _ ⟨u55,rfl,hu55⟩
 refine spE rfl (PE.addU rfl rfl) rfl ?_
 rintro _ ⟨u56,rfl,hu56⟩
 refine sp rfl (PE.nilCheck rfl) rfl (sp rfl (PE.fA ZE rfl) rfl ?_)
 refine sto rfl rfl rfl Z8O rfl rfl rfl rfl ?_
 refine Z0 ?_
 refine Za [0,1,3,7,0,16,48,112,240,511,1023,2047,4095,8191] (tks 0 3 (.ld 3 (tks 4 3 (.ld 7 (tks 8 6 .done))))) Zl (by kernel_rfl) ?_
 refine Zg 1 rfl (tk rfl (PE.nilCheck rfl) rfl (tk rfl (PE.fA ZE rfl) rfl (ld rfl rfl (lh Z1d rfl rfl) rfl (Zg 1 rfl (tk rfl (PE.nilCheck rfl) rfl (tk rfl (PE.fA ZE rfl) rfl (ld rfl rfl (lh Z1d rfl rfl) rfl ?_)))))))
 refine tkE rfl (PE.shrU rfl rfl (by decide) (by omega) (by omega)) rfl ?_
 rintro _ ⟨u67,rfl,hu67⟩
 refine tkE rfl (PE.xorU rfl rfl) rfl ?_
 rintro _ ⟨u68,rfl,hu68⟩
 refine tkE rfl (PE.shrU rfl rfl (by decide) (by omega) (by omega)) rfl ?_
 rintro _ ⟨u69,rfl,hu69⟩
 refine tkE rfl (PE.andU rfl rfl (by decide) (by decide)) rfl ?_
 rintro _ ⟨u70,rfl,hu70⟩
 refine tk rfl (PE.conv64 Z7t ik3 rfl (by omega)) rfl (Zg 1 rfl (Z4 ?_))
 first
   | exact rtA rfl rfl rfl ⟨u70,_,hu70,rfl,hu56,rfl,rfl⟩ idH
   | exact rtA rfl rfl rfl ⟨u70,_,hu70,rfl,hu30,rfl,rfl⟩ idH
   | exact rtA rfl rfl rfl ⟨u70,_,hu70,rfl,hmx,rfl,rfl⟩ idH
 refine Z3 (Z0 ?_)
 refine Za [0,1,3,7,0,16,48,112,240,511,1023,2047,4095,8191] (tks 0 3 (.ld 3 (tks 4 3 (.ld 7 (tks 8 6 .done))))) Zl (by kernel_rfl) ?_
 refine Zg 1 rfl (tk rfl (PE.nilCheck rfl) rfl (tk rfl (PE.fA ZE rfl) rfl (ld rfl rfl (lh Z1d rfl rfl) rfl (Zg 1 rfl (tk rfl (PE.nilCheck rfl) rfl (tk rfl (PE.fA ZE rfl) rfl (ld rfl rfl (lh Z1d rfl rfl) rfl ?_)))))))
 refine tkE rfl (PE.shrU rfl rfl (by decide) (by omega) (by omega)) rfl ?_
 rintro _ ⟨u67,rfl,hu67⟩
 refine tkE rfl (PE.xorU rfl rfl) rfl ?_
 rintro _ ⟨u68,rfl,hu68⟩
 refine tkE rfl (PE.shrU rfl rfl (by decide) (by omega) (by omega)) rfl ?_
 rintro _ ⟨u69,rfl,hu69⟩
 refine tkE rfl (PE.andU rfl rfl (by decide) (by decide)) rfl ?_
 rintro _ ⟨u70,rfl,hu70⟩
 refine tk rfl (PE.conv64 Z7t ik3 rfl (by omega)) rfl (Zg 1 rfl (Z4 ?_))
 first
   | exact rtA rfl rfl rfl ⟨u70,_,hu70,rfl,hu56,rfl,rfl⟩ idH
   | exact rtA rfl rfl rfl ⟨u70,_,hu70,rfl,hu30,rfl,rfl⟩ idH
   | exact rtA rfl rfl rfl ⟨u70,_,hu70,rfl,hmx,rfl,rfl⟩ idH
theorem c_Below (g:List Int) (ag:Option Addr) (cg bk:Nat) (hgl:g.length≤9223372036854775807) (tq mx:Int) (htq:0≤tq∧tq≤1000000000) (hmx:0≤mx∧mx≤4294967295) (n:Int) (H:Z6) (R:Z5) [hG:MemRows ag 1 (urows g) R] :
    Fn Tryz.prog 21 [.pointer (some ⟨bk,0,none⟩),.int .i64 n] ((bk,cel 111 [.slice ag g.length cg,.int .i64 (tq),.int .u32 (mx)])::H) R (fun v H' R'=>∃ x m':Int,(0≤x∧x<max 1 n)∧v = .int .i64 x∧(0≤m'∧m'≤4294967295)∧H'=(bk,cel 111 [.slice ag g.length cg,.int .i64 (tq+1),.int .u32 (m')])::H∧R'=R):=by
 refine Zc Tryz.func21 rfl Tryz.ntmps21 rfl ?_
 refine sqt 1 rfl (pur 1 rfl (sqt 6 rfl (pur 1 rfl ?_)))
 refine cl rfl Ziv rfl rfl (Z50 g ag cg bk hgl tq mx htq hmx _ _) ?_
 rintro _ _ _ ⟨x,m',hx,rfl,hm',rfl,rfl⟩
 refine pur 1 rfl (sp rfl (PE.max rfl rfl) rfl (sp rfl (PE.rem rfl rfl (by omega)) rfl (pur 1 rfl (Z4 ?_))))
 exact rtA rfl rfl rfl ⟨_,m',⟨Int.emod_nonneg _ (by omega),Int.emod_lt_of_pos _ (by omega)⟩,rfl,hm',rfl,rfl⟩ idH
theorem c_Among (g:List Int) (ag:Option Addr) (cg bk:Nat) (hgl:g.length≤9223372036854775807) (tq mx:Int) (htq:0≤tq∧tq≤1000000000) (hmx:0≤mx∧mx≤4294967295) (lo hi:Int) (hb : -1000000≤lo∧lo≤1000000 ∧ -1000000≤hi∧hi≤1000000) (H:Z6) (R:Z5) [hG:MemRows ag 1 (urows g) R] :
    Fn Tryz.prog 15 [.pointer (some ⟨bk,0,none⟩),.int .i64 lo,.int .i64 hi] ((bk,cel 111 [.slice ag g.length cg,.int .i64 (tq),.int .u32 (mx)])::H) R (fun v H' R'=>∃ x m':Int,(lo≤x∧x<lo+max 1 (hi-lo+1))∧v = .int .i64 x∧(0≤m'∧m'≤4294967295)∧H'=(bk,cel 111 [.slice ag g.length cg,.int .i64 (tq+1),.int .u32 (m')])::H∧R'=R):=by
 refine Zc Tryz.func15 rfl Tryz.ntmps15 rfl ?_
 refine sqt 1 rfl (pur 1 rfl (sqt 9 rfl (pur 4 rfl (sp rfl (PE.sub rfl rfl (by omega)) rfl (sp rfl (PE.add rfl rfl (by omega)) rfl ?_)))))
 refine cl rfl Z1h rfl rfl (c_Below g ag cg bk hgl tq mx htq hmx (hi-lo+1) _ _) ?_
 rintro _ _ _ ⟨x,m',hx,rfl,hm',rfl,rfl⟩
 refine sp rfl (PE.add rfl rfl (by omega)) rfl (pur 1 rfl (Z4 ?_))
 exact rtA rfl rfl rfl ⟨lo+x,m',⟨by omega,by omega⟩,rfl,hm',rfl,rfl⟩ idH
structure MadeW (h:Hse) (nb ng:Int):Prop where
 bins:2≤h.bins∧h.bins≤nb
 gl:(h.gaps.length:Int)≤ng
 gaps:∀ g∈h.gaps,(0≤g.a∧g.a<h.bins)∧(0≤g.b∧g.b<h.bins)∧g.a≠g.b
 none:h.sights=[]
theorem MadeW.ok {h:Hse} {nb ng:Int} (hm:MadeW h nb ng) (h1:nb≤7) (h2:ng≤10):h.ok:=⟨by have:=hm.bins;omega,by have:=hm.gl;omega,by rw [hm.none];exact Nat.zero_le _,hm.gaps,by rw [hm.none];simp⟩
def ini (f:Nat→Int) (n k:Nat):List Int:=(List.range n).map fun j=>bif decide (j<k) then f j else 0
theorem Zj4 (f:Nat→Int) (n k:Nat):(ini f n k).length=n:=by simp [ini]
theorem Znd {f:Nat→Int} {n k j:Nat} (hj:j<n):na (ini f n k) j=bif decide (j<k) then f j else 0:=by
 unfold na ini
 rw [List.getD_eq_getElem?_getD,List.getElem?_map,List.getElem?_range hj];rfl
def in0 (fr:List Int) (j:Nat):Int:=bif Z6S fr j then 0 else 100
theorem Zj3 {l:List Int} (h:∀ x∈l,0≤x) (j:Nat):Z6S l (j:Int)=(msk l).testBit j:=by rw [Bool.eq_iff_iff,hasI_iff,ZU h]
theorem FolI.start {gs:List Gp} {cl:Nat→Nat} {fr:List Int} (h:∀ x∈fr,0≤x) (n:Nat):FolI gs cl (msk fr) n 0 (Z8x gs (cl 0) (lvp gs cl (msk fr) 0) 0) (ini (in0 fr) n n):=⟨Zj4 _ _ _,fun k hk=>by
 rw [Znd hk,decide_eq_true hk,cond_true]
 unfold in0
 rw [Zj3 h]
 show _=bif (msk fr).testBit k then fol gs cl (msk fr) 0 k else bif (msk fr).testBit k then _ else 100
 cases hb:(msk fr).testBit k with
 | false=>rfl
 | true =>
   rw [cond_true,cond_true]
   exact (Zd9 (t:=0) (Nat.le_refl _) hb (fun i hi=>absurd hi (Nat.not_lt_zero _))).symm⟩
theorem Tru.nil (h:Hse) (l:List Int):Tru h l []:=⟨(fun s hs=>by cases hs),rfl⟩
theorem c_CutK (h:Hse) (ag as_:Option Addr) (cg cs:Nat) (hok:h.ok) (fr to_:List Int) (af at_:Option Addr) (cf ct:Nat) (hlf:fr.length≤1000000) (hlt:to_.length≤1000000) (hfc:fr.length≤cf) (htc:to_.length≤ct) (hb:h.botE fr to_=0) (H:Z6) (R:Z5) [hG:MemRows ag 2 (grows h.gaps) R] [hS:MemRows as_ 3 (srows h.sights) R] [hF:MemRows af 1 (irows fr) R] [hT:MemRows at_ 1 (irows to_) R]:Fn Tryz.prog 33 [h.v (h.sg ag cg) (h.ss as_ cs),.slice af fr.length cf,.slice at_ to_.length ct] H R (fun v H' R'=>∃ (X:Nat) (a:Option Addr) (c:Nat),Cut h.gaps (msk fr) (msk to_) (cutM X h.gaps).length∧Shut h.gaps (msk (cutM X h.gaps)) (msk fr) (msk to_)∧(cutM X h.gaps).length≤c∧v = .tuple #[.slice a (cutM X h.gaps).length c,.int .i64 0]∧H'=H∧R'=RowsA a 1 (irows (cutM X h.gaps))::R):=fun w hw=>by
 refine CallsIn.mono (Zoz h ag as_ cg cs (by have:=hok.gl;omega) (by have:=hok.sl;omega) fr to_ af at_ cf ct hlf hlt hfc htc H R w hw) ?_
 rintro e' w' ⟨u,H',R',⟨rfl,hq⟩,he,hs'⟩
 rcases hq with ⟨h1,_⟩ | ⟨_,f,V,a,c,h2,h3,h4,rfl,rfl⟩
 · exact absurd hb h1
 · obtain ⟨h5,h6⟩:=h3.cut (Zi9 (Z9B hb)) h2
   exact ⟨_,_,_,⟨Z2T V,a,c,h5,h6,h4,rfl,rfl,rfl⟩,he,hs'⟩
end Go.Proofs.YtcfdanhklbklkaaGreat.Wv
namespace Go.Proofs.YtcfdanhklbklkaaGreat.Tu
set_option linter.unusedSimpArgs false
set_option linter.unusedVariables false
structure TLot where
 sk:Int
 in_:Int
 to:Int
structure TBn where
 sizes:List Int
 lots:List TLot
def na (l:List Int) (k:Nat):Int:=l.getD k 0
theorem Z0v {l:List Int} {k:Nat} (h:k<l.length):l[k]?=some (na l k):=by
 unfold na;rw [List.getD_eq_getElem?_getD,List.getElem?_eq_getElem h];rfl
def TBn.lot (b:TBn) (i:Nat):TLot:=b.lots.getD i ⟨0,0,0⟩
theorem TBn.lot_get {b:TBn} {i:Nat} (h:i<b.lots.length):b.lots[i]?=some (b.lot i):=by
 unfold TBn.lot;rw [List.getD_eq_getElem?_getD,List.getElem?_eq_getElem h];rfl
def TBn.fits (b:TBn) (k i:Nat):Bool:=decide ((b.lot i).sk≤na b.sizes k)
structure TBn.ok (b:TBn):Prop where
 nb:1≤b.sizes.length∧b.sizes.length≤7
 nl:b.lots.length≤6
 sz:∀ x∈b.sizes,0≤x∧x≤300
 sk:∀ x∈b.lots,1≤x.sk∧x.sk≤300
 ins:∀ x∈b.lots,(0≤x.in_∧x.in_<b.sizes.length)∧(x.to = -1∨0≤x.to∧x.to<b.sizes.length)
 ne:∀ (i j:Nat) (x y:TLot),b.lots[i]?=some x→b.lots[j]?=some y→j<i→x.in_≠y.in_∧(x.to=y.to→x.to = -1)
 hold:∀ (i:Nat) x,b.lots[i]?=some x→b.fits x.in_.toNat i=true∧(x.to ≠ -1→b.fits x.to.toNat i=true)
def TBn.tkn (b:TBn) (p:List Int) (k:Int):Bool:=(List.range b.lots.length).any fun i=>decide (na p i=k)
def TBn.mds (b:TBn) (p:List Int):Bool:=(List.range b.lots.length).all fun i=>decide ((b.lot i).to = -1)||decide ((b.lot i).to=na p i)
def TBn.first (b:TBn):List Int:=b.lots.map (·.in_)++List.replicate (6-b.lots.length) 0
theorem TBn.first_len {b:TBn} (h:b.lots.length≤6):b.first.length=6:=by unfold TBn.first;simp;omega
def TBn.mv1 (b:TBn) (p:List Int) (k:Nat):List (Int×Int):=bif b.tkn p (k:Int) then [] else ((List.range b.lots.length).filter (b.fits k)).map fun (i:Nat)=>((i:Int),(k:Int))
def TBn.mvN (b:TBn) (p:List Int):Nat→List (Int×Int)
 | 0=>[]
 | k+1=>b.mvN p k++b.mv1 p k
def TBn.mvs (b:TBn) (p:List Int):List (Int×Int):=b.mvN p b.sizes.length
def app (p:List Int) (l:List (Int×Int)):List Int:=l.foldl (fun p t=>p.set t.1.toNat t.2) p
structure Rec where
 q:List Int
 fr:List Int
 by_:List (Int×Int)
 d:Nat
 a:Option Go.Addr
 c:Nat
def rst (x0:List Int):Rec:=⟨x0,List.replicate 6 0,[],0,none,0⟩
abbrev Edg:=List Int→List (List (Int×Int))
def Pth (ed:Edg):Nat→List Int→List Int→Prop
 | 0,a,b=>a=b
 | k+1,a,b=>∃ c,Pth ed k a c∧∃ l∈ed c,b=app c l
structure BI (ed:Edg) (md:List Int→Bool) (x0:List Int) (ws pend:List Rec):Prop where
 nd:(ws.map (·.q)).Nodup
 st:rst x0∈ws
 fr:∀ r∈ws,r=rst x0∨∃ s∈ws,s.q=r.fr∧r.d=s.d+1∧r.by_∈ed s.q∧r.q=app s.q r.by_
 pn:∀ r∈pend,r∈ws
 pnd:pend.Nodup
 cl:∀ r∈ws,r∉pend→md r.q=false∧∀ l∈ed r.q,∃ s∈ws,s.q=app r.q l∧s.d≤r.d+1
 srt:pend.Pairwise fun r s=>r.d≤s.d
 top:∀ r∈ws,∀ s∈pend,r.d≤s.d+1
structure BJ (ed:Edg) (md:List Int→Bool) (x0:List Int) (ws pend:List Rec) (rc:Rec) (dl:List (List (Int×Int))):Prop where
 nd:(ws.map (·.q)).Nodup
 st:rst x0∈ws
 fr:∀ r∈ws,r=rst x0∨∃ s∈ws,s.q=r.fr∧r.d=s.d+1∧r.by_∈ed s.q∧r.q=app s.q r.by_
 pn:∀ r∈pend,r∈ws
 pnd:pend.Nodup
 r0:rc∈ws
 r0p:rc∉pend
 r0m:md rc.q=false
 dn:∀ l∈dl,∃ s∈ws,s.q=app rc.q l∧s.d≤rc.d+1
 cl:∀ r∈ws,r∉pend→r≠rc→md r.q=false∧∀ l∈ed r.q,∃ s∈ws,s.q=app r.q l∧s.d≤r.d+1
 srt:pend.Pairwise fun r s=>r.d≤s.d
 low:∀ s∈pend,rc.d≤s.d
 top:∀ r∈ws,r.d≤rc.d+1
theorem BI.start {ed:Edg} {md:List Int→Bool} (x0:List Int):BI ed md x0 [rst x0] [rst x0]:=⟨by simp,by simp,fun r h=>.inl (List.mem_singleton.1 h),fun r h=>h,by simp,fun r h h2=>absurd h h2,List.pairwise_singleton _ _,fun r h s _=>by rw [List.mem_singleton.1 h];exact Nat.zero_le _⟩
theorem BI.uniq {ed:Edg} {md:List Int→Bool} {x0:List Int} {ws pend:List Rec} (h:BI ed md x0 ws pend) {r s:Rec} (hr:r∈ws) (hs:s∈ws) (e:r.q=s.q):r=s:=by
 have hn:=h.nd
 clear h
 induction ws with
 | nil=>cases hr
 | cons x ws ih =>
   rw [List.map_cons,List.nodup_cons] at hn
   rcases List.mem_cons.1 hr with h1 | h1
   · rcases List.mem_cons.1 hs with h2 | h2
     · rw [h1,h2]
     · exact absurd (List.mem_map.2 ⟨s,h2,by rw [← e,h1]⟩) hn.1
   · rcases List.mem_cons.1 hs with h2 | h2
     · exact absurd (List.mem_map.2 ⟨r,h1,by rw [e,h2]⟩) hn.1
     · exact ih h1 h2 hn.2
theorem BI.pop {ed:Edg} {md:List Int→Bool} {x0:List Int} {ws pend:List Rec} {r:Rec} (h:BI ed md x0 ws (r::pend)) (hm:md r.q=false):BJ ed md x0 ws pend r []:=⟨h.nd,h.st,h.fr,fun s hs=>h.pn s (by simp [hs]),(List.nodup_cons.1 h.pnd).2,h.pn r (by simp),(List.nodup_cons.1 h.pnd).1,hm,fun l hl=>(by cases hl),fun s hs h1 h2=>h.cl s hs (fun h3=>by rcases List.mem_cons.1 h3 with h3 | h3;exact h2 h3;exact h1 h3),(List.pairwise_cons.1 h.srt).2,(List.pairwise_cons.1 h.srt).1,fun s hs=>h.top s hs r (by simp)⟩
theorem BJ.skip {ed:Edg} {md:List Int→Bool} {x0:List Int} {ws pend:List Rec} {r:Rec} {dn:List (List (Int×Int))} (h:BJ ed md x0 ws pend r dn) {l:List (Int×Int)} {s:Rec} (hs:s∈ws) (e:s.q=app r.q l):BJ ed md x0 ws pend r (dn++[l]):=⟨h.nd,h.st,h.fr,h.pn,h.pnd,h.r0,h.r0p,h.r0m,fun l' hl=>(by
 rcases List.mem_append.1 hl with hl | hl
 · exact h.dn l' hl
 · rw [List.mem_singleton.1 hl];exact ⟨s,hs,e,h.top s hs⟩),h.cl,h.srt,h.low,h.top⟩
theorem BJ.more {ed:Edg} {md:List Int→Bool} {x0:List Int} {ws pend:List Rec} {r:Rec} {dn:List (List (Int×Int))} (h:BJ ed md x0 ws pend r dn) {l:List (Int×Int)} (hl:l∈ed r.q) (hn:∀ s∈ws,s.q≠app r.q l) (na:Option Go.Addr) (nc:Nat):BJ ed md x0 (ws++[⟨app r.q l,r.q,l,r.d+1,na,nc⟩]) (pend++[⟨app r.q l,r.q,l,r.d+1,na,nc⟩]) r (dn++[l]):=by
 have hnew:∀ s∈ws,s≠⟨app r.q l,r.q,l,r.d+1,na,nc⟩:=fun s hs e=>hn s hs (by rw [e])
 refine ⟨?_,by simp [h.st],fun s hs=>?_,fun s hs=>?_,?_,by simp [h.r0],fun hs=>?_,h.r0m,fun l' hl'=>?_,fun s hs h1 h2=>?_,?_,fun s hs=>?_,fun s hs=>?_⟩
 · rw [List.map_append,List.nodup_append]
   exact ⟨h.nd,by simp,fun a ha b hb e=>by
     obtain ⟨s,hs,rfl⟩:=List.mem_map.1 ha
     rw [List.map_singleton,List.mem_singleton] at hb
     exact hn s hs (e.trans hb)⟩
 · rcases List.mem_append.1 hs with hs | hs
   · rcases h.fr s hs with h1 | ⟨u,hu,h1⟩
     · exact .inl h1
     · exact .inr ⟨u,by simp [hu],h1⟩
   · rw [List.mem_singleton.1 hs]
     exact .inr ⟨r,by simp [h.r0],rfl,rfl,hl,rfl⟩
 · rcases List.mem_append.1 hs with hs | hs
   · exact List.mem_append.2 (.inl (h.pn s hs))
   · exact List.mem_append.2 (.inr hs)
 · rw [List.nodup_append]
   exact ⟨h.pnd,by simp,fun a ha b hb e=>hnew a (h.pn a ha) (by rw [e];exact List.mem_singleton.1 hb)⟩
 · rcases List.mem_append.1 hs with hs | hs
   · exact h.r0p hs
   · exact hnew r h.r0 (List.mem_singleton.1 hs)
 · rcases List.mem_append.1 hl' with hl' | hl'
   · obtain ⟨u,hu,h1⟩:=h.dn l' hl'
     exact ⟨u,by simp [hu],h1⟩
   · rw [List.mem_singleton.1 hl'];exact ⟨⟨app r.q l,r.q,l,r.d+1,na,nc⟩,List.mem_append.2 (.inr (List.mem_singleton.2 rfl)),rfl,Nat.le_refl _⟩
 · rcases List.mem_append.1 hs with hs | hs
   · obtain ⟨h3,h4⟩:=h.cl s hs (fun h5=>h1 (by simp [h5])) h2
     refine ⟨h3,fun l' hl'=>?_⟩
     obtain ⟨u,hu,h5⟩:=h4 l' hl'
     exact ⟨u,by simp [hu],h5⟩
   · exact absurd (List.mem_append.2 (.inr hs)) h1
 · rw [List.pairwise_append]
   refine ⟨h.srt,List.pairwise_singleton _ _,fun a ha b hb=>?_⟩
   rw [List.mem_singleton.1 hb]
   exact h.top a (h.pn a ha)
 · rcases List.mem_append.1 hs with hs | hs
   · exact h.low s hs
   · rw [List.mem_singleton.1 hs];exact Nat.le_succ _
 · rcases List.mem_append.1 hs with hs | hs
   · exact h.top s hs
   · rw [List.mem_singleton.1 hs];exact Nat.le_refl _
theorem BJ.done {ed:Edg} {md:List Int→Bool} {x0:List Int} {ws pend:List Rec} {r:Rec} (h:BJ ed md x0 ws pend r (ed r.q)):BI ed md x0 ws pend:=⟨h.nd,h.st,h.fr,h.pn,h.pnd,fun s hs h1=>by
 by_cases e:s=r
 · subst e;exact ⟨h.r0m,h.dn⟩
 · exact h.cl s hs h1 e,h.srt,fun s hs u hu=>by have:=h.top s hs;have:=h.low u hu;omega⟩
theorem BI.path {ed:Edg} {md:List Int→Bool} {x0:List Int} {ws pend:List Rec} (h:BI ed md x0 ws pend):∀ (n:Nat) (r:Rec),r∈ws→r.d=n→Pth ed n x0 r.q
 | n,r,hr,hd=>by
   rcases h.fr r hr with h1 | ⟨s,hs,h1,h2,h3,h4⟩
   · subst h1;subst hd;rfl
   · obtain ⟨m,rfl⟩:∃ m,n=m+1:=⟨s.d,by omega⟩
     exact ⟨s.q,h.path m s hs (by omega),r.by_,h3,h4⟩
theorem BI.near {ed:Edg} {md:List Int→Bool} {x0:List Int} {ws pend:List Rec} (h:BI ed md x0 ws pend):∀ (k:Nat) (x:List Int),Pth ed k x0 x→(∃ s∈ws,s.q=x∧s.d≤k)∨∃ r∈pend,r.d<k
 | 0,x,hx=>by
   have hx:x0=x:=hx
   subst hx;exact .inl ⟨_,h.st,rfl,Nat.le_refl _⟩
 | k+1,x,⟨c,hc,l,hl,e⟩=>by
   rcases h.near k c hc with ⟨s,hs,h1,h2⟩ | ⟨r,hr,h1⟩
   · by_cases hp:s∈pend
     · exact .inr ⟨s,hp,by omega⟩
     · obtain ⟨_,h4⟩:=h.cl s hs hp
       subst h1
       obtain ⟨u,hu,h5,h6⟩:=h4 l hl
       exact .inl ⟨u,hu,h5.trans e.symm,by omega⟩
   · exact .inr ⟨r,hr,by omega⟩
theorem BI.least {ed:Edg} {md:List Int→Bool} {x0:List Int} {ws pend:List Rec} {r:Rec} (h:BI ed md x0 ws (r::pend)) {k:Nat} {x:List Int} (hx:Pth ed k x0 x) (hm:md x=true):r.d≤k:=by
 have hlow:∀ s∈r::pend,r.d≤s.d:=fun s hs=>by
   rcases List.mem_cons.1 hs with h1 | h1
   · rw [h1];exact Nat.le_refl _
   · exact (List.pairwise_cons.1 h.srt).1 s h1
 rcases h.near k x hx with ⟨s,hs,h1,h2⟩ | ⟨s,hs,h1⟩
 · by_cases hp:s∈r::pend
   · have:=hlow s hp;omega
   · have h3:=(h.cl s hs hp).1
     rw [h1,hm] at h3;cases h3
 · have:=hlow s hs;omega
theorem BI.none {ed:Edg} {md:List Int→Bool} {x0:List Int} {ws:List Rec} (h:BI ed md x0 ws []) {k:Nat} {x:List Int} (hx:Pth ed k x0 x):md x=false:=by
 rcases h.near k x hx with ⟨s,hs,h1,h2⟩ | ⟨s,hs,h1⟩
 · rw [← h1];exact (h.cl s hs (fun h3=>by cases h3)).1
 · cases hs
def ZhU:Nat→List (List Int)
 | 0=>[[]]
 | n+1=>(ZhU n).flatMap fun l=>[0,1,2,3,4,5,6].map fun x=>x::l
theorem Z9y:∀ n,(ZhU n).length=7 ^ n
 | 0=>rfl
 | n+1=>by
   have ih:=Z9y n
   unfold ZhU
   rw [List.length_flatMap,Nat.pow_succ,← ih]
   have:∀ m:List (List Int),(m.map fun l=>([0,1,2,3,4,5,6].map fun x:Int=>x::l).length).sum=m.length*7:=fun m=>by
     induction m with
     | nil=>rfl
     | cons a m ih=>rw [List.map_cons,List.sum_cons,ih,List.length_cons];simp;omega
   exact this _
theorem Z9z:∀ {n:Nat} {l:List Int},l.length=n→(∀ x∈l,0≤x∧x<7)→l∈ZhU n
 | 0,[],_,_=>by simp [ZhU]
 | n+1,x::l,h,hx=>by
   have ih:=Z9z (n:=n) (l:=l) (by simpa using h) (fun y hy=>hx y (by simp [hy]))
   unfold ZhU
   refine List.mem_flatMap.2 ⟨l,ih,List.mem_map.2 ⟨x,?_,rfl⟩⟩
   have:=hx x (by simp)
   simp only [List.mem_cons,List.not_mem_nil,or_false]
   omega
theorem Z3Y {α:Type} [DecidableEq α]:∀ {l m:List α},l.Nodup→(∀ x∈l,x∈m)→l.length≤m.length
 | [],m,_,_=>Nat.zero_le _
 | x::l,m,hn,hs=>by
   obtain ⟨h1,h2⟩:=List.nodup_cons.1 hn
   have ih:=Z3Y (l:=l) (m:=m.erase x) h2 (fun y hy=>(List.mem_erase_of_ne (fun e=>h1 (by rw [← e];exact hy))).2 (hs y (by simp [hy])))
   rw [List.length_erase_of_mem (hs x (by simp))] at ih
   have:=List.length_pos_of_mem (hs x (by simp))
   rw [List.length_cons];omega
def TBn.inS (b:TBn) (p:List Int):Prop:=p.length=6∧∀ x∈p,0≤x∧x<(b.sizes.length:Int)
theorem Z2J {b:TBn} (hb:b.ok) {ws:List Rec} (hn:(ws.map (·.q)).Nodup) (hi:∀ r∈ws,b.inS r.q):ws.length≤117649:=by
 have h:=Z3Y (m:=ZhU 6) hn (fun x hx=>by
   obtain ⟨r,hr,rfl⟩:=List.mem_map.1 hx
   obtain ⟨h1,h2⟩:=hi r hr
   refine Z9z h1 (fun y hy=>?_)
   have:=h2 y hy;have:=hb.nb;omega)
 rw [Z9y,List.length_map] at h
 exact h
theorem ZcK {b:TBn} (hb:b.ok):b.inS b.first:=⟨b.first_len hb.nl,fun x hx=>by
 rcases List.mem_append.1 hx with h | h
 · obtain ⟨l,hl,rfl⟩:=List.mem_map.1 h
   exact (hb.ins l hl).1
 · rw [(List.mem_replicate.1 h).2];have:=hb.nb;omega⟩
theorem ZbD {b:TBn}:∀ {l:List (Int×Int)} {p:List Int},b.inS p→(∀ t∈l,0≤t.2∧t.2<(b.sizes.length:Int))→b.inS (app p l)
 | [],p,h,_=>h
 | t :: l, p, h, hl => ZbD (l := l) (p := p.set t.1.toNat t.2) ⟨by rw [List.length_set]; exact h.1, fun x hx => by
     rcases List.mem_or_eq_of_mem_set hx with h1 | h1
     · exact h.2 x h1
     · rw [h1];exact hl t (by simp)⟩ (fun u hu=>hl u (by simp [hu]))
theorem Zji {b:TBn} {p:List Int} {k:Nat} {t:Int×Int} (h:t∈b.mv1 p k):∃ i:Nat,t=((i:Int),(k:Int))∧i<b.lots.length∧b.fits k i=true∧b.tkn p (k:Int)=false:=by
 unfold TBn.mv1 at h
 cases hc:b.tkn p (k:Int) with
 | true=>rw [hc] at h;cases h
 | false =>
   rw [hc,cond_false] at h
   obtain ⟨i,hi,rfl⟩:=List.mem_map.1 h
   obtain ⟨h1,h2⟩:=List.mem_filter.1 hi
   exact ⟨i,rfl,List.mem_range.1 h1,h2,rfl⟩
theorem ZdH {b:TBn} {p:List Int} {t:Int×Int}:∀ {n:Nat},t∈b.mvN p n→∃ i k:Nat,t=((i:Int),(k:Int))∧k<n∧i<b.lots.length∧b.fits k i=true∧b.tkn p (k:Int)=false
 | n+1,h=>by
   rcases List.mem_append.1 (show t∈b.mvN p n++b.mv1 p n from h) with h | h
   · obtain ⟨i,k,h1,h2,h3⟩:=ZdH h
     exact ⟨i,k,h1,by omega,h3⟩
   · obtain ⟨i,h1,h2⟩:=Zji h
     exact ⟨i,n,h1,by omega,h2⟩
open Go
theorem Z8y:Z0W Tryz.prog 108=some 3:=by kernel_rfl
theorem ZeM:Z0W Tryz.prog 26=some 2:=by kernel_rfl
theorem Z4c:cal Tryz.prog 148=true:=by kernel_rfl
theorem Z3j:cal Tryz.prog 224=true:=by kernel_rfl
theorem Zh0:cal Tryz.prog 234=true:=by kernel_rfl
theorem Zmr:cal Tryz.prog 267=true:=by kernel_rfl
theorem Zms:cal Tryz.prog 268=true:=by kernel_rfl
theorem Zmt:cal Tryz.prog 269=true:=by kernel_rfl
theorem ZmC:cal Tryz.prog 278=true:=by kernel_rfl
theorem Zfu:cal Tryz.prog 83=true:=by kernel_rfl
theorem Z0D:elN Tryz.prog 23=some 1:=by kernel_rfl
theorem ZiM:elN Tryz.prog 24=some 3:=by kernel_rfl
theorem ZcS:ZG Tryz.prog 108 0=some 0:=by kernel_rfl
theorem Z5e:ZG Tryz.prog 108 1=some 1:=by kernel_rfl
theorem Z1R:ZG Tryz.prog 108 2=some 2:=by kernel_rfl
theorem Z7X:ZG Tryz.prog 26 0=some 0:=by kernel_rfl
theorem Z2j:ZG Tryz.prog 26 1=some 1:=by kernel_rfl
theorem ZO:Z2o Tryz.prog 23=true:=by kernel_rfl
theorem Z6W:Z2o Tryz.prog 24=true:=by kernel_rfl
theorem Z1G:Z0c Tryz.prog 100=true:=by kernel_rfl
theorem Z2w:Z0c Tryz.prog 23=true:=by kernel_rfl
theorem Zeb:Z0c Tryz.prog 24=true:=by kernel_rfl
theorem sc3:Z0c Tryz.prog 3=true:=by kernel_rfl
theorem ZpS:Z0c Tryz.prog 340=true:=by kernel_rfl
@[reducible] def inR (n lo hi : Int) : Bool := decide (lo ≤ n) && decide (n ≤ hi)
theorem Z8Z {n lo hi:Int} (h:lo≤n∧n≤hi):inR n lo hi=true:=by simp [inR,h]
def irow (z:Int):List Value:=[.int .i64 z]
abbrev irows (l:List Int):List (List Value):=l.map irow
def Z7s (x:TLot):List Value:=[.int .i64 x.sk,.int .i64 x.in_,.int .i64 x.to]
abbrev Z0B (l:List TLot):List (List Value):=l.map Z7s
def brl (y:TBn) (a1 a2:Option Addr) (k1 k2:Nat):List Value:=[.slice a1 y.sizes.length k1,.slice a2 y.lots.length k2]
def TBn.v (y:TBn) (a1 a2:Option Addr) (k1 k2:Nat):Value:=.agg (brl y a1 a2 k1 k2).toArray
theorem ir_get {l:List Int} {k:Nat} {x:Int} (h:l[k]?=some x):(irows l)[k]?=some [.int .i64 x]:=by simp [irows,irow,h]
theorem Z2B {l:List TLot} {k:Nat} {x:TLot} (h:l[k]?=some x):(Z0B l)[k]?=some (Z7s x):=by simp [Z0B,h]
theorem ints_length (l:List Int):(Ze l).length=l.length:=by simp [Ze]
theorem Z0u {l:List Int} {k:Nat} {v:Int} (h:l[k]?=some v):(Ze l)[k]?=some (.int .i64 v):=by simp [Ze,h]
theorem Z26 {A:List Int} {k i:Nat} (hk:k<A.length) (e:i=k):(Ze A)[i]?=some (.int .i64 (na A k)):=by
 subst e;exact Z0u (Z0v hk)
theorem TBn.lot_of {y:TBn} {i:Nat} {x:TLot} (h:y.lots[i]?=some x):y.lot i=x:=by
 unfold TBn.lot;rw [List.getD_eq_getElem?_getD,h];rfl
theorem ZV {α:Type} {l:List α} {k:Nat} {x:α} (h:l[k]?=some x):l≠[]:=fun e=>by rw [e] at h;cases h
theorem Zo {α:Type} {xs:List α} {p:α→Bool} {k:Nat} {x:α} (hx:xs[k]?=some x) (hn:∀ y∈xs.take k,p y=false) (h:p x=true):xs.findIdx? p=some k:=by
 induction xs generalizing k with
 | nil=>simp at hx
 | cons y ys ih =>
   cases k with
   | zero=>simp only [List.getElem?_cons_zero,Option.some.injEq] at hx;subst hx;simp [List.findIdx?_cons,h]
   | succ k =>
     have hy:=hn y (by simp)
     have:=ih (by simpa using hx) (fun z hz=>hn z (by simp [hz]))
     simp [List.findIdx?_cons,hy,this]
theorem Zm {α:Type} {xs:List α} {p:α→Bool} (hn:∀ y∈xs,p y=false):xs.findIdx? p=none:=by
 rw [List.findIdx?_eq_none_iff];exact hn
theorem ZB {α:Type} {xs:List α} {p:α→Bool} {k:Nat} {x:α} (hx:xs[k]?=some x) (hn:∀ y∈xs.take k,p y=false) (h:p x=false):∀ y∈xs.take (k+1),p y=false:=by
 intro y hy
 rw [List.take_add_one,hx] at hy
 rcases List.mem_append.1 hy with h1 | h1
 · exact hn y h1
 · simp only [Option.toList_some,List.mem_singleton] at h1;subst h1;exact h
theorem Z00 {α:Type} (xs:List α) (p:α→Bool):Value.bool (decide (0≤(match xs.findIdx? p with | some k=>(k:Int) | none => -1))) = .bool (xs.any p):=by
 congr 1
 cases h:xs.findIdx? p with
 | none =>
   have:=List.findIdx?_eq_none_iff.1 h
   have h2:xs.any p=false:=by simpa using this
   rw [h2];rfl
 | some k =>
   have h2:xs.any p=true:=by
     rw [← Bool.not_eq_false];intro h3
     have:xs.findIdx? p=none:=List.findIdx?_eq_none_iff.2 (by simpa using h3)
     rw [this] at h;cases h
   rw [h2];simp
theorem Zu {α:Type} (xs:List α) (p:α→Bool):Value.bool (!xs.any fun x=>!p x) = .bool (xs.all p):=by
 congr 1
 induction xs with
 | nil=>rfl
 | cons x xs ih=>simp [← ih]
theorem Z3K (n lo hi:Int) (H:Z6) (R:Z5) :
    FnV Tryz.prog 83 [.int .i64 n,.int .i64 lo,.int .i64 hi] H R (.bool (inR n lo hi)):=by
 refine Zc Tryz.func83 rfl Tryz.ntmps83 rfl ?_
 refine sqt 1 rfl (pur 1 rfl (sqt 9 rfl (pur 4 rfl ?_)))
 refine Zq 10 rfl ?_ ?_<;>intro g10
 refine pur 5 rfl (Z4 ?_)
 exact rtA rfl rfl rfl ⟨by simp_all only [ZC,inR,Bool.true_and,Bool.false_and,cond_true,cond_false],rfl,rfl⟩ drp
 refine pur 5 rfl (Z4 ?_)
 exact rtA rfl rfl rfl ⟨by simp_all only [ZC,inR,Bool.true_and,Bool.false_and,cond_true,cond_false],rfl,rfl⟩ drp
theorem Z3O (n lo hi:Int) (h:lo≤n∧n≤hi) (H:Z6) (R:Z5):FnV Tryz.prog 83 [.int .i64 n,.int .i64 lo,.int .i64 hi] H R (.bool true):=by
 have:=Z3K n lo hi H R
 rwa [Z8Z h] at this
theorem Z0s (xs:List Int) (a:Option Addr) (c g:Nat) (fst cap:List Value) (p:Int→Bool) (hg:cal Tryz.prog g=true) (hl:xs.length≤9223372036854775807) (H:Z6) (R:Z5) [hR:MemRows a 1 (irows xs) R] (hp:∀ x,x∈xs→FnV Tryz.prog g (fst++[.int .i64 x]++cap) H R (.bool (p x))) :
    FnV Tryz.prog 224 [.slice a xs.length c,.func (.func g) fst.toArray cap.toArray] H R (.int .i64 (match xs.findIdx? p with | some k=>(k:Int) | none => -1)):=by
 refine Zc Tryz.func224 rfl Tryz.ntmps224 rfl ?_
 refine sqt 1 rfl (pur 1 rfl (Z0 (sqt 3 rfl (pur 1 rfl (sp rfl (PE.lenSl ZO rfl) rfl (pur 1 rfl (Z2 ?_)))))))
 refine Zd (ι:={k:Nat // k≤xs.length∧∀ x∈xs.take k,p x=false}) (fun k=>⟨[(0,.slice a xs.length c),(1,.func (.func g) fst.toArray cap.toArray),(7,.int .i64 xs.length),(8,.int .i64 k.1)],H,R⟩) (fun k=>xs.length-k.1) ⟨0,by simp⟩ ?_ (fun k=>?_)
 exact Zf idH
 obtain ⟨k,hk,hn⟩:=k
 dsimp only
 refine sqt 1 rfl (pur 1 rfl (Z0 ?_))
 refine Z1 rfl ?_ ?_<;>intro hc0
 simp only [cS] at hc0
 obtain ⟨x,hx⟩:∃ x,xs[k]?=some x:=⟨_,List.getElem?_eq_getElem (by omega)⟩
 have hxm:=List.mem_of_getElem? hx
 refine Zj (a:=a) (sz:=1) (rows:=irows xs) (by cases xs<;>simp_all [irows]) (fun b off he=>?_)
 subst he
 refine Z3 (Z0 (Z2 (sqt 2 rfl (pur 2 rfl (sqt 6 rfl (pur 3 rfl (sp rfl (PE.indexAddr Z0D rfl rfl (by omega) (by omega)) rfl (spL rfl rfl (lf0 sc3 (by simp [irows,hx];rfl) rfl) rfl ?_))))))))
 refine Z2c rfl rfl (hg) rfl rfl (hp x hxm) ?_
 refine Z1 rfl ?_ ?_<;>intro hc1
 refine sqt 2 rfl (pur 2 rfl (Z4 ?_))
 first | (exact rtA rfl rfl rfl ⟨by rw [Zo hx hn hc1];rfl,rfl,rfl⟩ idH) | (exact rtA rfl rfl rfl ⟨by rw [Zm (by simpa using hn)];rfl,rfl,rfl⟩ idH)
 refine Z3 (sqr 2 rfl (sp rfl (PE.add rfl rfl (by omega)) rfl (pur 1 rfl ?_)))
 exact Zb ⟨k+1,by omega,ZB hx hn hc1⟩ idH
 simp only [cS] at hc0
 obtain rfl:k=xs.length:=by omega
 refine Z7 (Z8 (Z8 (Zi (sqt 1 rfl (pur 1 rfl (Z4 ?_))))))
 first | (exact rtA rfl rfl rfl ⟨by rw [Zo hx hn hc1];rfl,rfl,rfl⟩ idH) | (exact rtA rfl rfl rfl ⟨by rw [Zm (by simpa using hn)];rfl,rfl,rfl⟩ idH)
theorem Z0M (xs:List Int) (a:Option Addr) (c g:Nat) (fst cap:List Value) (p:Int→Bool) (hg:cal Tryz.prog g=true) (hl:xs.length≤9223372036854775807) (H:Z6) (R:Z5) [hR:MemRows a 1 (irows xs) R] (hp:∀ x,x∈xs→FnV Tryz.prog g (fst++[.int .i64 x]++cap) H R (.bool (p x))) :
    FnV Tryz.prog 148 [.slice a xs.length c,.func (.func g) fst.toArray cap.toArray] H R (.bool (xs.any p)):=by
 refine Zc Tryz.func148 rfl Tryz.ntmps148 rfl ?_
 refine sqt 1 rfl (pur 1 rfl (sqt 5 rfl (pur 2 rfl ?_)))
 refine clV rfl Z3j rfl rfl (Z0s xs a c g fst cap p hg hl _ _ hp) ?_
 refine pur 2 rfl (Z4 ?_)
 exact rtA rfl rfl rfl ⟨by simp only [ZC];exact Z00 _ _,rfl,rfl⟩ drp
theorem Z14 (x:Int) (g bf:Nat) (fst cap:List Value) (p:Bool) (hg:cal Tryz.prog g=true) (H:Z6) (R:Z5) [hM:Mem1 bf (cel 100 [.func (.func g) fst.toArray cap.toArray]) H] (hp:FnV Tryz.prog g (fst++[.int .i64 x]++cap) H R (.bool p)) :
    FnV Tryz.prog 267 [.int .i64 x,.pointer (some ⟨bf,0,none⟩)] H R (.bool !p):=by
 refine Zc Tryz.func267 rfl Tryz.ntmps267 rfl ?_
 refine sqt 1 rfl (pur 1 rfl (sqt 5 rfl (spL rfl rfl (lh Z1G rfl rfl) rfl (pur 1 rfl ?_))))
 refine Z2c rfl rfl (hg) rfl rfl (hp) ?_
 refine pur 2 rfl (Z4 ?_)
 exact rtA rfl rfl rfl ⟨rfl,rfl,rfl⟩ drp
theorem Z09 (xs:List Int) (a:Option Addr) (c g:Nat) (fst cap:List Value) (p:Int→Bool) (hg:cal Tryz.prog g=true) (hl:xs.length≤9223372036854775807) (H:Z6) (R:Z5) [hR:MemRows a 1 (irows xs) R] (hp:∀ b x,x∈xs→FnV Tryz.prog g (fst++[.int .i64 x]++cap) ((b,cel 100 [.func (.func g) fst.toArray cap.toArray])::H) R (.bool (p x))) :
    FnV Tryz.prog 229 [.slice a xs.length c,.func (.func g) fst.toArray cap.toArray] H R (.bool (xs.all p)):=by
 refine Zc Tryz.func229 rfl Tryz.ntmps229 rfl ?_
 refine sqt 2 rfl (bx rfl rfl rfl (fun b3=>pur 1 rfl (sqt 5 rfl (pur 1 rfl (sp rfl (PE.makeFunc rfl rfl) rfl ?_)))))
 refine clV rfl Z4c rfl rfl (Z0M xs a c 267 [] [_] (fun x=>!p x) Zmr hl _ _ (hp:=fun x hx=>Z14 x g _ fst cap (p x) hg _ _ (hp:=hp _ x hx))) ?_
 refine pur 2 rfl (Z4 ?_)
 exact rtA rfl rfl rfl ⟨by simp only [ZC];rw [Zu],rfl,rfl⟩ drp
theorem Zce (xs:List TLot) (a:Option Addr) (c g:Nat) (fst cap:List Value) (p:TLot→Bool) (hg:cal Tryz.prog g=true) (hl:xs.length≤9223372036854775807) (H:Z6) (R:Z5) [hR:MemRows a 3 (Z0B xs) R] (hp:∀ x,x∈xs→FnV Tryz.prog g (fst++[.agg (Z7s x).toArray]++cap) H R (.bool (p x))) :
    FnV Tryz.prog 278 [.slice a xs.length c,.func (.func g) fst.toArray cap.toArray] H R (.int .i64 (match xs.findIdx? p with | some k=>(k:Int) | none => -1)):=by
 refine Zc Tryz.func278 rfl Tryz.ntmps278 rfl ?_
 refine sqt 1 rfl (pur 1 rfl (Z0 (sqt 3 rfl (pur 1 rfl (sp rfl (PE.lenSl Z6W rfl) rfl (pur 1 rfl (Z2 ?_)))))))
 refine Zd (ι:={k:Nat // k≤xs.length∧∀ x∈xs.take k,p x=false}) (fun k=>⟨[(0,.slice a xs.length c),(1,.func (.func g) fst.toArray cap.toArray),(7,.int .i64 xs.length),(8,.int .i64 k.1)],H,R⟩) (fun k=>xs.length-k.1) ⟨0,by simp⟩ ?_ (fun k=>?_)
 exact Zf idH
 obtain ⟨k,hk,hn⟩:=k
 dsimp only
 refine sqt 1 rfl (pur 1 rfl (Z0 ?_))
 refine Z1 rfl ?_ ?_<;>intro hc0
 simp only [cS] at hc0
 obtain ⟨x,hx⟩:∃ x,xs[k]?=some x:=⟨_,List.getElem?_eq_getElem (by omega)⟩
 have hxm:=List.mem_of_getElem? hx
 refine Zj (a:=a) (sz:=3) (rows:=Z0B xs) (by cases xs<;>simp_all [Z0B]) (fun b off he=>?_)
 subst he
 refine Z3 (Z0 (Z2 (sqt 2 rfl (pur 2 rfl (sqt 6 rfl (pur 3 rfl (sp rfl (PE.indexAddr ZiM rfl rfl (by omega) (by omega)) rfl (spL rfl rfl (lfA Z8y (row:=Z7s x) (by simp [Z0B,hx]) rfl) rfl ?_))))))))
 refine Z2c rfl rfl (hg) rfl rfl (hp x hxm) ?_
 refine Z1 rfl ?_ ?_<;>intro hc1
 refine sqt 2 rfl (pur 2 rfl (Z4 ?_))
 first | (exact rtA rfl rfl rfl ⟨by rw [Zo hx hn hc1];rfl,rfl,rfl⟩ idH) | (exact rtA rfl rfl rfl ⟨by rw [Zm (by simpa using hn)];rfl,rfl,rfl⟩ idH)
 refine Z3 (sqr 2 rfl (sp rfl (PE.add rfl rfl (by omega)) rfl (pur 1 rfl ?_)))
 exact Zb ⟨k+1,by omega,ZB hx hn hc1⟩ idH
 simp only [cS] at hc0
 obtain rfl:k=xs.length:=by omega
 refine Z7 (Z8 (Z8 (Zi (sqt 1 rfl (pur 1 rfl (Z4 ?_))))))
 first | (exact rtA rfl rfl rfl ⟨by rw [Zo hx hn hc1];rfl,rfl,rfl⟩ idH) | (exact rtA rfl rfl rfl ⟨by rw [Zm (by simpa using hn)];rfl,rfl,rfl⟩ idH)
theorem Zc6 (xs:List TLot) (a:Option Addr) (c g:Nat) (fst cap:List Value) (p:TLot→Bool) (hg:cal Tryz.prog g=true) (hl:xs.length≤9223372036854775807) (H:Z6) (R:Z5) [hR:MemRows a 3 (Z0B xs) R] (hp:∀ x,x∈xs→FnV Tryz.prog g (fst++[.agg (Z7s x).toArray]++cap) H R (.bool (p x))) :
    FnV Tryz.prog 268 [.slice a xs.length c,.func (.func g) fst.toArray cap.toArray] H R (.bool (xs.any p)):=by
 refine Zc Tryz.func268 rfl Tryz.ntmps268 rfl ?_
 refine sqt 1 rfl (pur 1 rfl (sqt 5 rfl (pur 2 rfl ?_)))
 refine clV rfl ZmC rfl rfl (Zce xs a c g fst cap p hg hl _ _ hp) ?_
 refine pur 2 rfl (Z4 ?_)
 exact rtA rfl rfl rfl ⟨by simp only [ZC];exact Z00 _ _,rfl,rfl⟩ drp
theorem ZbY (x:TLot) (g bf:Nat) (fst cap:List Value) (p:Bool) (hg:cal Tryz.prog g=true) (H:Z6) (R:Z5) [hM:Mem1 bf (cel 340 [.func (.func g) fst.toArray cap.toArray]) H] (hp:∀ b,FnV Tryz.prog g (fst++[.agg (Z7s x).toArray]++cap) ((b,cel 108 (Z7s x))::H) R (.bool p)) :
    FnV Tryz.prog 269 [.agg (Z7s x).toArray,.pointer (some ⟨bf,0,none⟩)] H R (.bool !p):=by
 refine Zc Tryz.func269 rfl Tryz.ntmps269 rfl ?_
 refine sqt 2 rfl (bx rfl rfl rfl (fun b2=>pur 1 rfl (sqt 5 rfl (spL rfl rfl (lh ZpS rfl rfl) rfl (spL rfl rfl (lhA [_,_,_] Z8y rfl rfl rfl) rfl ?_)))))
 refine Z2c rfl rfl (hg) rfl rfl (hp _) ?_
 refine pur 2 rfl (Z4 ?_)
 exact rtA rfl rfl rfl ⟨rfl,rfl,rfl⟩ drp
theorem Z4X (xs:List TLot) (a:Option Addr) (c g:Nat) (fst cap:List Value) (p:TLot→Bool) (hg:cal Tryz.prog g=true) (hl:xs.length≤9223372036854775807) (H:Z6) (R:Z5) [hR:MemRows a 3 (Z0B xs) R] (hp:∀ b b2 x,x∈xs→FnV Tryz.prog g (fst++[.agg (Z7s x).toArray]++cap) ((b2,cel 108 (Z7s x))::(b,cel 340 [.func (.func g) fst.toArray cap.toArray])::H) R (.bool (p x))) :
    FnV Tryz.prog 231 [.slice a xs.length c,.func (.func g) fst.toArray cap.toArray] H R (.bool (xs.all p)):=by
 refine Zc Tryz.func231 rfl Tryz.ntmps231 rfl ?_
 refine sqt 2 rfl (bx rfl rfl rfl (fun b3=>pur 1 rfl (sqt 5 rfl (pur 1 rfl (sp rfl (PE.makeFunc rfl rfl) rfl ?_)))))
 refine clV rfl Zms rfl rfl (Zc6 xs a c 269 [] [_] (fun x=>!p x) Zmt hl _ _ (hp:=fun x hx=>ZbY x g _ fst cap (p x) hg _ _ (hp:=fun b=>hp _ _ x hx))) ?_
 refine pur 2 rfl (Z4 ?_)
 exact rtA rfl rfl rfl ⟨by simp only [ZC];rw [Zu],rfl,rfl⟩ drp
theorem Z5K (y:TBn) (a1 a2:Option Addr) (k1 k2:Nat) (q:Int) (hq:0≤q∧q<y.sizes.length) (hn:y.sizes.length≤7) (H:Z6) (R:Z5) :
    FnV Tryz.prog 234 [(y.v a1 a2 k1 k2),.int .i64 q] H R (.bool true):=by
 refine Zc Tryz.func234 rfl Tryz.ntmps234 rfl ?_
 refine sqt 2 rfl (bx rfl rfl rfl (fun b2=>pur 1 rfl (sqt 7 rfl (pur 1 rfl (sp rfl (PE.fA Z7X rfl) rfl (spL rfl rfl (lh Z2w rfl rfl) rfl (sp rfl (PE.lenSl ZO rfl) rfl (sp rfl (PE.sub rfl rfl (by omega)) rfl ?_))))))))
 refine clV rfl Zfu rfl rfl (Z3O _ _ _ (by omega) _ _) ?_
 refine pur 1 rfl (Z4 ?_)
 exact rtA rfl rfl rfl ⟨rfl,rfl,rfl⟩ drp
theorem Zfc (x:Int) (hx:0≤x∧x≤300) (H:Z6) (R:Z5) :
    FnV Tryz.prog 230 [.int .i64 x] H R (.bool true):=by
 refine Zc Tryz.func230 rfl Tryz.ntmps230 rfl ?_
 refine sqt 1 rfl (pur 1 rfl (sqt 3 rfl (pur 1 rfl ?_)))
 refine clV rfl Zfu rfl rfl (Z3O _ _ _ (by omega) _ _) ?_
 refine pur 1 rfl (Z4 ?_)
 exact rtA rfl rfl rfl ⟨rfl,rfl,rfl⟩ drp
theorem Zii (x:TLot) (hx:1≤x.sk∧x.sk≤300) (H:Z6) (R:Z5) :
    FnV Tryz.prog 232 [.agg (Z7s x).toArray] H R (.bool true):=by
 refine Zc Tryz.func232 rfl Tryz.ntmps232 rfl ?_
 refine sqt 2 rfl (bx rfl rfl rfl (fun b1=>pur 1 rfl (sqt 4 rfl (sp rfl (PE.fA ZcS rfl) rfl (spL rfl rfl (lh (v:=.int .i64 x.sk) sc3 rfl rfl) rfl ?_)))))
 refine clV rfl Zfu rfl rfl (Z3O _ _ _ (by omega) _ _) ?_
 refine pur 1 rfl (Z4 ?_)
 exact rtA rfl rfl rfl ⟨rfl,rfl,rfl⟩ drp
theorem Zij (y:TBn) (a1 a2:Option Addr) (k1 k2:Nat) (hn:y.sizes.length≤7) (b1:Nat) (x:TLot) (hx:(0≤x.in_∧x.in_<y.sizes.length)∧(x.to = -1∨0≤x.to∧x.to<y.sizes.length)) (H:Z6) (R:Z5) [hM:Mem1 b1 (cel 26 (brl y a1 a2 k1 k2)) H] :
    FnV Tryz.prog 233 [.agg (Z7s x).toArray,.pointer (some ⟨b1,0,none⟩)] H R (.bool true):=by
 refine Zc Tryz.func233 rfl Tryz.ntmps233 rfl ?_
 refine sqt 2 rfl (bx rfl rfl rfl (fun b2=>pur 1 rfl (sqt 16 rfl (spL rfl rfl (lhA (brl y a1 a2 k1 k2) ZeM rfl (rest:=[]) rfl rfl) rfl (sp rfl (PE.fA Z5e rfl) rfl (spL rfl rfl (lh (v:=.int .i64 x.in_) sc3 rfl rfl) rfl ?_))))))
 refine clV rfl Zh0 rfl rfl (Z5K y a1 a2 k1 k2 x.in_ (by omega) hn _ _) ?_
 refine pur 1 rfl ?_
 refine Zq 8 rfl ?_ ?_<;>intro g8
 refine spG rfl rfl rfl rfl (PE.fA Z1R rfl) rfl ?_
 refine Z0e rfl rfl rfl rfl rfl (lh (v:=.int .i64 x.to) sc3 rfl rfl) rfl (pur 2 rfl ?_)
 refine Zq 12 rfl ?_ ?_<;>intro g12
 refine pur 7 rfl (Z4 ?_)
 exact rtA rfl rfl rfl ⟨rfl,rfl,rfl⟩ drp
 have h12:x.to ≠ -1:=by simpa using g12
 refine Z0e rfl rfl rfl rfl rfl (lhA (brl y a1 a2 k1 k2) ZeM rfl (rest:=[]) rfl rfl) rfl ?_
 refine spG rfl rfl rfl rfl (PE.fA Z1R rfl) rfl ?_
 refine Z0e rfl rfl rfl rfl rfl (lh (v:=.int .i64 x.to) sc3 rfl rfl) rfl ?_
 refine Z6x rfl rfl rfl rfl Zh0 rfl rfl (Z5K y a1 a2 k1 k2 x.to (by omega) hn _ _) ?_
 refine pur 3 rfl (Z4 ?_)
 exact rtA rfl rfl rfl ⟨rfl,rfl,rfl⟩ drp
 exact absurd g8 (by simp)
theorem Z8J (y:TBn) (a1 a2:Option Addr) (k1 k2:Nat) (k i:Nat) (hk:k<y.sizes.length) (hi:i<y.lots.length) (hn:y.sizes.length≤7∧y.lots.length≤6) (H:Z6) (R:Z5) [hR1:MemRows a1 1 (irows y.sizes) R] [hR2:MemRows a2 3 (Z0B y.lots) R] :
    FnV Tryz.prog 87 [(y.v a1 a2 k1 k2),.int .i64 (k:Int),.int .i64 (i:Int)] H R (.bool (y.fits k i)):=by
 refine Zc Tryz.func87 rfl Tryz.ntmps87 rfl ?_
 refine sqt 2 rfl (bx rfl rfl rfl (fun b3=>?_))
 refine Zj (a:=a1) (sz:=1) (rows:=irows y.sizes) (ZV (ir_get (Z0v hk))) (fun bp1 op1 he1=>?_)
 subst he1
 refine Zj (a:=a2) (sz:=3) (rows:=Z0B y.lots) (ZV (Z2B (TBn.lot_get hi))) (fun bp2 op2 he2=>?_)
 subst he2
 refine pur 1 rfl (Z0 ?_)
 refine Za [0,1,0,7,15,0,32,0,224,480,992,2047,4095] (.tk 0 (.ld 1 (.tk 2 (.tk 3 (.ld 4 (.tk 5 (.ld 6 (tks 7 3 (.ld 10 (.tk 11 (.tk 12 .done))))))))))) Zl (by kernel_rfl) ?_
 refine tk rfl (PE.fA Z7X rfl) rfl (ld rfl rfl (lh Z2w rfl rfl) rfl (Zg 1 rfl (tk rfl (PE.indexAddr Z0D rfl rfl (by omega) (by omega)) rfl (ld rfl rfl (lf0 sc3 (ir_get (Z0v hk)) rfl) rfl (tk rfl (PE.fA Z2j rfl) rfl (ld rfl rfl (lh Zeb rfl rfl) rfl (Zg 1 rfl (tk rfl (PE.indexAddr ZiM rfl rfl (by omega) (by omega)) rfl (tk rfl (PE.fA ZcS rfl) rfl (ld rfl rfl (lf0 sc3 (Z2B (TBn.lot_get hi)) rfl) rfl (Zg 2 rfl (Z4 ?_))))))))))))
 exact rtA rfl rfl rfl ⟨rfl,rfl,rfl⟩ drp
theorem Zf2:arN Tryz.prog 119=some (6,1):=by kernel_rfl
theorem Zlc:cal Tryz.prog 153=true:=by kernel_rfl
theorem ZlY:cal Tryz.prog 229=true:=by kernel_rfl
theorem ZlZ:cal Tryz.prog 230=true:=by kernel_rfl
theorem ZgZ:cal Tryz.prog 231=true:=by kernel_rfl
theorem Zm0:cal Tryz.prog 232=true:=by kernel_rfl
theorem Zm1:cal Tryz.prog 233=true:=by kernel_rfl
theorem Ziw:cal Tryz.prog 87=true:=by kernel_rfl
theorem ZcA:Zz Tryz.prog 108=some 3:=by kernel_rfl
theorem cn3:Zz Tryz.prog 3=some 1:=by kernel_rfl
theorem Z5f:ZG Tryz.prog 121 0=some 0:=by kernel_rfl
theorem Z6M:ZG Tryz.prog 121 1=some 2:=by kernel_rfl
theorem Zpx:ZD Tryz.prog 121=some [(0,2),(2,6)]:=by kernel_rfl
theorem Zqy:slE Tryz.prog 24=some (108,3):=by kernel_rfl
theorem Z7y:Zp Tryz.prog 108=some ([.int .i64 0,.int .i64 0,.int .i64 0]):=by kernel_rfl
theorem Zq5:Zp Tryz.prog 121=some ([.slice none 0 0,.slice none 0 0,.int .i64 0,.int .i64 0,.int .i64 0,.int .i64 0,.int .i64 0,.int .i64 0]):=by kernel_rfl
structure TD where
 y:TBn
 a1:Option Addr
 a2:Option Addr
 k1:Nat
 k2:Nat
 bd:Nat
def TD.l (d:TD):List Value:=brl d.y d.a1 d.a2 d.k1 d.k2++Ze d.y.first
def ZfP (y:TBn) (k:Nat):List Int:=(y.lots.take k).map (·.in_)++List.replicate (6-k) 0
theorem Zac {y:TBn} {k:Nat} (h:k≤y.lots.length) (h6:y.lots.length≤6):(ZfP y k).length=6:=by
 unfold ZfP;rw [List.length_append,List.length_map,List.length_take,List.length_replicate];omega
theorem ZfQ (y:TBn):ZfP y y.lots.length=y.first:=by unfold ZfP TBn.first;rw [List.take_length]
theorem Zdd {y:TBn} {k:Nat} {x:TLot} (hx:y.lots[k]?=some x) (h6:y.lots.length≤6):(ZfP y k).set k x.in_=ZfP y (k+1):=by
 have hk:=(List.getElem?_eq_some_iff.1 hx).1
 unfold ZfP
 have hl:((y.lots.take k).map (·.in_)).length=k:=by rw [List.length_map,List.length_take];omega
 rw [List.set_append_right _ _ (by omega),hl,Nat.sub_self,show 6-k=(6-(k+1))+1 by omega,List.replicate_succ,List.set_cons_zero,List.take_add_one,hx,List.map_append,List.append_assoc];rfl
theorem Zed {A:List Int} {k i:Nat} {v:Int} (hk:k<A.length) (e:i=k):spl (Ze A) i [.int .i64 v]=Ze (A.set k v):=by
 subst e
 apply List.ext_getElem?
 intro j
 unfold spl Ze
 rw [List.length_singleton,List.getElem?_map,List.getElem?_set]
 by_cases h1:j<i
 · rw [List.getElem?_append_left (by simp;omega),List.getElem?_append_left (by simp;omega),List.getElem?_take_of_lt h1,List.getElem?_map,if_neg (by omega)]
 · by_cases h2:i=j
   · subst h2
     rw [List.getElem?_append_left (by simp;omega),List.getElem?_append_right (by simp;omega),if_pos rfl,if_pos hk]
     simp [Nat.min_eq_left (Nat.le_of_lt hk)]
   · rw [List.getElem?_append_right (by simp;omega),List.getElem?_drop,List.getElem?_map,if_neg h2]
     congr 2
     simp only [List.length_append,List.length_take,List.length_map,List.length_singleton];omega
theorem ZjF {a b:Value} {A:List Int} {k i:Nat} {v:Int} (hk:k<A.length) (e:i=2+k):spl ([a,b]++Ze A) i [.int .i64 v]=[a,b]++Ze (A.set k v):=by
 subst e
 rw [← Zed hk rfl]
 unfold spl
 rw [show 2+k=k+1+1 by omega,List.cons_append,List.cons_append,List.nil_append,List.take_succ_cons,List.take_succ_cons,List.length_singleton,show k+1+1+1=(k+1)+1+1 by omega,List.drop_succ_cons,List.drop_succ_cons];rfl
theorem Zna {b e sz:Nat} {row:List Value} {H:Z6} {R:Z5} {w:World} (h:St ((b,cel e row)::H) R w) (hs:row.length=sz):St H (RowsA (some ⟨b,0,none⟩) sz [row]::R) w:=St.rows (rows:=[row]) (rest:=[]) (by simpa using h) (fun r hr=>by rw [List.mem_singleton.1 hr];exact hs)
theorem TBn.ok.two {y:TBn} (hy:y.ok) {i j:Nat} {x z:TLot} (hx:y.lots[i]?=some x) (hz:y.lots[j]?=some z) (h:j<i):x.in_≠z.in_∧(x.to=z.to→x.to = -1):=hy.ne i j x z hx hz h
theorem ZhX {n i:Nat} {p:Nat→Bool} (hi:i<n) (h:p i=true):(List.range n).any p=true:=List.any_eq_true.2 ⟨i,List.mem_range.2 hi,h⟩
theorem Zf1 {n:Nat} {p:Nat→Bool} (h:∀ i,i<n→p i=false):(List.range n).any p=false:=by
 rw [List.any_eq_false];intro i hi;rw [h i (List.mem_range.1 hi)];decide
theorem ZhV {n:Nat} {p:Nat→Bool} (h:∀ i,i<n→p i=true):(List.range n).all p=true:=List.all_eq_true.2 fun i hi=>h i (List.mem_range.1 hi)
theorem ZeZ {n i:Nat} {p:Nat→Bool} (hi:i<n) (h:p i=false):(List.range n).all p=false:=by
 cases hb:(List.range n).all p with
 | false=>rfl
 | true=>have:=List.all_eq_true.1 hb i (List.mem_range.2 hi);rw [h] at this;cases this
set_option maxHeartbeats 800000 in
theorem Z1K (y:TBn) (a1 a2:Option Addr) (k1 k2:Nat) (hy:y.ok) (hc2:y.lots.length≤k2) (H:Z6) (R:Z5) [hR1:MemRows a1 1 (irows y.sizes) R] [hR2:MemRows a2 3 (Z0B y.lots) R] :
    FnV Tryz.prog 153 [(y.v a1 a2 k1 k2)] H R (.int .i64 0):=by
 have hb:=hy.nb
 have hl:=hy.nl
 refine Zc Tryz.func153 rfl Tryz.ntmps153 rfl ?_
 refine sqt 2 rfl (bx rfl rfl rfl (fun b1=>pur 1 rfl (Z0 (Z2 (sqt 12 rfl (sp rfl (PE.fA Z7X rfl) rfl (spL rfl rfl (lh Z2w rfl rfl) rfl (sp rfl (PE.lenSl ZO rfl) rfl ?_))))))))
 refine clV rfl Zfu rfl rfl (Z3O _ _ _ (by omega) _ _) ?_
 refine pur 2 rfl ?_
 refine Zq 15 rfl ?_ ?_<;>intro g15
 exact absurd g15 (by simp)
 refine spG rfl rfl rfl rfl (PE.fA Z2j rfl) rfl ?_
 refine Z0e rfl rfl rfl rfl rfl (lh Zeb rfl rfl) rfl ?_
 refine spG rfl rfl rfl rfl (PE.lenSl Z6W rfl) rfl ?_
 refine pur 3 rfl ?_
 refine Z1 rfl ?_ ?_<;>intro hc0
 exact absurd hc0 (by simp;omega)
 refine sqt 11 rfl (sp rfl (PE.fA Z7X rfl) rfl (spL rfl rfl (lh Z2w rfl rfl) rfl ?_))
 refine cl rfl ZlY rfl rfl (Z09 y.sizes a1 k1 230 [] [] (fun _=>true) ZlZ (by omega) _ _ (fun b9 x hx=>Zfc x (hy.sz x hx) _ _)) ?_
 rintro _ _ R1 ⟨rfl,rfl,hR1⟩
 obtain rfl:=hR1.symm
 clear hR1
 rw [show (y.sizes.all fun _=>true)=true by simp]
 refine pur 2 rfl ?_
 refine Zq 26 rfl ?_ ?_<;>intro g26
 exact absurd g26 (by simp)
 refine spG rfl rfl rfl rfl (PE.fA Z2j rfl) rfl ?_
 refine Z0e rfl rfl rfl rfl rfl (lh Zeb rfl rfl) rfl ?_
 refine clG rfl rfl rfl rfl ZgZ rfl rfl (Z4X y.lots a2 k2 232 [] [] (fun _=>true) Zm0 (by omega) _ _ (fun b9 b8 x hx=>Zii x (hy.sk x hx) _ _)) ?_
 rintro _ _ R1 ⟨rfl,rfl,hR1⟩
 obtain rfl:=hR1.symm
 clear hR1
 rw [show (y.lots.all fun _=>true)=true by simp]
 refine pur 3 rfl ?_
 refine Z1 rfl ?_ ?_<;>intro hc1
 exact absurd hc1 (by simp)
 refine sqt 6 rfl (sp rfl (PE.fA Z2j rfl) rfl (spL rfl rfl (lh Zeb rfl rfl) rfl (sp rfl (PE.makeFunc rfl rfl) rfl ?_)))
 refine cl rfl ZgZ rfl rfl (Z4X y.lots a2 k2 233 [] [.pointer (some ⟨b1,0,none⟩)] (fun _=>true) Zm1 (by omega) _ _ (fun b9 b8 x hx=>Zij y a1 a2 k1 k2 hb.2 b1 x (hy.ins x hx) _ _)) ?_
 rintro _ _ R1 ⟨rfl,rfl,hR1⟩
 obtain rfl:=hR1.symm
 clear hR1
 rw [show (y.lots.all fun _=>true)=true by simp]
 refine pur 2 rfl ?_
 refine Z1 rfl ?_ ?_<;>intro hc2
 exact absurd hc2 (by simp)
 refine Z3 (Z0 (sqt 4 rfl (sp rfl (PE.fA Z2j rfl) rfl (spL rfl rfl (lh Zeb rfl rfl) rfl (sp rfl (PE.lenSl Z6W rfl) rfl (pur 1 rfl (Z2 ?_)))))))
 refine Zd (ι:={k:Nat // k≤y.lots.length}) (fun k=>⟨[(1,.pointer (some ⟨b1,0,none⟩)),(39,.slice a2 y.lots.length k2),(40,.int .i64 (y.lots.length:Int)),(41,.int .i64 (k.1:Int))],(b1,cel 26 (brl y a1 a2 k1 k2))::H,R⟩) (fun k=>y.lots.length-k.1) ⟨0,Nat.zero_le _⟩ ?_ (fun k=>?_)
 exact Zf idH
 obtain ⟨k,hk⟩:=k
 dsimp only
 refine sqt 1 rfl (pur 1 rfl (Z0 ?_))
 refine Z1 rfl ?_ ?_<;>intro hc3<;>try simp only [cS] at hc3
 obtain ⟨x,hx⟩:∃ x,y.lots[k]?=some x:=⟨_,List.getElem?_eq_getElem (by omega)⟩
 refine Zj (a:=a2) (sz:=3) (rows:=Z0B y.lots) (ZV (Z2B hx)) (fun bp1 op1 he1=>?_)
 subst he1
 refine Z3 (Z0 (Z2 (sqt 6 rfl (pur 1 rfl (sp rfl (PE.indexAddr ZiM rfl rfl (by omega) (by omega)) rfl (spL rfl rfl (lfA Z8y (Z2B hx) rfl) rfl (alc rfl Z7y rfl (fun b4=>pur 1 rfl ?_))))))))
 refine Zy (l':=Z7s x) rfl rfl rfl ZcA rfl rfl rfl rfl (nl rfl) ?_
 refine sqt 6 rfl (sp rfl (PE.fA Z2j rfl) rfl (spL rfl rfl (lh Zeb rfl rfl) rfl (pur 1 rfl (sp rfl (PE.slHi (h:=k) Zqy rfl rfl (by omega)) rfl (sp rfl (PE.lenSl Z6W rfl) rfl (pur 1 rfl (Z2 ?_)))))))
 refine Zd (ι:={j:Nat // j≤k}) (fun j=>⟨[(1,.pointer (some ⟨b1,0,none⟩)),(4,.pointer (some ⟨b4,0,none⟩)),(39,.slice (some ⟨bp1,op1,none⟩) y.lots.length k2),(40,.int .i64 (y.lots.length:Int)),(41,.int .i64 (k:Int)),(49,.slice (some ⟨bp1,op1,none⟩) k k2),(50,.int .i64 (k:Int)),(51,.int .i64 (j.1:Int))],(b4,cel 108 (Z7s x))::(b1,cel 26 (brl y a1 (some ⟨bp1,op1,none⟩) k1 k2))::H,R⟩) (fun j=>k-j.1) ⟨0,Nat.zero_le _⟩ ?_ (fun j=>?_)
 exact Zf idH
 obtain ⟨j,hj⟩:=j
 dsimp only
 refine sqt 1 rfl (pur 1 rfl (Z0 ?_))
 refine Z1 rfl ?_ ?_<;>intro hc4<;>try simp only [cS] at hc4
 obtain ⟨z,hz⟩:∃ z,y.lots[j]?=some z:=⟨_,List.getElem?_eq_getElem (by omega)⟩
 obtain ⟨hne1,hne2⟩:=hy.two hx hz (by omega)
 refine Z3 (Z0 (Z2 (sqt 4 rfl (sp rfl (PE.indexAddr ZiM rfl rfl (by omega) (by omega)) rfl (spL rfl rfl (lfA Z8y (Z2B hz) rfl) rfl (alc rfl Z7y rfl (fun b6=>?_)))))))
 refine Zy (l':=Z7s z) rfl rfl rfl ZcA rfl rfl rfl rfl (nl rfl) ?_
 refine sqt 17 rfl (sp rfl (PE.fA Z5e rfl) rfl (spL rfl rfl (lh (v:=.int .i64 x.in_) sc3 rfl rfl) rfl (sp rfl (PE.fA Z5e rfl) rfl (spL rfl rfl (lh (v:=.int .i64 z.in_) sc3 rfl rfl) rfl (pur 2 rfl ?_)))))
 refine Zq 60 rfl ?_ ?_<;>intro g60
 exact absurd (by simpa using g60) hne1
 refine spG rfl rfl rfl rfl (PE.fA Z1R rfl) rfl ?_
 refine Z0e rfl rfl rfl rfl rfl (lh (v:=.int .i64 x.to) sc3 rfl rfl) rfl ?_
 refine spG rfl rfl rfl rfl (PE.fA Z1R rfl) rfl ?_
 refine Z0e rfl rfl rfl rfl rfl (lh (v:=.int .i64 z.to) sc3 rfl rfl) rfl (pur 2 rfl ?_)
 refine Zq 66 rfl ?_ ?_<;>intro g66
 have h66:x.to=z.to:=by simpa using g66
 refine spG rfl rfl rfl rfl (PE.fA Z1R rfl) rfl ?_
 refine Z0e rfl rfl rfl rfl rfl (lh (v:=.int .i64 x.to) sc3 rfl rfl) rfl (pur 3 rfl ?_)
 refine Z1 rfl ?_ ?_<;>intro hc5
 exact absurd (hne2 h66) (by simpa using hc5)
 refine Z3 (sqr 2 rfl (sp rfl (PE.add rfl rfl (by omega)) rfl (pur 1 rfl ?_)))
 exact Zb ⟨j+1,by omega⟩ (fun w h=>h.del b6)
 refine pur 5 rfl ?_
 refine Zt rfl ?_
 refine Z3 (sqr 2 rfl (sp rfl (PE.add rfl rfl (by omega)) rfl (pur 1 rfl ?_)))
 exact Zb ⟨j+1,by omega⟩ (fun w h=>h.del b6)
 refine Z7 (Z8 (Z8 (Zi (sqr 2 rfl (sp rfl (PE.add rfl rfl (by omega)) rfl (pur 1 rfl ?_))))))
 exact Zb ⟨k+1,by omega⟩ (fun w h=>h.del b4)
 refine Z7 (Z8 (Z8 (Zi (Z0 (sqt 4 rfl (sp rfl (PE.fA Z2j rfl) rfl (spL rfl rfl (lh Zeb rfl rfl) rfl (sp rfl (PE.lenSl Z6W rfl) rfl (pur 1 rfl (Z2 ?_))))))))))
 refine Zd (ι:={k:Nat // k≤y.lots.length}) (fun k=>⟨[(1,.pointer (some ⟨b1,0,none⟩)),(75,.slice a2 y.lots.length k2),(76,.int .i64 (y.lots.length:Int)),(77,.int .i64 (k.1:Int))],(b1,cel 26 (brl y a1 a2 k1 k2))::H,R⟩) (fun k=>y.lots.length-k.1) ⟨0,Nat.zero_le _⟩ ?_ (fun k=>?_)
 exact Zf idH
 obtain ⟨k,hk⟩:=k
 dsimp only
 refine sqt 1 rfl (pur 1 rfl (Z0 ?_))
 refine Z1 rfl ?_ ?_<;>intro hc6<;>try simp only [cS] at hc6
 obtain ⟨x,hx⟩:∃ x,y.lots[k]?=some x:=⟨_,List.getElem?_eq_getElem (by omega)⟩
 obtain ⟨hh1,hh2⟩:=hy.hold k x hx
 obtain ⟨hi1,hi2⟩:=hy.ins x (List.mem_of_getElem? hx)
 refine Zj (a:=a2) (sz:=3) (rows:=Z0B y.lots) (ZV (Z2B hx)) (fun bp1 op1 he1=>?_)
 subst he1
 refine Z3 (Z0 (Z2 (sqt 6 rfl (pur 1 rfl (sp rfl (PE.indexAddr ZiM rfl rfl (by omega) (by omega)) rfl (spL rfl rfl (lfA Z8y (Z2B hx) rfl) rfl (alc rfl Z7y rfl (fun b8=>pur 1 rfl ?_))))))))
 refine Zy (l':=Z7s x) rfl rfl rfl ZcA rfl rfl rfl rfl (nl rfl) ?_
 refine sqt 19 rfl (spL rfl rfl (lhA (brl y a1 (some ⟨bp1,op1,none⟩) k1 k2) ZeM rfl (rest:=[]) rfl rfl) rfl (sp rfl (PE.fA Z5e rfl) rfl (spL rfl rfl (lh (v:=.int .i64 x.in_) sc3 rfl rfl) rfl (pur 1 rfl ?_))))
 refine cl rfl Ziw rfl rfl (by rw [← Int.toNat_of_nonneg hi1.1];exact Z8J y a1 (some ⟨bp1,op1,none⟩) k1 k2 x.in_.toNat k (by omega) (by omega) ⟨hb.2,hl⟩ _ _) ?_
 rintro _ _ R1 ⟨rfl,rfl,hR1⟩
 obtain rfl:=hR1.symm
 clear hR1
 rw [hh1]
 refine pur 2 rfl ?_
 refine Zq 88 rfl ?_ ?_<;>intro g88
 exact absurd g88 (by simp)
 refine spG rfl rfl rfl rfl (PE.fA Z1R rfl) rfl ?_
 refine Z0e rfl rfl rfl rfl rfl (lh (v:=.int .i64 x.to) sc3 rfl rfl) rfl (pur 2 rfl ?_)
 refine Zq 92 rfl ?_ ?_<;>intro g92
 have h92:x.to ≠ -1:=by simpa using g92
 refine Z0e rfl rfl rfl rfl rfl (lhA (brl y a1 (some ⟨bp1,op1,none⟩) k1 k2) ZeM rfl (rest:=[]) rfl rfl) rfl ?_
 refine spG rfl rfl rfl rfl (PE.fA Z1R rfl) rfl ?_
 refine Z0e rfl rfl rfl rfl rfl (lh (v:=.int .i64 x.to) sc3 rfl rfl) rfl (pur 1 rfl ?_)
 refine clG rfl rfl rfl rfl Ziw rfl rfl (by rw [← Int.toNat_of_nonneg (show 0≤x.to by omega)];exact Z8J y a1 (some ⟨bp1,op1,none⟩) k1 k2 x.to.toNat k (by omega) (by omega) ⟨hb.2,hl⟩ _ _) ?_
 rintro _ _ R1 ⟨rfl,rfl,hR1⟩
 obtain rfl:=hR1.symm
 clear hR1
 rw [hh2 h92]
 refine pur 3 rfl ?_
 refine Z1 rfl ?_ ?_<;>intro hc7
 exact absurd hc7 (by simp)
 refine Z3 (sqr 2 rfl (sp rfl (PE.add rfl rfl (by omega)) rfl (pur 1 rfl ?_)))
 exact Zb ⟨k+1,by omega⟩ (fun w h=>h.del b8)
 refine pur 8 rfl ?_
 refine Zt rfl ?_
 refine Z3 (sqr 2 rfl (sp rfl (PE.add rfl rfl (by omega)) rfl (pur 1 rfl ?_)))
 exact Zb ⟨k+1,by omega⟩ (fun w h=>h.del b8)
 refine Z7 (Z8 (Z8 (Zi (sqt 1 rfl (pur 1 rfl (Z4 ?_))))))
 exact rtA rfl rfl rfl ⟨rfl,rfl,rfl⟩ (fun w h=>h.del b1)
theorem Z1j (y:TBn) (a1 a2:Option Addr) (k1 k2:Nat) (hy:y.ok) (hc2:y.lots.length≤k2) (H:Z6) (R:Z5) [hR1:MemRows a1 1 (irows y.sizes) R] [hR2:MemRows a2 3 (Z0B y.lots) R] :
    Fn Tryz.prog 82 [(y.v a1 a2 k1 k2)] H R (fun v H' R'=>∃ d:TD,v = .tuple #[.pointer (some ⟨d.bd,0,none⟩),.int .i64 0]∧d.y=y∧d.a1=a1∧d.a2=a2∧d.k1=k1∧d.k2=k2∧H'=H∧R'=RowsA (some ⟨d.bd,0,none⟩) 8 [d.l]::R):=by
 have hb:=hy.nb
 have hl:=hy.nl
 refine Zc Tryz.func82 rfl Tryz.ntmps82 rfl ?_
 refine sqt 3 rfl (bx rfl rfl rfl (fun b1=>pur 2 rfl (Z0 (sqt 3 rfl (spL rfl rfl (lhA (brl y a1 a2 k1 k2) ZeM rfl (rest:=[]) rfl rfl) rfl ?_)))))
 refine clV rfl Zlc rfl rfl (Z1K y a1 a2 k1 k2 hy hc2 _ _) ?_
 refine pur 1 rfl (sqt 2 rfl (pur 2 rfl ?_))
 refine Z1 rfl ?_ ?_<;>intro hc0
 exact absurd hc0 (by simp)
 refine Z3 (sqt 4 rfl (spL rfl rfl (lhA (brl y a1 a2 k1 k2) ZeM rfl (rest:=[]) rfl rfl) rfl (sp rfl (PE.build (out:=[_,_,_,_,_,_,_,_]) Zpx Zq5 rfl rfl) rfl (bx rfl rfl rfl (fun b15=>pur 1 rfl (Z0 (sqt 4 rfl (sp rfl (PE.fA Z2j rfl) rfl (spL rfl rfl (lh Zeb rfl rfl) rfl (sp rfl (PE.lenSl Z6W rfl) rfl (pur 1 rfl (Z2 ?_))))))))))))
 refine Zd (ι:={k:Nat // k≤y.lots.length}) (fun k=>⟨[(5,.pointer (some ⟨b15,0,none⟩)),(17,.slice a2 y.lots.length k2),(18,.int .i64 (y.lots.length:Int)),(19,.int .i64 (k.1:Int))],(b15,cel 121 (brl y a1 a2 k1 k2++Ze (ZfP y k.1)))::H,R⟩) (fun k=>y.lots.length-k.1) ⟨0,Nat.zero_le _⟩ ?_ (fun k=>?_)
 exact Zf (fun w h=>h.del b1)
 obtain ⟨k,hk⟩:=k
 dsimp only
 refine sqt 1 rfl (pur 1 rfl (Z0 ?_))
 refine Z1 rfl ?_ ?_<;>intro hc1<;>try simp only [cS] at hc1
 obtain ⟨x,hx⟩:∃ x,y.lots[k]?=some x:=⟨_,List.getElem?_eq_getElem (by omega)⟩
 refine Zj (a:=a2) (sz:=3) (rows:=Z0B y.lots) (ZV (Z2B hx)) (fun bp1 op1 he1=>?_)
 subst he1
 refine Z3 (Z0 (Z2 (sqt 6 rfl (pur 1 rfl (sp rfl (PE.indexAddr ZiM rfl rfl (by omega) (by omega)) rfl (spL rfl rfl (lfA Z8y (Z2B hx) rfl) rfl (alc rfl Z7y rfl (fun b7=>pur 1 rfl ?_))))))))
 refine Zy (l':=Z7s x) rfl rfl rfl ZcA rfl rfl rfl rfl (nl rfl) ?_
 refine Za [0,0,0,4,1,17,63,127] (tks 0 3 (.ld 3 (tks 4 3 (.big 7 .done)))) Zl (by kernel_rfl) ?_
 refine Zg 2 rfl (tk rfl (PE.fA Z5e rfl) rfl (ld rfl rfl (lh (v:=.int .i64 x.in_) sc3 rfl rfl) rfl (tk rfl (PE.nilCheck rfl) rfl (tk rfl (PE.fA Z6M rfl) rfl (tk rfl (PE.indexArr Zf2 rfl rfl (by omega) (by omega)) rfl ?_)))))
 refine Zy (l':=brl y a1 (some ⟨bp1,op1,none⟩) k1 k2++Ze (ZfP y (k+1))) rfl rfl rfl cn3 rfl rfl rfl (by rw [← Zdd hx hl];exact ZjF (by rw [Zac hk hl];omega) (by show 0+2+((k:Nat):Int).toNat*1=_;omega)) (by rw [List.length_append,ints_length,Zac hk hl];show 0+2+((k:Nat):Int).toNat*1+1≤2+6;omega) ?_
 refine bgT (sqr 2 rfl (sp rfl (PE.add rfl rfl (by omega)) rfl (pur 1 rfl ?_)))
 exact Zb ⟨k+1,by omega⟩ (fun w h=>h.del b7)
 obtain rfl:k=y.lots.length:=by omega
 refine Z7 (Z8 (Z8 (Zi (sqt 3 rfl (pur 3 rfl (Z4 ?_))))))
 exact rtB rfl rfl rfl rfl ⟨⟨y,a1,a2,k1,k2,b15⟩,rfl,rfl,rfl,rfl,rfl,rfl,rfl,rfl⟩ (fun w h=>Zna (by unfold TD.l;rw [← ZfQ y];exact h) (by unfold TD.l brl;rw [List.length_append,ints_length,TBn.first_len hl];rfl))
theorem Ziq (d:TD) (hy:d.y.ok) (p:List Int) (hp:p.length=6) (q:Int) (H:Z6) (R:Z5) [hD:MemRows (some ⟨d.bd,0,none⟩) 8 [d.l] R] [hR1:MemRows d.a1 1 (irows d.y.sizes) R] [hR2:MemRows d.a2 3 (Z0B d.y.lots) R] :
    FnV Tryz.prog 86 [.pointer (some ⟨d.bd,0,none⟩),.agg (Ze p).toArray,.int .i64 q] H R (.bool (d.y.tkn p q)):=by
 have hl:=hy.nl
 refine Zc Tryz.func86 rfl Tryz.ntmps86 rfl ?_
 refine sqt 2 rfl (bx rfl rfl rfl (fun b4=>pur 1 rfl (Z0 (sqt 7 rfl (pur 1 rfl (sp rfl (PE.nilCheck rfl) rfl (sp rfl (PE.fA Z5f rfl) rfl (sp rfl (PE.fA Z2j rfl) rfl (spL rfl rfl (lfB (sz:=8) Zeb rfl) rfl (sp rfl (PE.lenSl Z6W rfl) rfl (pur 1 rfl (Z2 ?_))))))))))))
 refine Zd (ι:={k:Nat // k≤d.y.lots.length∧∀ i,i<k→decide (na p i=q)=false}) (fun k=>⟨[(2,.int .i64 q),(4,.pointer (some ⟨b4,0,none⟩)),(13,.int .i64 (d.y.lots.length:Int)),(14,.int .i64 (k.1:Int))],(b4,cel 119 (Ze p))::H,R⟩) (fun k=>d.y.lots.length-k.1) ⟨0,Nat.zero_le _,fun i hi=>absurd hi (Nat.not_lt_zero _)⟩ ?_ (fun k=>?_)
 exact Zf idH
 obtain ⟨k,hk,hn⟩:=k
 dsimp only
 refine sqt 1 rfl (pur 1 rfl (Z0 ?_))
 refine Z1 rfl ?_ ?_<;>intro hc0<;>try simp only [cS] at hc0
 refine Z3 (Z0 (Z2 (sqt 2 rfl (pur 2 rfl (sqt 5 rfl (pur 1 rfl (sp rfl (PE.indexArr Zf2 rfl rfl (by omega) (by omega)) rfl (spL rfl rfl (lh sc3 rfl (Z26 (k:=k) (by omega) (by show 0+((k:Nat):Int).toNat*1=_;omega))) rfl (pur 2 rfl ?_)))))))))
 refine Z1 rfl ?_ ?_<;>intro hc1<;>try simp only [cS] at hc1
 refine sqt 1 rfl (pur 1 rfl (Z4 ?_))
 exact rtA rfl rfl rfl ⟨by simp only [ZC];unfold TBn.tkn;rw [ZhX (i:=k) (by omega) (dT hc1)],rfl,rfl⟩ (fun w h=>h.del b4)
 refine Z3 (sqr 2 rfl (sp rfl (PE.add rfl rfl (by omega)) rfl (pur 1 rfl ?_)))
 exact Zv ⟨k+1,by omega,fun i hi=>by
   by_cases e:i=k
   · subst e;exact dF hc1
   · exact hn i (by omega)⟩ (by dsimp only;omega) sbA idH
 obtain rfl:k=d.y.lots.length:=by omega
 refine Z7 (Z8 (Z8 (Zi (sqt 1 rfl (pur 1 rfl (Z4 ?_))))))
 exact rtA rfl rfl rfl ⟨by simp only [ZC];unfold TBn.tkn;rw [Zf1 hn],rfl,rfl⟩ (fun w h=>h.del b4)
theorem ZkC (d:TD) (hy:d.y.ok) (p:List Int) (hp:p.length=6) (H:Z6) (R:Z5) [hD:MemRows (some ⟨d.bd,0,none⟩) 8 [d.l] R] [hR1:MemRows d.a1 1 (irows d.y.sizes) R] [hR2:MemRows d.a2 3 (Z0B d.y.lots) R] :
    FnV Tryz.prog 37 [.pointer (some ⟨d.bd,0,none⟩),.agg (Ze p).toArray] H R (.bool (d.y.mds p)):=by
 have hl:=hy.nl
 refine Zc Tryz.func37 rfl Tryz.ntmps37 rfl ?_
 refine sqt 2 rfl (bx rfl rfl rfl (fun b3=>pur 1 rfl (Z0 (sqt 7 rfl (pur 1 rfl (sp rfl (PE.nilCheck rfl) rfl (sp rfl (PE.fA Z5f rfl) rfl (sp rfl (PE.fA Z2j rfl) rfl (spL rfl rfl (lfB (sz:=8) Zeb rfl) rfl (sp rfl (PE.lenSl Z6W rfl) rfl (pur 1 rfl (Z2 ?_))))))))))))
 refine Zd (ι:={k:Nat // k≤d.y.lots.length∧∀ i,i<k→(decide ((d.y.lot i).to = -1)||decide ((d.y.lot i).to=na p i))=true}) (fun k=>⟨[(3,.pointer (some ⟨b3,0,none⟩)),(11,.slice d.a2 d.y.lots.length d.k2),(12,.int .i64 (d.y.lots.length:Int)),(13,.int .i64 (k.1:Int))],(b3,cel 119 (Ze p))::H,R⟩) (fun k=>d.y.lots.length-k.1) ⟨0,Nat.zero_le _,fun i hi=>absurd hi (Nat.not_lt_zero _)⟩ ?_ (fun k=>?_)
 exact Zf idH
 obtain ⟨k,hk,hn⟩:=k
 dsimp only
 refine sqt 1 rfl (pur 1 rfl (Z0 ?_))
 refine Z1 rfl ?_ ?_<;>intro hc0<;>try simp only [cS] at hc0
 obtain ⟨x,hx⟩:∃ x,d.y.lots[k]?=some x:=⟨_,List.getElem?_eq_getElem (by omega)⟩
 have hlk:=TBn.lot_of hx
 refine Zj (a:=d.a2) (sz:=3) (rows:=Z0B d.y.lots) (ZV (Z2B hx)) (fun bp1 op1 he1=>?_)
 rw [he1]
 have hR3:MemRows (some ⟨bp1,op1,none⟩) 3 (Z0B d.y.lots) R:=he1▸hR2
 refine Z3 (Z0 (Z2 (sqt 6 rfl (pur 1 rfl (sp rfl (PE.indexAddr ZiM rfl rfl (by omega) (by omega)) rfl (spL rfl rfl (lfA Z8y (Z2B hx) rfl) rfl (alc rfl Z7y rfl (fun b6=>pur 1 rfl ?_))))))))
 refine Zy (l':=Z7s x) rfl rfl rfl ZcA rfl rfl rfl rfl (nl rfl) ?_
 refine Z0 ?_
 refine Za [0,1,3,7,15,31,15,79,207,511,1023] (.tk 0 (.ld 1 (tks 2 3 (.ld 5 (.tk 6 (.tk 7 (.ld 8 (.tk 9 (.tk 10 .done))))))))) Zl (by kernel_rfl) ?_
 refine tk rfl (PE.fA Z1R rfl) rfl (ld rfl rfl (lh (v:=.int .i64 x.to) sc3 rfl rfl) rfl (Zg 2 rfl ?_))
 refine Zq 21 rfl ?_ ?_<;>intro g21
 have h21:x.to ≠ -1:=by simpa using g21
 refine tkG rfl rfl rfl rfl (PE.fA Z1R rfl) rfl ?_
 refine ldG rfl rfl rfl rfl rfl (lh (v:=.int .i64 x.to) sc3 rfl rfl) rfl (Zg 1 rfl ?_)
 refine tkG rfl rfl rfl rfl (PE.indexArr Zf2 rfl rfl (by omega) (by omega)) rfl ?_
 refine ldG rfl rfl rfl rfl rfl (lh sc3 rfl (Z26 (k:=k) (by omega) (by show 0+((k:Nat):Int).toNat*1=_;omega))) rfl (Zg 2 rfl ?_)
 refine Z1 rfl ?_ ?_<;>intro hc1<;>try simp only [cS] at hc1
 refine sqt 1 rfl (pur 1 rfl (Z4 ?_))
 exact rtA rfl rfl rfl ⟨by simp only [ZC];unfold TBn.mds;rw [ZeZ (i:=k) (by omega) (by rw [hlk];simp_all)],rfl,rfl⟩ (fun w h=>(h.del b6).del b3)
 refine Z3 (sqr 2 rfl (sp rfl (PE.add rfl rfl (by omega)) rfl (pur 1 rfl ?_)))
 exact Zv ⟨k+1,by omega,fun i hi=>by
   by_cases e:i=k
   · subst e;rw [hlk];simp_all
   · exact hn i (by omega)⟩ (by dsimp only;omega) sbA (fun w h=>h.del b6)
 have h21:x.to = -1:=by simpa using g21
 refine Zg 1 rfl ?_
 refine ldN rfl rfl rfl rfl rfl rfl rfl rfl ?_
 refine Zg 2 rfl ?_
 refine ldN rfl rfl rfl rfl rfl rfl rfl rfl ?_
 refine Zg 2 rfl ?_
 refine Zt rfl ?_
 refine Z3 (sqr 2 rfl (sp rfl (PE.add rfl rfl (by omega)) rfl (pur 1 rfl ?_)))
 exact Zv ⟨k+1,by omega,fun i hi=>by
   by_cases e:i=k
   · subst e;rw [hlk];simp_all
   · exact hn i (by omega)⟩ (by dsimp only;omega) sbA (fun w h=>h.del b6)
 obtain rfl:k=d.y.lots.length:=by omega
 refine Z7 (Z8 (Z8 (Zi (sqt 1 rfl (pur 1 rfl (Z4 ?_))))))
 exact rtA rfl rfl rfl ⟨by simp only [ZC];unfold TBn.mds;rw [ZhV hn],rfl,rfl⟩ (fun w h=>h.del b3)
theorem Z32 (n x:Int) (b c:Nat) (H:Z6) (R:Z5) [hM:Mem1 b (cel 3 [.int .i64 x]) H] :
    FnV Tryz.prog 227 [.int .i64 n,.slice (some ⟨b,0,none⟩) 1 c] H R (.int .i64 (min n x)):=by
 refine Zc Tryz.func227 rfl Tryz.ntmps227 rfl ?_
 refine sqt 1 rfl (pur 1 rfl (Z0 (sqt 3 rfl (pur 1 rfl (sp rfl (PE.lenSl ZO rfl) rfl (pur 1 rfl (Z2 ?_)))))))
 refine Zd (ι:={k:Nat // k≤1}) (fun k=>⟨[(0,.int .i64 (bif Nat.beq k.1 0 then n else min n x)),(7,.slice (some ⟨b,0,none⟩) 1 c),(8,.int .i64 1),(9,.int .i64 (k.1:Int))],H,R⟩) (fun k=>1-k.1) ⟨0,by decide⟩ ?_ (fun k=>?_)
 exact Zf idH
 obtain ⟨k,hk⟩:=k
 dsimp only
 refine sqt 1 rfl (pur 1 rfl (Z0 ?_))
 refine Z1 rfl ?_ ?_<;>intro hc0<;>try simp only [cS] at hc0
 obtain rfl:k=0:=by omega
 refine Z3 (Z0 (Z2 (sqt 3 rfl (sp rfl (PE.indexAddr Z0D rfl rfl (by decide) (by decide)) rfl (spL rfl rfl (lh sc3 rfl rfl) rfl (pur 1 rfl (sqr 4 rfl (pur 2 rfl (sp rfl (PE.min rfl rfl) rfl (pur 1 rfl (sqr 2 rfl (sp rfl (PE.add rfl rfl (by decide)) rfl (pur 1 rfl ?_)))))))))))))
 exact Zb ⟨1,by decide⟩ idH
 obtain rfl:k=1:=by omega
 refine Z7 (Z8 (Z8 (Zi (sqt 2 rfl (pur 2 rfl (Z4 ?_))))))
 exact rtA rfl rfl rfl ⟨rfl,rfl,rfl⟩ drp
theorem ZoH (l9:Int) (t9:Int) (H:Z6) (R:Z5) :
    FnV Tryz.prog 81 [.agg #[.int .i64 l9,.int .i64 t9]] H R (.int .i64 1):=by
 refine Zc Tryz.func81 rfl Tryz.ntmps81 rfl ?_
 refine sqt 2 rfl (bx rfl rfl rfl (fun b1=>pur 1 rfl (sqt 1 rfl (pur 1 rfl (Z4 ?_)))))
 exact rtA rfl rfl rfl ⟨rfl,rfl,rfl⟩ drp
theorem Z0V:Z0W Tryz.prog 119=some 6:=by kernel_rfl
theorem Zp8:cal Tryz.prog 86=true:=by kernel_rfl
theorem Zrb:ZD Tryz.prog 47=some [(0,1),(1,1)]:=by kernel_rfl
theorem Zgl:Z0c Tryz.prog 116=true:=by kernel_rfl
theorem Zoh:Zp Tryz.prog 47=some ([.int .i64 0,.int .i64 0]):=by kernel_rfl
section Zpf
variable {P:Program} {ops:Array Oper} {n:Nat} {L:Zn} {D:List Deferred} {H:Z6} {R:Z5} {K:Act→World→Prop}
 {i d:Nat} {ty:TypeId} {pos:String} {af:Array Edge}
theorem Zpf {l:Nat} {c:Operand} {xs:List Operand} {vs:List Value} {ts:Array TypeId} {Q:Value→Z6→Z5→Prop} {j t:Nat} {bb:Bool} {oj:Oper}
   (ho:ops[i]?=some ⟨some d,.call { callee:=.value c,args:=xs.toArray,argTypes:=ts },ty,pos,af,some (j,bb)⟩) (hj:ops[j]?=some oj) (ht:oj.dst=some t) (hg:lk L t=some (.bool bb)) (hcv:ev L c=some (yv l)) (hd:Nat.blt d n=true) (hx:evs L xs=some vs)
   (hc:Yd P l vs H R Q) (h:∀ v H' R',Q v H' R'→Sy n ((d,v)::L) D H' R' K):Sy n L D H R (stp P none ops i K):=fun a w ha hD hs=>by
 obtain ⟨f,tm,asg,bo,h1,h2⟩:=hc w hs
 have hw:Region.wanted ⟨some d,.call { callee:=.value c,args:=xs.toArray,argTypes:=ts },ty,pos,af,some (j,bb)⟩ (yielded ops a.tmps)=true:=by simp [Region.wanted,ZM ha hj ht hg]
 unfold stp
 rw [ho]
 simp only [hw,if_true,Oper.wpIn,Z2F,Z0z (Z4p ha.reads hcv hx h1) (by simp),Oper.uponIn]
 refine ⟨fun _ _=>Z3L _ _,by simp [Z4w],RoundIn.mono h2 fun e w' he=>?_⟩
 obtain ⟨v,H',R',q,rfl,hs'⟩:=he
 exact h v H' R' q _ _ (ha.put (by simpa using hd) v) hD hs'
end Zpf
structure TI (d:TD) (p:List Int) (x1 x2:Nat) (R:Z5):Prop where
 f1:RowsA (some ⟨x1,0,none⟩) 1 [[.pointer (some ⟨d.bd,0,none⟩)]]∈R
 f2:RowsA (some ⟨x2,0,none⟩) 6 [Ze p]∈R
 fd:RowsA (some ⟨d.bd,0,none⟩) 8 [d.l]∈R
 r1:RowsA d.a1 1 (irows d.y.sizes)∈R
 r2:RowsA d.a2 3 (Z0B d.y.lots)∈R
def Zhg (b:TBn) (k n:Nat):List (Int×Int):=((List.range n).filter (b.fits k)).map fun (i:Nat)=>((i:Int),(k:Int))
theorem Z3m (b:TBn) (k n:Nat):Zhg b k (n+1)=Zhg b k n++(bif b.fits k n then [((n:Int),(k:Int))] else []):=by
 unfold Zhg
 rw [List.range_succ,List.filter_append,List.map_append]
 cases h:b.fits k n<;>simp [h]
theorem Za4 (b:TBn) (k m:Nat):∀ n,m≤n→∃ r,Zhg b k n=Zhg b k m++r
 | 0,h=>⟨[],by rw [Nat.le_zero.1 h,List.append_nil]⟩
 | n+1,h=>by
   rcases Nat.lt_or_ge m (n+1) with h1 | h1
   · obtain ⟨r,e⟩:=Za4 b k m n (by omega)
     exact ⟨r++_,by rw [Z3m,e,List.append_assoc]⟩
   · obtain rfl:m=n+1:=by omega
     exact ⟨[],by rw [List.append_nil]⟩
theorem ZdI (b:TBn) (p:List Int) (m:Nat):∀ n,m≤n→∃ r,b.mvN p n=b.mvN p m++r
 | 0,h=>⟨[],by rw [Nat.le_zero.1 h,List.append_nil]⟩
 | n+1,h=>by
   rcases Nat.lt_or_ge m (n+1) with h1 | h1
   · obtain ⟨r,e⟩:=ZdI b p m n (by omega)
     exact ⟨r++b.mv1 p n,by show b.mvN p n++b.mv1 p n=_;rw [e,List.append_assoc]⟩
   · obtain rfl:m=n+1:=by omega
     exact ⟨[],by rw [List.append_nil]⟩
theorem ZdJ {b:TBn} {p:List Int} {k:Nat} (h:b.tkn p (k:Int)=true):b.mvN p (k+1)=b.mvN p k:=by
 show b.mvN p k++b.mv1 p k=_
 unfold TBn.mv1;rw [h,cond_true,List.append_nil]
theorem Zas {b:TBn} {p:List Int} {k:Nat} (h:b.tkn p (k:Int)=false):b.mvN p (k+1)=b.mvN p k++Zhg b k b.lots.length:=by
 show b.mvN p k++b.mv1 p k=_
 unfold TBn.mv1;rw [h,cond_false];rfl
theorem Znr {b:TBn} {p:List Int} {k i:Nat} (hk:k<b.sizes.length) (ht:b.tkn p (k:Int)=false) (hi:i<b.lots.length) (hf:b.fits k i=true):(b.mvs p)[(b.mvN p k).length+(Zhg b k i).length]?=some ((i:Int),(k:Int)):=by
 obtain ⟨r,e⟩:=ZdI b p (k+1) b.sizes.length (by omega)
 obtain ⟨r2,e2⟩:=Za4 b k (i+1) b.lots.length (by omega)
 unfold TBn.mvs
 rw [e,Zas ht,e2,Z3m,hf,cond_true,List.append_assoc,List.append_assoc,List.append_assoc,List.getElem?_append_right (by omega),Nat.add_sub_cancel_left,List.getElem?_append_right (Nat.le_refl _),Nat.sub_self];rfl
theorem Z3P (d:TD) (p:List Int) (hp:p.length=6) (H:Z6) (R:Z5) :
    Fn Tryz.prog 226 [.pointer (some ⟨d.bd,0,none⟩),.agg (Ze p).toArray] H R (fun v H' R'=>∃ x1 x2,v = .func (.func 266) #[] #[.pointer (some ⟨x1,0,none⟩),.pointer (some ⟨x2,0,none⟩)]∧H'=H∧R'=RowsA (some ⟨x2,0,none⟩) 6 [Ze p]::RowsA (some ⟨x1,0,none⟩) 1 [[.pointer (some ⟨d.bd,0,none⟩)]]::R):=by
 refine Zc Tryz.func226 rfl Tryz.ntmps226 rfl ?_
 refine sqt 3 rfl (bx rfl rfl rfl (fun b2=>bx rfl rfl rfl (fun b3=>pur 1 rfl (sqt 2 rfl (sp rfl (PE.makeFunc rfl rfl) rfl (pur 1 rfl (Z4 ?_)))))))
 refine Sy.heap (fun w h=>Zna (sz:=6) (row:=Ze p) (Zna (sz:=1) (row:=[.pointer (some ⟨d.bd,0,none⟩)]) (h.pull b2) rfl) (by rw [ints_length];exact hp)) ?_
 exact rtA rfl rfl rfl ⟨b2,b3,rfl,rfl,rfl⟩ idH
set_option maxHeartbeats 800000 in
theorem Zir (d:TD) (hy:d.y.ok) (p:List Int) (hp:p.length=6) (x1 x2 lp:Nat) (I:Nat→Z6→Z5→Prop) (hI:∀ k H R,I k H R→TI d p x1 x2 R)
    (hyd:∀ k t H R,(d.y.mvs p)[k]?=some t→I k H R→Yd Tryz.prog lp [.agg #[.int .i64 t.1,.int .i64 t.2]] H R (fun v H' R'=>v = .bool true∧I (k+1) H' R')) (H:Z6) (R:Z5) (h0:I 0 H R) :
    Fn Tryz.prog 266 [yv lp,.pointer (some ⟨x1,0,none⟩),.pointer (some ⟨x2,0,none⟩)] H R (fun _ H' R'=>I (d.y.mvs p).length H' R'):=by
 have hb:=hy.nb
 have hl:=hy.nl
 have e0:=hI _ _ _ h0
 haveI:MemRows (some ⟨x1,0,none⟩) 1 [[.pointer (some ⟨d.bd,0,none⟩)]] R:=⟨e0.f1⟩
 haveI:MemRows (some ⟨x2,0,none⟩) 6 [Ze p] R:=⟨e0.f2⟩
 haveI:MemRows (some ⟨d.bd,0,none⟩) 8 [d.l] R:=⟨e0.fd⟩
 haveI:MemRows d.a1 1 (irows d.y.sizes) R:=⟨e0.r1⟩
 haveI:MemRows d.a2 3 (Z0B d.y.lots) R:=⟨e0.r2⟩
 refine Zc Tryz.func266 rfl Tryz.ntmps266 rfl ?_
 refine sqt 7 rfl (spL rfl rfl (lfB (sz:=1) Zgl rfl) rfl (sp rfl (PE.nilCheck rfl) rfl (sp rfl (PE.fA Z5f rfl) rfl (sp rfl (PE.fA Z7X rfl) rfl (spL rfl rfl (lfB (sz:=8) Z2w rfl) rfl (sp rfl (PE.lenSl ZO rfl) rfl (pur 1 rfl (Z2 ?_))))))))
 refine Zd (ι:={x:Nat×Z6×Z5 // x.1≤d.y.sizes.length∧I (d.y.mvN p x.1).length x.2.1 x.2.2}) (fun x=>⟨[(0,yv lp),(1,.pointer (some ⟨x1,0,none⟩)),(2,.pointer (some ⟨x2,0,none⟩)),(11,.int .i64 (d.y.sizes.length:Int)),(12,.int .i64 (x.1.1:Int))],x.1.2.1,x.1.2.2⟩) (fun x=>d.y.sizes.length-x.1.1) ⟨(0,H,R),Nat.zero_le _,h0⟩ ?_ (fun x=>?_)
 exact Zf idH
 obtain ⟨⟨k,H0,Q0⟩,hk,hI0⟩:=x
 dsimp only at hk hI0 ⊢
 have e0b:=hI _ _ _ hI0
 haveI:MemRows (some ⟨x1,0,none⟩) 1 [[.pointer (some ⟨d.bd,0,none⟩)]] Q0:=⟨e0b.f1⟩
 haveI:MemRows (some ⟨x2,0,none⟩) 6 [Ze p] Q0:=⟨e0b.f2⟩
 haveI:MemRows (some ⟨d.bd,0,none⟩) 8 [d.l] Q0:=⟨e0b.fd⟩
 haveI:MemRows d.a1 1 (irows d.y.sizes) Q0:=⟨e0b.r1⟩
 haveI:MemRows d.a2 3 (Z0B d.y.lots) Q0:=⟨e0b.r2⟩
 refine sqt 1 rfl (pur 1 rfl (Z0 ?_))
 refine Z1 rfl ?_ ?_<;>intro hc0<;>try simp only [cS] at hc0
 refine Z3 (Z0 (Z2 (sqt 2 rfl (pur 2 rfl (Z0 (sqt 4 rfl (spL rfl rfl (lfB (sz:=1) Zgl rfl) rfl (spL rfl rfl (Znj (sz:=6) (Ze p) Z0V (rest:=[]) (by simp) (by rw [ints_length];exact hp)) rfl (pur 1 rfl ?_)))))))))
 refine clV rfl Zp8 rfl rfl (Ziq d hy p hp (k:Int) _ _) ?_
 refine Z1 rfl ?_ ?_<;>intro hc1<;>try simp only [cS] at hc1
 refine Z7 (Z8 (Zi (sqr 2 rfl (sp rfl (PE.add rfl rfl (by omega)) rfl (pur 1 rfl ?_)))))
 exact Zb ⟨(k+1,H0,Q0),by dsimp only;omega,by dsimp only;rw [ZdJ hc1];exact hI0⟩ idH
 have htk:d.y.tkn p (k:Int)=false:=by simpa using hc1
 refine Z3 (sqt 7 rfl (spL rfl rfl (lfB (sz:=1) Zgl rfl) rfl (sp rfl (PE.nilCheck rfl) rfl (sp rfl (PE.fA Z5f rfl) rfl (sp rfl (PE.fA Z2j rfl) rfl (spL rfl rfl (lfB (sz:=8) Zeb rfl) rfl (sp rfl (PE.lenSl Z6W rfl) rfl (pur 1 rfl (Z2 ?_)))))))))
 refine Zd (ι:={x:Nat×Z6×Z5 // x.1≤d.y.lots.length∧I ((d.y.mvN p k).length+(Zhg d.y k x.1).length) x.2.1 x.2.2}) (fun x=>⟨[(0,yv lp),(1,.pointer (some ⟨x1,0,none⟩)),(2,.pointer (some ⟨x2,0,none⟩)),(11,.int .i64 (d.y.sizes.length:Int)),(4,.int .i64 (k:Int)),(12,.int .i64 (k:Int)),(24,.int .i64 (d.y.lots.length:Int)),(25,.int .i64 (x.1.1:Int))],x.1.2.1,x.1.2.2⟩) (fun x=>d.y.lots.length-x.1.1) ⟨(0,H0,Q0),Nat.zero_le _,hI0⟩ ?_ (fun x=>?_)
 exact Zf idH
 obtain ⟨⟨i,H1,Q1⟩,hi,hI1⟩:=x
 dsimp only at hi hI1 ⊢
 have e1:=hI _ _ _ hI1
 haveI:MemRows (some ⟨x1,0,none⟩) 1 [[.pointer (some ⟨d.bd,0,none⟩)]] Q1:=⟨e1.f1⟩
 haveI:MemRows (some ⟨x2,0,none⟩) 6 [Ze p] Q1:=⟨e1.f2⟩
 haveI:MemRows (some ⟨d.bd,0,none⟩) 8 [d.l] Q1:=⟨e1.fd⟩
 haveI:MemRows d.a1 1 (irows d.y.sizes) Q1:=⟨e1.r1⟩
 haveI:MemRows d.a2 3 (Z0B d.y.lots) Q1:=⟨e1.r2⟩
 refine sqt 1 rfl (pur 1 rfl (Z0 ?_))
 refine Z1 rfl ?_ ?_<;>intro hc2<;>try simp only [cS] at hc2
 refine Z3 (Z0 (Z2 (sqt 2 rfl (pur 2 rfl (sqt 15 rfl (spL rfl rfl (lfB (sz:=1) Zgl rfl) rfl (sp rfl (PE.nilCheck rfl) rfl (sp rfl (PE.fA Z5f rfl) rfl (spL rfl rfl (Znj (sz:=8) (brl d.y d.a1 d.a2 d.k1 d.k2) ZeM (rest:=Ze d.y.first) rfl rfl) rfl (pur 2 rfl ?_))))))))))
 refine clV rfl Ziw rfl rfl (Z8J d.y d.a1 d.a2 d.k1 d.k2 k i (by omega) (by omega) ⟨hb.2,hl⟩ _ _) ?_
 refine pur 1 rfl ?_
 refine Zq 35 rfl ?_ ?_<;>intro g35
 try simp only [cS] at g35
 have hft:d.y.fits k i=true:=g35
 refine pur 3 rfl ?_
 refine spG rfl rfl rfl rfl (PE.build (out:=[_,_]) Zrb Zoh rfl rfl) rfl ?_
 refine Zpf rfl rfl rfl rfl rfl rfl rfl (hyd _ _ _ _ (Znr (by omega) htk (by omega) hft) hI1) ?_
 rintro _ H3 R3 ⟨rfl,hI3⟩
 refine pur 2 rfl ?_
 refine Zt rfl ?_
 refine Z3 (sqr 2 rfl (sp rfl (PE.add rfl rfl (by omega)) rfl (pur 1 rfl ?_)))
 exact Zb ⟨(i+1,H3,R3),by dsimp only;omega,by dsimp only;rw [Z3m,hft,cond_true,List.length_append,List.length_singleton,← Nat.add_assoc];exact hI3⟩ idH
 try simp only [cS] at g35
 have hft:d.y.fits k i=false:=by simpa using g35
 refine pur 7 rfl ?_
 refine Zt rfl ?_
 refine Z3 (sqr 2 rfl (sp rfl (PE.add rfl rfl (by omega)) rfl (pur 1 rfl ?_)))
 exact Zb ⟨(i+1,H1,Q1),by dsimp only;omega,by dsimp only;rw [Z3m,hft,cond_false,List.append_nil];exact hI1⟩ idH
 obtain rfl:i=d.y.lots.length:=by omega
 refine Z7 (Z8 (Z8 (Zi (sqr 2 rfl (sp rfl (PE.add rfl rfl (by omega)) rfl (pur 1 rfl ?_))))))
 exact Zb ⟨(k+1,H1,Q1),by dsimp only;omega,by dsimp only;rw [Zas htk,List.length_append];exact hI1⟩ idH
 obtain rfl:k=d.y.sizes.length:=by omega
 refine Z7 (Z8 (Z8 (Zi ?_)))
 exact Z22 (vs:=[]) rfl .nil rfl hI0 idH
end Go.Proofs.YtcfdanhklbklkaaGreat.Tu
namespace Go.Proofs.YtcfdanhklbklkaaGreat
set_option linter.unusedSimpArgs false
set_option linter.unusedVariables false
open Go
section pe
variable {P:Program} {L:Zn} {d:Option Tmp} {ty:TypeId} {pos:String} {af:Array Edge} {g:Option (Nat×Bool)}
end pe
section pb
variable {P:Program} {L:Zn} {d:Option Tmp} {ty:TypeId} {pos:String} {af:Array Edge} {g:Option (Nat×Bool)}
end pb
theorem Z1n {P:Program} {H:Z6} {R:Z5} {T KT E s m:Nat} {b:Bool} (l:KV) (k:List Int) {zv v:Value} (hT:Z0O P T=some (KT,E)) (hK:KeyT P b KT s) (hz:∀ w,(zeroValue E).run P w = .ok zv w) (hk:k.length=s) (hl:∀ e∈l,e.1.length=s)
   [mm:Mem1 m (ZJ b l) H] (hv:(l.get k).getD zv=v):∀ w,St H R w→Lkp P T (.map (some m)) (mkv b k) false v w:=fun w hs=>by
 have:=Z19 (R:=R) (m:=m) l k hT hK hz hk hl false w hs
 rw [cond_false,hv] at this
 exact this
theorem Z0J {P:Program} {H:Z6} {R:Z5} {T KT E s m:Nat} {b:Bool} (l:KV) (k:List Int) {zv v:Value} (hT:Z0O P T=some (KT,E)) (hK:KeyT P b KT s) (hz:∀ w,(zeroValue E).run P w = .ok zv w) (hk:k.length=s) (hl:∀ e∈l,e.1.length=s)
   (hm:∀ w,St H R w→w.heap[m]?=some (ZJ b l)) (hv:(l.get k).getD zv=v):∀ w,St H R w→Lkp P T (.map (some m)) (mkv b k) false v w:=fun w hs=>by
 have:=Zdv l k hT hK hz hk hl hm false w hs
 rw [cond_false,hv] at this
 exact this
section ops
variable {P:Program} {r:Option Nat} {ops:Array Oper} {n:Nat} {L:Zn} {D:List Deferred} {H:Z6} {R:Z5} {K:Act→World→Prop}
 {i d:Nat} {ty:TypeId} {pos:String} {af:Array Edge}
end ops
end Go.Proofs.YtcfdanhklbklkaaGreat
namespace Go.Proofs.YtcfdanhklbklkaaGreat.Tu
set_option linter.unusedSimpArgs false
set_option linter.unusedVariables false
open Go
def Z2L (i:Nat) (l:KV):Obj:=.map (Z2I false i l).toArray (i+l.length)
theorem Zdz (l:KV):Z2L 0 l=ZJ false l:=by unfold Z2L ZJ;rw [Nat.zero_add]
theorem Z4g (q:IntKind) (k:List Int):∀ (l:KV) (b i:Nat),
   Instr.findNow (.int q) (mkv false k) (Z2I false b l) i=some ((l.findIdx? fun e=>decide (e.1.headD 0=k.headD 0)).map fun j=>(i+j,(l.getD j default).2))
 | [],b,i=>by simp [Z2I,Instr.findNow]
 | (k',v')::l,b,i=>by
   simp only [Z2I,Instr.findNow,Instr.sameNow,mkv,cond_false,if_true]
   rw [List.findIdx?_cons]
   dsimp only
   cases hb:(k.headD 0 == k'.headD 0) with
   | true =>
     have hc:k'.headD 0=k.headD 0:=((by simpa using hb:k.headD 0=k'.headD 0)).symm
     rw [hc];simp
   | false =>
     have hc:decide (k'.headD 0=k.headD 0)=false:=by
       rw [decide_eq_false_iff_not];intro h;rw [h] at hb;simp at hb
     have ih:=Z4g q k l (b+1) (i+1)
     simp only [mkv,cond_false] at ih
     rw [hc,ih]
     simp only [Bool.false_eq_true,if_false,Option.map_map]
     have e:(fun j:Nat=>(i+1+j,(l.getD j default).2))=(fun j:Nat=>(i+j,(((k',v')::l).getD j default).2)) ∘ fun i=>i+1:=by
       funext j;simp [Nat.add_assoc,Nat.add_comm 1 j]
     rw [e]
theorem Z2u {P:Program} {T s:Nat} (h:KeyT P false T s) (k:List Int) (hk:k.length=s) (l:KV) (hl:∀ e∈l,e.1.length=s) (b:Nat) (w:World) :
   (Instr.findKey T (mkv false k) (Z2I false b l)).run P w = .ok ((l.findIdx? fun e=>decide (e.1=k)).map fun j=>(j,(l.getD j default).2)) w:=by
 unfold Instr.findKey
 obtain ⟨rfl,q,hu⟩:=h.one rfl
 simp only [Sem.run_bind,run_underlying hu,Result.andThen,Z4g,Sem.run_pure,Nat.zero_add]
 have one:∀ e:List Int×Value,e.1.length=1→decide (e.1.headD 0=k.headD 0)=decide (e.1=k):=by
   intro e he
   obtain ⟨x,hx⟩:∃ x,e.1=[x]:=by match e.1,he with | [x],_=>exact ⟨x,rfl⟩
   obtain ⟨y,hy⟩:∃ y,k=[y]:=by match k,hk with | [y],_=>exact ⟨y,rfl⟩
   rw [hx,hy];simp
 have fc:∀ (l:KV),(∀ e∈l,e.1.length=1)→(l.findIdx? fun e=>decide (e.1.headD 0=k.headD 0))=l.findIdx? fun e=>decide (e.1=k):=by
   intro l hl
   induction l with
   | nil=>rfl
   | cons e l ih=>rw [List.findIdx?_cons,List.findIdx?_cons,ih (fun x hx=>hl x (by simp [hx])),one e (hl e (by simp))]
 rw [fc l hl]
theorem Z3b {P:Program} {m i:Nat} {l:KV} {w:World} (h:w.heap[m]?=some (Z2L i l)):(getObj m).run P w = .ok (Z2L i l) w:=by
 simp [getObj,Sem.run,h,Z2L]
theorem Z5t {P:Program} {m i:Nat} {l:KV} {o:Obj} {w:World} (h:w.heap[m]?=some (Z2L i l)):(setObj m o).run P w = .ok () { w with heap:=w.heap.setIfInBounds m o }:=by
 simp [setObj,Sem.run,h,Z2L]
theorem Z9e {P:Program} {T KT E s m i:Nat} {l:KV} {k:List Int} {v:Value} (hT:Z0O P T=some (KT,E)) (hK:KeyT P false KT s) (hk:k.length=s) (hl:∀ e∈l,e.1.length=s) {w:World} (h:w.heap[m]?=some (Z2L i l)) :
   (Instr.mapUpdate T (.map (some m)) (mkv false k) v).run P w = .ok () { w with heap:=w.heap.setIfInBounds m (Z2L i (l.put k v)) }:=by
 unfold Z0O at hT
 split at hT<;>cases hT
 rename_i hu
 have h1:=Z3b (P:=P) h
 have h2:=hK.ck false k hk w
 have h3:=Z2u hK k hk l hl i w
 have h4:∀ o,(setObj m o).run P w = .ok () { w with heap:=w.heap.setIfInBounds m o }:=fun o=>Z5t h
 unfold Instr.mapUpdate
 simp only [Sem.run_bind,run_underlying hu,Result.andThen,h1,Z2L,h2,h3]
 cases hf:l.findIdx? fun e=>decide (e.1=k) with
 | none =>
   simp only [Option.map_none,h4]
   rw [Z4G hf,Z59]
   simp [Nat.add_assoc]
 | some j =>
   obtain ⟨h5,h6⟩:=Z78 (v:=v) hf
   have hjk:(l[j]).1=k:=by
     have:=(List.findIdx?_eq_some_iff_getElem.1 hf).2.1
     simpa using this
   have h7:((((Z2I false i l).toArray[j]?).map (·.key)).getD (mkv false k))=mkv false k:=by
     have:=Z6G false l i j l[j] (List.getElem?_eq_getElem h6)
     simp [this,hjk]
   simp only [Option.map_some,Sem.run_bind,h7,Z8j,Result.andThen,h4]
   rw [h5,Z6H]
   simp
section mapops
variable {P:Program} {r:Option Nat} {ops:Array Oper} {n:Nat} {L:Zn} {D:List Deferred} {H:Z6} {R:Z5} {K:Act→World→Prop}
 {i d:Nat} {ty:TypeId} {pos:String} {af:Array Edge}
theorem Zqu {T KT E s m b:Nat} {x y z:Operand} (l:KV) (k:List Int) {v:Value} {H':Z6} (ho:ops[i]?=some ⟨none,.mapUpdate T x y z,ty,pos,af,none⟩)
   (hT:Z0O P T=some (KT,E)) (hK:KeyT P false KT s) (hx:ev L x=some (.map (some m))) (hy:ev L y=some (mkv false k)) (hz:ev L z=some v) (hk:k.length=s) (hl:∀ e∈l,e.1.length=s)
   [mm:Mem1 m (Z2L b l) H] [rp:Rep [(m,Z2L b l)] [(m,Z2L b (l.put k v))] H H']
   (h:Sy n L D H' R K):Sy n L D H R (stp P r ops i K):=fun a w ha hD hs=>by
 have h1:=Z9e (P:=P) (v:=v) hT hK hk hl (hs.held _ mm.mem)
 refine Z3A ho (Zk _ rfl _) (w':={ w with heap:=w.heap.setIfInBounds m (Z2L b (l.put k v)) }) ?_ ?_
 · simp only [execOp,ha.reads _ _ hx,ha.reads _ _ hy,ha.reads _ _ hz,Sem.run_bind,h1,Result.andThen,Sem.run_pure]
 · exact h _ _ (ha.putNone undef) hD (hs.rep (F:=[(m,Z2L b l)]) (F':=[(m,Z2L b (l.put k v))]) fun T hT=>St.set hT)
theorem Z3p {T KT E s m b:Nat} (l:KV) (k:List Int) {zv v:Value} (hT:Z0O P T=some (KT,E)) (hK:KeyT P false KT s) (hz:∀ w,(zeroValue E).run P w = .ok zv w) (hk:k.length=s) (hl:∀ e∈l,e.1.length=s)
   [mm:Mem1 m (Z2L b l) H] (hv:(l.get k).getD zv=v):∀ w,St H R w→Lkp P T (.map (some m)) (mkv false k) false v w:=fun w hs=>by
 subst hv
 unfold Z0O at hT
 split at hT<;>cases hT
 rename_i hu
 have h1:=Z3b (P:=P) (hs.held _ mm.mem)
 have h3:=Z2u hK k hk l hl b w
 unfold Lkp Instr.lookup
 simp only [Sem.run_bind,run_underlying hu,Result.andThen,h1,Z2L,hK.ck _ k hk,h3,Sem.run_pure]
 rw [← Z6R]
 cases hf:l.findIdx? fun e=>decide (e.1=k) with
 | none=>simp only [Option.map_none,Sem.run_bind,hz,Result.andThen,Sem.run_pure];rfl
 | some j=>simp only [Option.map_some,Sem.run_pure];rfl
theorem Zr2 {T KT E s m b:Nat} {x y:Operand} {tt:TypeId} {dd:Option Nat} (l:KV) (k:List Int) {v:Value} {H':Z6} (ho:ops[i]?=some ⟨dd,.call { callee:=.builtin .delete,args := #[x,y],argTypes := #[T,tt] },ty,pos,af,none⟩) (hdd:dd=none)
   (hT:Z0O P T=some (KT,E)) (hK:KeyT P false KT s) (hx:ev L x=some (.map (some m))) (hy:ev L y=some (mkv false k)) (hk:k.length=s) (hl:∀ e∈(k,v)::l,e.1.length=s)
   [mm:Mem1 m (Z2L b ((k,v)::l)) H] [rp:Rep [(m,Z2L b ((k,v)::l))] [(m,Z2L (b+1) l)] H H']
   (h:Sy n L D H' R K):Sy n L D H R (stp P r ops i K):=fun a w ha hD hs=>by
 subst hdd
 unfold Z0O at hT
 split at hT<;>cases hT
 rename_i hu
 have h1:=Z3b (P:=P) (hs.held _ mm.mem)
 have h3:=Z2u hK k hk ((k,v)::l) hl b w
 have h4:∀ o,(setObj m o).run P w = .ok () { w with heap:=w.heap.setIfInBounds m o }:=fun o=>Z5t (hs.held _ mm.mem)
 have hf:((k,v)::l).findIdx? (fun e=>decide (e.1=k))=some 0:=by rw [List.findIdx?_cons];simp
 have e1:Obj.map (((Z2I false b ((k,v)::l)).toArray).eraseIdxIfInBounds 0) (b+((k,v)::l).length)=Z2L (b+1) l:=by
   unfold Z2L
   congr 1
   · apply Array.ext'
     simp [Z2I]
   · rw [List.length_cons];omega
 have e2:(Builtin.delete_ #[T,tt] ty #[.map (some m),mkv false k]).run P w = .ok (.tuple #[]) { w with heap:=w.heap.setIfInBounds m (Z2L (b+1) l) }:=by
   unfold Builtin.delete_
   simp only [Sem.run_bind,run_underlying hu,Result.andThen,h1,Z2L,hK.ck _ k hk,h3,hf,Option.map_some,h4,Sem.run_pure,List.getElem?_toArray,List.getElem?_cons_zero,List.getElem?_cons_succ]
   rw [e1];rfl
 refine Zx ho (Zk _ rfl _) (v:=.tuple #[]) (w':={ w with heap:=w.heap.setIfInBounds m (Z2L (b+1) l) }) ?_ (h _ _ (ha.putNone _) hD (hs.rep (F:=[(m,Z2L b ((k,v)::l))]) (F':=[(m,Z2L (b+1) l)]) fun T hT=>St.set hT))
 simp only [execOp,resolve,invoke,builtin,Sem.run_bind,Sem.run_pure,Result.andThen,List.map_toArray,List.map_cons,List.map_nil,ha.reads _ _ hx,ha.reads _ _ hy]
 rw [show (Builtin.delete_ #[T,tt] ty #[.map (some m),mkv false k]).run P w=_ from e2]
end mapops
end Go.Proofs.YtcfdanhklbklkaaGreat.Tu
