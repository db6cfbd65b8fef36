/- Walks of the functions of the program, and the laws that join them: what the last theorem of this claim needs, in order. -/
import Derived.Test.YtcfdanhklbklkaaGreatTr7
namespace Go.Proofs.YtcfdanhklbklkaaGreat.Tu
set_option linter.unusedSimpArgs false
set_option linter.unusedVariables false
open Go
theorem Zct:cal Tryz.prog 85=true:=by kernel_rfl
theorem ZjF:cal Tryz.prog 88=true:=by kernel_rfl
theorem ZjG:cal Tryz.prog 89=true:=by kernel_rfl
theorem ZhB:cal Tryz.prog 90=true:=by kernel_rfl
theorem ZjO:ZF Tryz.prog 195=some 1:=by kernel_rfl
theorem Ziu:Z0h Tryz.prog 194=true:=by kernel_rfl
theorem Z5I:Z0h Tryz.prog 195=true:=by kernel_rfl
theorem Zkk:Zr Tryz.prog 195=some ([.nilFunc]):=by kernel_rfl
theorem Z4l (m:Nat):∀ n,m≤n→∃ r,List.range n=List.range m++r
 | 0,h=>⟨[],by rw [Nat.le_zero.1 h];rfl⟩
 | n+1,h=>by
   rcases Nat.lt_or_ge m (n+1) with h1 | h1
   · obtain ⟨r,e⟩:=Z4l m n (by omega)
     exact ⟨r++[n],by rw [List.range_succ,e,List.append_assoc]⟩
   · obtain rfl:m=n+1:=by omega
     exact ⟨[],by rw [List.append_nil]⟩
theorem Zav {α:Type} {B:Nat→List α} {n k j:Nat} (hk:k<n) (hj:j<(B k).length) (X:List α):((List.range n).flatMap B++X)[((List.range k).flatMap B).length+j]?=(B k)[j]?:=by
 obtain ⟨r,e⟩:=Z4l (k+1) n (by omega)
 rw [e,List.flatMap_append,List.range_succ,List.flatMap_append,List.append_assoc,List.append_assoc,List.getElem?_append_right (by omega),Nat.add_sub_cancel_left,List.flatMap_cons,List.flatMap_nil,List.append_nil,List.getElem?_append_left hj]
theorem Z6r {α:Type} (B:Nat→List α) (k:Nat):((List.range (k+1)).flatMap B).length=((List.range k).flatMap B).length+(B k).length:=by
 rw [List.range_succ,List.flatMap_append,List.length_append];simp
def blk (b:TBn) (p:List Int) (g f:Nat) (l:List (Int×Int)) (lot k:Nat):List (List (Int×Int)):=bif okT b p l lot k then Z38 b p g f (l++[((lot:Int),(k:Int))]) (lot+1) else []
theorem Zaw {α:Type} {B:Nat→List α} {n k:Nat} (hk:k<n):((List.range k).flatMap B).length+(B k).length≤((List.range n).flatMap B).length:=by
 obtain ⟨r,e⟩:=Z4l (k+1) n (by omega)
 rw [e,List.flatMap_append,List.length_append,Z6r];omega
theorem Zbn {b:TBn} {p:List Int} {g f lot:Nat} {l:List (Int×Int)} (h:l.length≠g):Z38 b p g (f+1) l lot=(List.range b.sizes.length).flatMap (blk b p g f l lot)++Z38 b p g f l (lot+1):=by
 conv=>lhs;unfold Z38
 rw [decide_eq_false h];rfl
theorem Z6M {b:TBn} {p:List Int} {g f lot:Nat} {l:List (Int×Int)} (h:f=0∨l.length=g):Z38 b p g f l lot=[l]:=by
 cases f with
 | zero=>rfl
 | succ f=>unfold Z38;rw [decide_eq_true (h.resolve_left (by omega))];rfl
set_option maxHeartbeats 800000 in
theorem Za6 (d:TD) (hy:d.y.ok) (p:List Int) (hp:p.length=6) (g:Nat) (hg:1≤g∧g≤3) (x2 x3 x4 x5 x6 lp:Nat) (I:Nat→Z8→Z5→Prop) (hI:∀ k H R,I k H R→RT d p g x2 x3 x5 R) (hyd:∀ k (l:List (Int×Int)) (a:Option Addr) (c:Nat) H R (G:Z5),(edR d.y g p)[k]?=some l→I k H R→RowsA a 2 (tor l)∈G→Yd Tryz.prog lp [.slice a l.length c] H (G++R) (fun v H' R'=>v = .bool true∧∃ R1,R'=G++R1∧I (k+1) H' R1)) (f lot:Nat) (hfl:f+lot=d.y.lots.length) (ih:∀ f',f=f'+1→∀ (l:List (Int×Int)) (al:Option Addr) (kl k0:Nat) (H:Z8) (R0 G:Z5),GL d.y p g (lot+1) l→(∀ j,j<(Z38 d.y p g f' l (lot+1)).length→(edR d.y g p)[k0+j]?=(Z38 d.y p g f' l (lot+1))[j]?)→I k0 H R0→RowsA (some ⟨x4,0,none⟩) 1 [[yv lp]]∈G→RowsA (some ⟨x6,0,none⟩) 1 [[.func (.func 85) #[] #[.pointer (some ⟨x2,0,none⟩),.pointer (some ⟨x3,0,none⟩),.pointer (some ⟨x4,0,none⟩),.pointer (some ⟨x5,0,none⟩),.pointer (some ⟨x6,0,none⟩)]]]∈G→RowsA al 2 (tor l)∈G→Fn Tryz.prog 85 [.slice al l.length kl,.int .i64 ((lot+1:Nat):Int),.pointer (some ⟨x2,0,none⟩),.pointer (some ⟨x3,0,none⟩),.pointer (some ⟨x4,0,none⟩),.pointer (some ⟨x5,0,none⟩),.pointer (some ⟨x6,0,none⟩)] H (G++R0) (fun v H' R'=>v = .bool true∧∃ R1,R'=G++R1∧I (k0+(Z38 d.y p g f' l ((lot+1:Nat))).length) H' R1)) (l:List (Int×Int)) (al:Option Addr) (kl k0:Nat) (H:Z8) (R0 G:Z5) (hgl:GL d.y p g lot l) (hix:∀ j,j<(Z38 d.y p g f l lot).length→(edR d.y g p)[k0+j]?=(Z38 d.y p g f l lot)[j]?) (h0:I k0 H R0) (hm4:RowsA (some ⟨x4,0,none⟩) 1 [[yv lp]]∈G) (hm6:RowsA (some ⟨x6,0,none⟩) 1 [[.func (.func 85) #[] #[.pointer (some ⟨x2,0,none⟩),.pointer (some ⟨x3,0,none⟩),.pointer (some ⟨x4,0,none⟩),.pointer (some ⟨x5,0,none⟩),.pointer (some ⟨x6,0,none⟩)]]]∈G) (hml:RowsA al 2 (tor l)∈G) :
    Fn Tryz.prog 85 [.slice al l.length kl,.int .i64 (lot:Int),.pointer (some ⟨x2,0,none⟩),.pointer (some ⟨x3,0,none⟩),.pointer (some ⟨x4,0,none⟩),.pointer (some ⟨x5,0,none⟩),.pointer (some ⟨x6,0,none⟩)] H (G++R0) (fun v H' R'=>v = .bool true∧∃ R1,R'=G++R1∧I (k0+(Z38 d.y p g f l (lot)).length) H' R1):=by
 have hb:=hy.nb
 have hl:=hy.nl
 have e0:=hI _ _ _ h0
 haveI:MemRows (some ⟨x2,0,none⟩) 1 [[.pointer (some ⟨d.bd,0,none⟩)]] (G++R0):=⟨List.mem_append_right _ e0.f2⟩
 haveI:MemRows (some ⟨x3,0,none⟩) 1 [[.int .i64 (g:Int)]] (G++R0):=⟨List.mem_append_right _ e0.f3⟩
 haveI:MemRows (some ⟨x5,0,none⟩) 6 [Za p] (G++R0):=⟨List.mem_append_right _ e0.f5⟩
 haveI:MemRows (some ⟨d.bd,0,none⟩) 8 [d.l] (G++R0):=⟨List.mem_append_right _ e0.fd⟩
 haveI:MemRows d.a1 1 (irows d.y.sizes) (G++R0):=⟨List.mem_append_right _ e0.r1⟩
 haveI:MemRows d.a2 3 (trows d.y.lots) (G++R0):=⟨List.mem_append_right _ e0.r2⟩
 haveI:MemRows (some ⟨x4,0,none⟩) 1 [[yv lp]] (G++R0):=⟨List.mem_append_left _ hm4⟩
 haveI:MemRows (some ⟨x6,0,none⟩) 1 [[.func (.func 85) #[] #[.pointer (some ⟨x2,0,none⟩),.pointer (some ⟨x3,0,none⟩),.pointer (some ⟨x4,0,none⟩),.pointer (some ⟨x5,0,none⟩),.pointer (some ⟨x6,0,none⟩)]]] (G++R0):=⟨List.mem_append_left _ hm6⟩
 haveI:MemRows al 2 (tor l) (G++R0):=⟨List.mem_append_left _ hml⟩
 refine Ze Tryz.func85 rfl Tryz.ntmps85 rfl ?_
 refine sqt 1 rfl (pur 1 rfl (Z0 (sqt 14 rfl (pur 1 rfl (spL rfl rfl (lfB (sz:=1) Z6P rfl) rfl (sp rfl (PE.nilCheck rfl) rfl (sp rfl (PE.fA Z1x rfl) rfl (sp rfl (PE.fA Z0i rfl) rfl (spL rfl rfl (lfB (sz:=8) Z6Q rfl) rfl (sp rfl (PE.lenSl Z2z rfl) rfl (pur 2 rfl ?_)))))))))))
 refine Zv 19 rfl ?_ ?_<;>intro g19
 try simp only [cS] at g19
 have hlast:f=0∨l.length=g:=.inl (by omega)
 have hr1:=Z6M (b:=d.y) (p:=p) (lot:=lot) hlast
 have hk0:(edR d.y g p)[k0]?=some l:=by have:=hix 0 (by rw [hr1];exact Nat.zero_lt_one);rw [hr1] at this;exact this
 refine pur 5 rfl ?_
 refine Zt rfl ?_
 refine sqt 4 rfl (spL rfl rfl (lfB (sz:=1) Ziu rfl) rfl (pur 1 rfl ?_))
 refine clY rfl rfl rfl rfl (hyd k0 l al kl H R0 G hk0 h0 hml) ?_
 rintro _ H3 R3 ⟨rfl,R1,rfl,hI3⟩
 refine pur 1 rfl (Z4 ?_)
 exact rtA rfl rfl rfl ⟨rfl,R1,rfl,by rw [hr1];exact hI3⟩ idH
 try simp only [cS] at g19
 have hnl:lot≠d.y.lots.length:=by omega
 refine pur 1 rfl ?_
 refine spG rfl rfl rfl rfl (PE.lenSl Z3s rfl) rfl ?_
 refine Z0E rfl rfl rfl rfl rfl (lfB (sz:=1) sc3 rfl) rfl (pur 2 rfl ?_)
 refine Z2 rfl ?_ ?_<;>intro hc0
 have hlast:f=0∨l.length=g:=.inr (by simp at hc0;omega)
 have hr1:=Z6M (b:=d.y) (p:=p) (lot:=lot) hlast
 have hk0:(edR d.y g p)[k0]?=some l:=by have:=hix 0 (by rw [hr1];exact Nat.zero_lt_one);rw [hr1] at this;exact this
 refine sqt 4 rfl (spL rfl rfl (lfB (sz:=1) Ziu rfl) rfl (pur 1 rfl ?_))
 refine clY rfl rfl rfl rfl (hyd k0 l al kl H R0 G hk0 h0 hml) ?_
 rintro _ H3 R3 ⟨rfl,R1,rfl,hI3⟩
 refine pur 1 rfl (Z4 ?_)
 exact rtA rfl rfl rfl ⟨rfl,R1,rfl,by rw [hr1];exact hI3⟩ idH
 have hng:l.length≠g:=by simp at hc0;omega
 obtain ⟨f',rfl⟩:∃ f',f=f'+1:=⟨f-1,by omega⟩
 have hrn:=Zbn (b:=d.y) (p:=p) (f:=f') (lot:=lot) hng
 rw [hrn] at hix ⊢
 have hlf:=hgl.few
 refine Z1 (Z0 (sqt 7 rfl (spL rfl rfl (lfB (sz:=1) Z6P rfl) rfl (sp rfl (PE.nilCheck rfl) rfl (sp rfl (PE.fA Z1x rfl) rfl (sp rfl (PE.fA Z0K rfl) rfl (spL rfl rfl (lfB (sz:=8) Z26 rfl) rfl (sp rfl (PE.lenSl ZD rfl) rfl (pur 1 rfl (Z3 ?_))))))))))
 refine Zd (ι:={x:Nat×Z8×Z5 // x.1≤d.y.sizes.length∧I (k0+((List.range x.1).flatMap (blk d.y p g f' l lot)).length) x.2.1 x.2.2}) (fun x=>⟨[(0,.slice al l.length kl),(1,.int .i64 (lot:Int)),(2,.pointer (some ⟨x2,0,none⟩)),(3,.pointer (some ⟨x3,0,none⟩)),(4,.pointer (some ⟨x4,0,none⟩)),(5,.pointer (some ⟨x5,0,none⟩)),(6,.pointer (some ⟨x6,0,none⟩)),(33,.int .i64 (d.y.sizes.length:Int)),(34,.int .i64 (x.1.1:Int))],x.1.2.1,G++x.1.2.2⟩) (fun x=>d.y.sizes.length-x.1.1) ⟨(0,H,R0),Nat.zero_le _,h0⟩ ?_ (fun x=>?_)
 exact Zj idH
 obtain ⟨⟨k,H1,Q1⟩,hk,hI1⟩:=x
 dsimp only at hk hI1 ⊢
 have e1:=hI _ _ _ hI1
 haveI:MemRows (some ⟨x2,0,none⟩) 1 [[.pointer (some ⟨d.bd,0,none⟩)]] (G++Q1):=⟨List.mem_append_right _ e1.f2⟩
 haveI:MemRows (some ⟨x3,0,none⟩) 1 [[.int .i64 (g:Int)]] (G++Q1):=⟨List.mem_append_right _ e1.f3⟩
 haveI:MemRows (some ⟨x5,0,none⟩) 6 [Za p] (G++Q1):=⟨List.mem_append_right _ e1.f5⟩
 haveI:MemRows (some ⟨d.bd,0,none⟩) 8 [d.l] (G++Q1):=⟨List.mem_append_right _ e1.fd⟩
 haveI:MemRows d.a1 1 (irows d.y.sizes) (G++Q1):=⟨List.mem_append_right _ e1.r1⟩
 haveI:MemRows d.a2 3 (trows d.y.lots) (G++Q1):=⟨List.mem_append_right _ e1.r2⟩
 haveI:MemRows (some ⟨x4,0,none⟩) 1 [[yv lp]] (G++Q1):=⟨List.mem_append_left _ hm4⟩
 haveI:MemRows (some ⟨x6,0,none⟩) 1 [[.func (.func 85) #[] #[.pointer (some ⟨x2,0,none⟩),.pointer (some ⟨x3,0,none⟩),.pointer (some ⟨x4,0,none⟩),.pointer (some ⟨x5,0,none⟩),.pointer (some ⟨x6,0,none⟩)]]] (G++Q1):=⟨List.mem_append_left _ hm6⟩
 haveI:MemRows al 2 (tor l) (G++Q1):=⟨List.mem_append_left _ hml⟩
 refine sqt 1 rfl (pur 1 rfl (Z0 ?_))
 refine Z2 rfl ?_ ?_<;>intro hc1<;>try simp only [cS] at hc1
 have hfn:=Z6r (blk d.y p g f' l lot) k
 refine Z1 (Z0 (Z3 (sqt 3 rfl (pur 1 rfl (alc rfl zl3 rfl (fun b10=>?_))))))
 refine sto rfl rfl rfl cn3 rfl rfl rfl rfl ?_
 refine Z0 (Z0 ?_)
 refine Zb [0,0,0,7,15,31,63,127,255,31,31,2047,4095,8191,16383,32767,32767,131071,262143] (.ld 0 (.ld 1 (.ld 2 (.big 3 (.tk 4 (.ld 5 (.tk 6 (.tk 7 (.ld 8 (.ld 9 (.tk 10 (.big 11 (tks 12 5 (.big 17 (.tk 18 .done))))))))))))))) Zo (by kernel_rfl) ?_
 refine Sy.heap (R':=RowsA (some ⟨b10,0,none⟩) 1 [[.int .i64 (k:Int)]]::(G++Q1)) (fun w h=>ZaJ (row:=[.int .i64 (k:Int)]) h rfl) ?_
 refine ld rfl rfl (lfB (sz:=1) Z6P rfl) rfl (ld rfl rfl (ZaS (sz:=6) (Za p) ZU (rest:=[]) (by simp) (by rw [Z6];exact hp)) rfl (ld rfl rfl (lfB (sz:=1) sc3 rfl) rfl ?_))
 refine clV rfl ZhA rfl rfl (Zaa d hy p hp (k:Int) _ _) ?_
 refine bgT (Zl 1 rfl ?_)
 refine Zv 41 rfl ?_ ?_<;>intro g41
 try simp only [cS] at g41
 have hok:okT d.y p l lot k=false:=by unfold okT;rw [show d.y.tkn p (k:Int)=true from g41];rfl
 refine ldN rfl rfl rfl rfl rfl rfl rfl rfl ?_
 refine Zl 2 rfl ?_
 repeat refine ldN rfl rfl rfl rfl rfl rfl rfl rfl ?_
 refine Zl 1 rfl ?_
 refine spN rfl rfl rfl rfl rfl rfl rfl rfl ?_
 refine bgT (Zl 5 rfl ?_)
 refine spN rfl rfl rfl rfl rfl rfl rfl rfl ?_
 refine bgT (Zl 1 rfl ?_)
 refine Zt rfl ?_
 refine Z7 (Z9 (Zk (sqr 2 rfl (sp rfl (PE.add rfl rfl (by omega)) rfl (pur 1 rfl ?_)))))
 exact Zc ⟨(k+1,H1,Q1),by dsimp only;omega,by dsimp only;rw [hfn,show blk d.y p g f' l lot k=[] by unfold blk;rw [hok];rfl];exact hI1⟩ (fun w h=>h.ftail)
 try simp only [cS] at g41
 have ht0:d.y.tkn p (k:Int)=false:=by simpa using g41
 refine ldG rfl rfl rfl rfl rfl (lfB (sz:=1) Z6P rfl) rfl ?_
 refine tkG rfl rfl rfl rfl (PE.nilCheck rfl) rfl ?_
 refine tkG rfl rfl rfl rfl (PE.fA Z1x rfl) rfl ?_
 refine ldG rfl rfl rfl rfl rfl (ZaS (sz:=8) (brl d.y d.a1 d.a2 d.k1 d.k2) Z65 (rest:=Za d.y.first) rfl rfl) rfl (ldG rfl rfl rfl rfl rfl (lfB (sz:=1) sc3 rfl) rfl (Zl 1 rfl ?_))
 refine Z6e rfl rfl rfl rfl Zcu rfl rfl (Z59 d.y d.a1 d.a2 d.k1 d.k2 k lot (by omega) (by omega) ⟨hb.2,hl⟩ _ _) ?_
 refine bgT (Zl 3 rfl ?_)
 refine Zv 51 rfl ?_ ?_<;>intro g51
 try simp only [cS] at g51
 have hok:okT d.y p l lot k=false:=by unfold okT;rw [ht0,show d.y.fits k lot=false from by simpa using g51];rfl
 refine Zl 2 rfl ?_
 refine spN rfl rfl rfl rfl rfl rfl rfl rfl ?_
 refine bgT (Zl 1 rfl ?_)
 refine Zt rfl ?_
 refine Z7 (Z9 (Zk (sqr 2 rfl (sp rfl (PE.add rfl rfl (by omega)) rfl (pur 1 rfl ?_)))))
 exact Zc ⟨(k+1,H1,Q1),by dsimp only;omega,by dsimp only;rw [hfn,show blk d.y p g f' l lot k=[] by unfold blk;rw [hok];rfl];exact hI1⟩ (fun w h=>h.ftail)
 try simp only [cS] at g51
 have hf0:d.y.fits k lot=true:=by simpa using g51
 refine Zl 1 rfl ?_
 refine tkG rfl rfl rfl rfl (PE.makeFunc rfl rfl) rfl ?_
 refine Z6e rfl rfl rfl rfl ZjF rfl rfl (Z9Z l al kl 89 [] [.pointer (some ⟨b10,0,none⟩)] (fun t=>decide (t.2=(k:Int))) ZjG (by omega) _ _ (hR:=(inferInstance:MemRows al 2 (tor l) _)) (fun t _=>Zgx t b10 k _ _)) ?_
 refine bgT (Zl 1 rfl ?_)
 refine Z2 rfl ?_ ?_<;>intro hc2<;>try simp only [cS] at hc2
 have hok:okT d.y p l lot k=false:=by unfold okT;rw [ht0,hf0,show (l.any fun t=>decide (t.2=(k:Int)))=true from hc2];rfl
 refine Z7 (Z9 (Zk (sqr 2 rfl (sp rfl (PE.add rfl rfl (by omega)) rfl (pur 1 rfl ?_)))))
 exact Zc ⟨(k+1,H1,Q1),by dsimp only;omega,by dsimp only;rw [hfn,show blk d.y p g f' l lot k=[] by unfold blk;rw [hok];rfl];exact hI1⟩ (fun w h=>h.ftail)
 have hok:okT d.y p l lot k=true:=by unfold okT;rw [ht0,hf0,show (l.any fun t=>decide (t.2=(k:Int)))=false from by simpa using hc2];rfl
 refine Z1 (Z0 ?_)
 refine Zb [0,0,2,0,0,24,56,126,0,256,1023,2047] (.ld 0 (.tk 1 (.tk 3 (.ld 4 (.tk 5 (.tk 8 (.tk 9 (.any (.alt 2 (.big 6 (.big 7 (.big 10 (.tk 11 .done)))) (.alt 6 (.big 2 (.big 7 (.big 10 (.tk 11 .done)))) .stop)))))))))) Zo (by kernel_rfl) ?_
 refine ld rfl rfl (lfB (sz:=1) Z5I rfl) rfl (Zl 2 rfl (ld rfl rfl (lfB (sz:=1) sc3 rfl) rfl (tk rfl (PE.build (out:=[_,_]) Zk5 ZbV rfl rfl) rfl (Zl 1 rfl (tk rfl (PE.add rfl rfl (by omega)) rfl ?_)))))
 refine Z1o ?_ ?_
 refine cl rfl ZhB rfl rfl (Z7W l al kl (by omega) _ _) ?_
 rintro _ _ _ ⟨o58,rfl,rfl,rfl⟩
 refine bg (fun w hs=>⟨(lfB (sz:=1) sc3 rfl) w hs,(lfB (sz:=1) Z5I rfl) w hs,trivial⟩) ?_
 refine bsl (out:=[_,_]) rfl Zg9 ZbV rfl rfl rfl rfl rfl rfl (fun b62=>?_)
 refine bg (fun w hs=>⟨trivial,(lfB (sz:=1) Z5I rfl) w hs,trivial⟩) ?_
 refine apO (o58) rfl Zgk rfl rfl (Z0B (row:=tvl ((lot:Int),(k:Int))) rfl) rfl rfl ((by rw [Z1h];simp only [List.length_cons,List.length_nil];omega)) rfl (fun o63=>?_)
 refine bg (fun w hs=>⟨(lfB (sz:=1) Z5I rfl) w hs,trivial⟩) ?_
 have hgl2:=hgl.snoc (by omega) (show k<d.y.sizes.length by omega) hok hng
 obtain ⟨o64,h1o,h2o⟩:∃ o':OSl 47 2 (tor (l++[((lot:Int),(k:Int))])),o'.fs=o63.fs∧o'.G=o63.G:=⟨o63.cast (by simp [tor,tvl]),rfl,rfl⟩
 rw [← h1o]
 obtain ⟨a63,c63,he,_,hfz⟩:=Z4j o64
 rw [Z1h] at he
 rw [he]
 refine Sy.heap (H':=H1) (R':=RowsA a63 2 (tor (l++[((lot:Int),(k:Int))]))::RowsA (some ⟨b10,0,none⟩) 1 [[.int .i64 (k:Int)]]::(G++Q1)) (fun w h=>hfz (by rw [h2o];exact h.del b62)) ?_
 have hbk:blk d.y p g f' l lot k=Z38 d.y p g f' (l++[((lot:Int),(k:Int))]) (lot+1):=by unfold blk;rw [hok];rfl
 clear hfz he h1o h2o
 refine clF rfl rfl (Zct) rfl rfl (ih f' rfl (l++[((lot:Int),(k:Int))]) a63 c63 (k0+((List.range k).flatMap (blk d.y p g f' l lot)).length) H1 Q1 (RowsA a63 2 (tor (l++[((lot:Int),(k:Int))]))::RowsA (some ⟨b10,0,none⟩) 1 [[.int .i64 (k:Int)]]::G) hgl2 (fun j hj=>by rw [← hbk] at hj ⊢;rw [Nat.add_assoc,hix _ (by rw [List.length_append];have:=Zaw (B:=blk d.y p g f' l lot) (show k<d.y.sizes.length by omega);omega)];exact Zav (by omega) hj _) hI1 (by simp [hm4]) (by simp [hm6]) (by simp)) ?_
 rintro _ H3 _ ⟨rfl,R3,rfl,hI3⟩
 refine bgT (Zl 1 rfl ?_)
 refine Z2 rfl ?_ ?_<;>intro hc3
 exact absurd hc3 (by simp)
 refine Z1 (sqr 2 rfl (sp rfl (PE.add rfl rfl (by omega)) rfl (pur 1 rfl ?_)))
 exact Zc ⟨(k+1,H3,R3),by dsimp only;omega,by dsimp only;rw [hfn,hbk,← Nat.add_assoc];exact hI3⟩ (fun w h=>h.ftail.ftail)
 refine Z1o ?_ ?_
 refine bsl (out:=[_,_]) rfl Zg9 ZbV rfl rfl rfl rfl rfl rfl (fun b62=>?_)
 refine bg (fun w hs=>⟨trivial,(lfB (sz:=1) Z5I rfl) w hs,trivial⟩) ?_
 refine cl rfl ZhB rfl rfl (Z7W l al kl (by omega) _ _) ?_
 rintro _ _ _ ⟨o58,rfl,rfl,rfl⟩
 refine bg (fun w hs=>⟨(lfB (sz:=1) Z5I rfl) w hs,trivial⟩) ?_
 refine apO (o58) rfl Zgk rfl rfl (Z0B (row:=tvl ((lot:Int),(k:Int))) rfl) rfl rfl ((by rw [Z1h];simp only [List.length_cons,List.length_nil];omega)) rfl (fun o63=>?_)
 refine bg (fun w hs=>⟨(lfB (sz:=1) Z5I rfl) w hs,trivial⟩) ?_
 have hgl2:=hgl.snoc (by omega) (show k<d.y.sizes.length by omega) hok hng
 obtain ⟨o64,h1o,h2o⟩:∃ o':OSl 47 2 (tor (l++[((lot:Int),(k:Int))])),o'.fs=o63.fs∧o'.G=o63.G:=⟨o63.cast (by simp [tor,tvl]),rfl,rfl⟩
 rw [← h1o]
 obtain ⟨a63,c63,he,_,hfz⟩:=Z4j o64
 rw [Z1h] at he
 rw [he]
 refine Sy.heap (H':=H1) (R':=RowsA a63 2 (tor (l++[((lot:Int),(k:Int))]))::RowsA (some ⟨b10,0,none⟩) 1 [[.int .i64 (k:Int)]]::(G++Q1)) (fun w h=>hfz (by rw [h2o];exact h.del b62)) ?_
 have hbk:blk d.y p g f' l lot k=Z38 d.y p g f' (l++[((lot:Int),(k:Int))]) (lot+1):=by unfold blk;rw [hok];rfl
 clear hfz he h1o h2o
 refine clF rfl rfl (Zct) rfl rfl (ih f' rfl (l++[((lot:Int),(k:Int))]) a63 c63 (k0+((List.range k).flatMap (blk d.y p g f' l lot)).length) H1 Q1 (RowsA a63 2 (tor (l++[((lot:Int),(k:Int))]))::RowsA (some ⟨b10,0,none⟩) 1 [[.int .i64 (k:Int)]]::G) hgl2 (fun j hj=>by rw [← hbk] at hj ⊢;rw [Nat.add_assoc,hix _ (by rw [List.length_append];have:=Zaw (B:=blk d.y p g f' l lot) (show k<d.y.sizes.length by omega);omega)];exact Zav (by omega) hj _) hI1 (by simp [hm4]) (by simp [hm6]) (by simp)) ?_
 rintro _ H3 _ ⟨rfl,R3,rfl,hI3⟩
 refine bgT (Zl 1 rfl ?_)
 refine Z2 rfl ?_ ?_<;>intro hc3
 exact absurd hc3 (by simp)
 refine Z1 (sqr 2 rfl (sp rfl (PE.add rfl rfl (by omega)) rfl (pur 1 rfl ?_)))
 exact Zc ⟨(k+1,H3,R3),by dsimp only;omega,by dsimp only;rw [hfn,hbk,← Nat.add_assoc];exact hI3⟩ (fun w h=>h.ftail.ftail)
 exact Z3f
 obtain rfl:k=d.y.sizes.length:=by omega
 refine Z7 (Z9 (Z9 (Zk (sqt 6 rfl (spL rfl rfl (lfB (sz:=1) Z5I rfl) rfl (pur 2 rfl (sp rfl (PE.add rfl rfl (by omega)) rfl ?_)))))))
 refine clF rfl rfl (Zct) rfl rfl (ih f' rfl l al kl (k0+((List.range d.y.sizes.length).flatMap (blk d.y p g f' l lot)).length) H1 Q1 G hgl.mono (fun j hj=>by rw [Nat.add_assoc,hix _ (by rw [List.length_append];omega),List.getElem?_append_right (by omega),Nat.add_sub_cancel_left]) hI1 hm4 hm6 hml) ?_
 rintro _ H3 _ ⟨rfl,R3,rfl,hI3⟩
 refine pur 1 rfl (Z4 ?_)
 exact rtA rfl rfl rfl ⟨rfl,R3,rfl,by rw [List.length_append,← Nat.add_assoc];exact hI3⟩ idH
theorem Zdp (d:TD) (hy:d.y.ok) (p:List Int) (hp:p.length=6) (g:Nat) (hg:1≤g∧g≤3) (x2 x3 x4 x5 x6 lp:Nat) (I:Nat→Z8→Z5→Prop) (hI:∀ k H R,I k H R→RT d p g x2 x3 x5 R) (hyd:∀ k (l:List (Int×Int)) (a:Option Addr) (c:Nat) H R (G:Z5),(edR d.y g p)[k]?=some l→I k H R→RowsA a 2 (tor l)∈G→Yd Tryz.prog lp [.slice a l.length c] H (G++R) (fun v H' R'=>v = .bool true∧∃ R1,R'=G++R1∧I (k+1) H' R1)):∀ (f lot:Nat),f+lot=d.y.lots.length→∀ (l:List (Int×Int)) (al:Option Addr) (kl k0:Nat) (H:Z8) (R0 G:Z5),GL d.y p g (lot) l→(∀ j,j<(Z38 d.y p g f l (lot)).length→(edR d.y g p)[k0+j]?=(Z38 d.y p g f l (lot))[j]?)→I k0 H R0→RowsA (some ⟨x4,0,none⟩) 1 [[yv lp]]∈G→RowsA (some ⟨x6,0,none⟩) 1 [[.func (.func 85) #[] #[.pointer (some ⟨x2,0,none⟩),.pointer (some ⟨x3,0,none⟩),.pointer (some ⟨x4,0,none⟩),.pointer (some ⟨x5,0,none⟩),.pointer (some ⟨x6,0,none⟩)]]]∈G→RowsA al 2 (tor l)∈G→Fn Tryz.prog 85 [.slice al l.length kl,.int .i64 (lot:Int),.pointer (some ⟨x2,0,none⟩),.pointer (some ⟨x3,0,none⟩),.pointer (some ⟨x4,0,none⟩),.pointer (some ⟨x5,0,none⟩),.pointer (some ⟨x6,0,none⟩)] H (G++R0) (fun v H' R'=>v = .bool true∧∃ R1,R'=G++R1∧I (k0+(Z38 d.y p g f l (lot)).length) H' R1)
 | 0,lot,hfl,l,al,kl,k0,H,R0,G,h1,h2,h3,h4,h5,h6=>Za6 d hy p hp g hg x2 x3 x4 x5 x6 lp I hI hyd 0 lot hfl (fun f' e=>by cases e) l al kl k0 H R0 G h1 h2 h3 h4 h5 h6
 | f + 1, lot, hfl, l, al, kl, k0, H, R0, G, h1, h2, h3, h4, h5, h6 => Za6 d hy p hp g hg x2 x3 x4 x5 x6 lp I hI hyd (f + 1) lot hfl (fun f' e => by
     obtain rfl:f=f':=by omega
     exact Zdp d hy p hp g hg x2 x3 x4 x5 x6 lp I hI hyd f (lot+1) (by omega)) l al kl k0 H R0 G h1 h2 h3 h4 h5 h6
set_option maxHeartbeats 400000 in
theorem Za8 (d:TD) (hy:d.y.ok) (p:List Int) (hp:p.length=6) (g:Nat) (hg:1≤g∧g≤3) (x2 x3 x5 lp:Nat) (I:Nat→Z8→Z5→Prop) (hI:∀ k H R,I k H R→RT d p g x2 x3 x5 R) (hyd:∀ k (l:List (Int×Int)) (a:Option Addr) (c:Nat) H R (G:Z5),(edR d.y g p)[k]?=some l→I k H R→RowsA a 2 (tor l)∈G→Yd Tryz.prog lp [.slice a l.length c] H (G++R) (fun v H' R'=>v = .bool true∧∃ R1,R'=G++R1∧I (k+1) H' R1)) (H:Z8) (R:Z5) (h0:I 0 H R) :
    Fn Tryz.prog 84 [yv lp,.pointer (some ⟨x2,0,none⟩),.pointer (some ⟨x3,0,none⟩),.pointer (some ⟨x5,0,none⟩)] H R (fun _ H' R'=>I (edR d.y g p).length H' R'):=by
 refine Ze Tryz.func84 rfl Tryz.ntmps84 rfl ?_
 refine sqt 1 rfl (bx rfl rfl rfl (fun b4=>sqt 1 rfl (alc rfl Zkk rfl (fun b5=>sqt 2 rfl (sp rfl (PE.makeFunc rfl rfl) rfl ?_)))))
 refine sto rfl rfl rfl ZjO rfl rfl rfl rfl ?_
 refine sqr 2 rfl ?_
 refine Sy.heap (H':=H) (R':=RowsA none 2 (tor [])::RowsA (some ⟨b4,0,none⟩) 1 [[yv lp]]::RowsA (some ⟨b5,0,none⟩) 1 [[.func (.func 85) #[] #[.pointer (some ⟨x2,0,none⟩),.pointer (some ⟨x3,0,none⟩),.pointer (some ⟨b4,0,none⟩),.pointer (some ⟨x5,0,none⟩),.pointer (some ⟨b5,0,none⟩)]]]::R) (fun w h=>((ZaJ (row:=[yv lp]) ((ZaJ (row:=[.func (.func 85) #[] #[.pointer (some ⟨x2,0,none⟩),.pointer (some ⟨x3,0,none⟩),.pointer (some ⟨b4,0,none⟩),.pointer (some ⟨x5,0,none⟩),.pointer (some ⟨b5,0,none⟩)]]) (h.pull b5) rfl).pull b4) rfl).also (f:=RowsA none 2 (tor [])) (fun w9 _ i row hi=>by cases hi))) ?_
 refine spL rfl rfl (lfB (sz:=1) Z5I rfl) rfl ?_
 refine clF rfl rfl (Zct) rfl rfl (Zdp d hy p hp g hg x2 x3 b4 x5 b5 lp I hI hyd d.y.lots.length 0 (Nat.add_zero _) [] none 0 0 H R (RowsA none 2 (tor [])::RowsA (some ⟨b4,0,none⟩) 1 [[yv lp]]::RowsA (some ⟨b5,0,none⟩) 1 [[.func (.func 85) #[] #[.pointer (some ⟨x2,0,none⟩),.pointer (some ⟨x3,0,none⟩),.pointer (some ⟨b4,0,none⟩),.pointer (some ⟨x5,0,none⟩),.pointer (some ⟨b5,0,none⟩)]]]::[]) (GL.nil d.y p g) (fun j _=>by rw [Nat.zero_add];rfl) h0 (by simp) (by simp) (by simp)) ?_
 rintro _ H3 _ ⟨rfl,R3,rfl,hI3⟩
 rw [Nat.zero_add] at hI3
 exact Z1L (vs:=[]) rfl .nil rfl hI3 (fun w h=>h.ftail.ftail.ftail)
theorem Zcm (d:TD) (p:List Int) (hp:p.length=6) (g:Nat) (H:Z8) (R:Z5) :
    Fn Tryz.prog 38 [.pointer (some ⟨d.bd,0,none⟩),.agg (Za p).toArray,.int .i64 (g:Int)] H R (fun v H' R'=>∃ x2 x3 x5,v = .func (.func 84) #[] #[.pointer (some ⟨x2,0,none⟩),.pointer (some ⟨x3,0,none⟩),.pointer (some ⟨x5,0,none⟩)]∧H'=H∧R'=RowsA (some ⟨x5,0,none⟩) 6 [Za p]::RowsA (some ⟨x3,0,none⟩) 1 [[.int .i64 (g:Int)]]::RowsA (some ⟨x2,0,none⟩) 1 [[.pointer (some ⟨d.bd,0,none⟩)]]::R):=by
 refine Ze Tryz.func38 rfl Tryz.ntmps38 rfl ?_
 refine sqt 4 rfl (bx rfl rfl rfl (fun b3=>bx rfl rfl rfl (fun b4=>bx rfl rfl rfl (fun b5=>pur 1 rfl (sqt 2 rfl (sp rfl (PE.makeFunc rfl rfl) rfl (pur 1 rfl (Z4 ?_))))))))
 refine Sy.heap (fun w h=>ZaJ (sz:=6) (row:=Za p) ((ZaJ (sz:=1) (row:=[.int .i64 (g:Int)]) ((ZaJ (sz:=1) (row:=[.pointer (some ⟨d.bd,0,none⟩)]) (h.pull b3) rfl).pull b5) rfl).pull b4) (by rw [Z6];exact hp)) ?_
 exact rtA rfl rfl rfl ⟨b3,b5,b4,rfl,rfl,rfl⟩ idH
theorem ZdQ {b:TBn} {g:Nat} {p:List Int} {l:List (Int×Int)} (h:l∈edR b g p):∀ t∈l,(0≤t.1∧t.1<b.lots.length)∧0≤t.2∧t.2<(b.sizes.length:Int):=fun t ht=>by
 obtain ⟨q,hg⟩:=Z8c h
 obtain ⟨i,k,rfl,_,h1,h2,_⟩:=hg.lt t ht
 exact ⟨⟨Int.natCast_nonneg _,by dsimp only;omega⟩,Int.natCast_nonneg _,by dsimp only;omega⟩
theorem edR_few {b:TBn} {g:Nat} {p:List Int} {l:List (Int×Int)} (h:l∈edR b g p):l.length≤g:=(Z8c h).elim fun _ hg=>hg.few
structure QO (b:TBn) (g:Nat) (ws pend:List Rec):Prop where
 bi:BI (edR b g) b.mds b.first ws pend
 ins:∀ r∈ws,b.inS r.q
 ct:pend.length≤ws.length
structure QR (b:TBn) (g m1:Nat) (ws pend:List Rec) (r:Rec) (k:Nat):Prop where
 bj:BJ (edR b g) b.mds b.first ws pend r ((edR b g r.q).take k)
 ins:∀ r∈ws,b.inS r.q
 ct:pend.length≤ws.length
 ms:2*(117649-ws.length)+pend.length≤m1
theorem QO.start {b:TBn} (hb:b.ok) (g:Nat):QO b g [rst b.first] [rst b.first]:=⟨BI.start _,fun r hr=>by rw [List.mem_singleton.1 hr];exact Z6q hb,Nat.le_refl _⟩
theorem QO.few {b:TBn} (hb:b.ok) {g:Nat} {ws pend:List Rec} (h:QO b g ws pend):ws.length≤117649:=Z0y hb h.bi.nd h.ins
theorem QR.few {b:TBn} (hb:b.ok) {g m1:Nat} {ws pend:List Rec} {r:Rec} {k:Nat} (h:QR b g m1 ws pend r k):ws.length≤117649:=Z0y hb h.bj.nd h.ins
theorem QO.pop {b:TBn} {g:Nat} {ws pend:List Rec} {r:Rec} (h:QO b g ws (r::pend)) (hm:b.mds r.q=false):QR b g (2*(117649-ws.length)+pend.length) ws pend r 0:=⟨h.bi.pop hm,h.ins,by have:=h.ct;rw [List.length_cons] at this;omega,Nat.le_refl _⟩
theorem ZdP {b:TBn} {g:Nat} {q:List Int} {k:Nat} {l:List (Int×Int)} (h:(edR b g q)[k]?=some l):(edR b g q).take (k+1)=(edR b g q).take k++[l]:=by rw [List.take_add_one,h];rfl
theorem QR.skip {b:TBn} {g m1 k:Nat} {ws pend:List Rec} {r:Rec} (h:QR b g m1 ws pend r k) {l:List (Int×Int)} (hl:(edR b g r.q)[k]?=some l) {s:Rec} (hs:s∈ws) (e:s.q=app r.q l):QR b g m1 ws pend r (k+1):=⟨by rw [ZdP hl];exact h.bj.skip hs e,h.ins,h.ct,h.ms⟩
theorem QR.more {b:TBn} (hb:b.ok) {g m1 k:Nat} {ws pend:List Rec} {r:Rec} (h:QR b g m1 ws pend r k) {l:List (Int×Int)} (hl:(edR b g r.q)[k]?=some l) (hn:∀ s∈ws,s.q≠app r.q l) (a:Option Addr) (c:Nat) :
   QR b g m1 (ws++[⟨app r.q l,r.q,l,r.d+1,a,c⟩]) (pend++[⟨app r.q l,r.q,l,r.d+1,a,c⟩]) r (k+1)∧ws.length+1≤117649:=by
 have hm:=List.mem_of_getElem? hl
 have hj:=h.bj.more hm hn a c
 have hin:∀ x∈ws++[(⟨app r.q l,r.q,l,r.d+1,a,c⟩:Rec)],b.inS x.q:=fun x hx=>by
   rcases List.mem_append.1 hx with h1 | h1
   · exact h.ins x h1
   · rw [List.mem_singleton.1 h1]
     exact Z74 (h.ins r h.bj.r0) (fun t ht=>(ZdQ hm t ht).2)
 have hf:=Z0y hb hj.nd hin
 rw [List.length_append,List.length_singleton] at hf
 have h1:=h.ct
 have h2:=h.ms
 exact ⟨⟨by rw [ZdP hl];exact hj,hin,by simp only [List.length_append,List.length_singleton];omega,by simp only [List.length_append,List.length_singleton];omega⟩,hf⟩
theorem QR.done {b:TBn} {g m1:Nat} {ws pend:List Rec} {r:Rec} (h:QR b g m1 ws pend r (edR b g r.q).length):QO b g ws pend:=⟨BJ.done (by have:=h.bj;rwa [List.take_of_length_le (Nat.le_refl _)] at this),h.ins,h.ct⟩
theorem Z79 (y:TBn) (a1 a2:Option Addr) (k1 k2:Nat) (hy:y.ok) (hc2:y.lots.length≤k2) (g:Nat) (hg:1≤g∧g≤3) (H:Z8) (R:Z5) [hR1:MemRows a1 1 (irows y.sizes) R] [hR2:MemRows a2 3 (trows y.lots) R] :
    Fn Tryz.prog 36 [(y.v a1 a2 k1 k2),.int .i64 (g:Int)] H R (fun v H' R'=>∃ d:TD,v = .tuple #[.pointer (some ⟨d.bd,0,none⟩),.int .i64 0]∧d.y=y∧d.a1=a1∧d.a2=a2∧d.k1=k1∧d.k2=k2∧H'=H∧R'=RowsA (some ⟨d.bd,0,none⟩) 8 [d.l]::R):=by
 refine Ze Tryz.func36 rfl Tryz.ntmps36 rfl ?_
 refine sqt 3 rfl (bx rfl rfl rfl (fun b2=>pur 2 rfl (sqt 7 rfl (spL rfl rfl (lhA (brl y a1 a2 k1 k2) Z65 rfl (rest:=[]) rfl rfl) rfl ?_))))
 refine cl rfl Zhz rfl rfl (Z2r y a1 a2 k1 k2 hy hc2 _ _) ?_
 rintro _ _ _ ⟨d,rfl,hdy,hd1,hd2,hd3,hd4,rfl,rfl⟩
 refine pur 5 rfl (Z0 (sqt 7 rfl (pur 3 rfl ?_)))
 refine Zv 15 rfl ?_ ?_<;>intro g15
 refine pur 1 rfl ?_
 refine Z6e rfl rfl rfl rfl Zad rfl rfl (Za5 _ _ _ (by omega) _ _) ?_
 refine pur 2 rfl ?_
 refine Z2 rfl ?_ ?_<;>intro hc0
 exact absurd hc0 (by simp)
 refine Z1 (sqt 4 rfl (pur 4 rfl (Z4 ?_)))
 exact rtB rfl rfl rfl rfl ⟨d,rfl,hdy,hd1,hd2,hd3,hd4,rfl,rfl⟩ (fun w h=>h.del b2)
 exact absurd g15 (by simp)
theorem Zjt:cal Tryz.prog 36=true:=by kernel_rfl
theorem Zju:cal Tryz.prog 38=true:=by kernel_rfl
theorem ZjE:cal Tryz.prog 84=true:=by kernel_rfl
theorem ZeV:ZF Tryz.prog 127=some 1:=by kernel_rfl
theorem Zdb:Z0h Tryz.prog 127=true:=by kernel_rfl
theorem Zki:Zr Tryz.prog 127=some ([.slice none 0 0]):=by kernel_rfl
structure OQ (e sz:Nat) (rows:List (List Value)) where
 b:Nat
 off:Nat
 cap:Nat
 pre:List Value
 junk:List Value
 len:∀ r∈rows,r.length=sz
 pl:pre.length=off
 room:cap*sz≤rows.length*sz+junk.length
 le:rows.length≤cap
 mx:cap≤9223372036854775807
def OQ.fs {e sz:Nat} {rows:List (List Value)} (q:OQ e sz rows):Value:=.slice (some ⟨q.b,q.off,none⟩) rows.length q.cap
def OQ.G {e sz:Nat} {rows:List (List Value)} (q:OQ e sz rows):Z8:=[(q.b,cel e (q.pre++(rows.flatten++q.junk)))]
theorem Z7G {a r j v:List Value} {o:Nat} (e:o=a.length+r.length) (h:v.length≤j.length):spl (a++(r++j)) o v=a++((r++v)++j.drop v.length):=by
 subst e
 unfold spl
 rw [← List.append_assoc a r j,show a.length+r.length=(a++r).length by simp,List.take_left,List.drop_append,List.drop_of_length_le (by omega),List.nil_append]
 simp [List.append_assoc]
theorem Z4n {P:Program} {t ty e sz by_:Nat} (ht:apT P t=some (e,sz,by_)) {rows news:List (List Value)} (q:OQ e sz rows) {T:Z8} {R:Z5} {w:World} (hs:St (q.G++T) R w)
   {ax:Option Addr} {c:Nat} (hr:RowsA ax sz news w) (h0:news≠[]) (h1:Z05 news=true) (hby:(rows.length+news.length)*by_≤140737488355328) (h63:rows.length+news.length≤9223372036854775807) :
   ∃ (q':OQ e sz (rows++news)) (w':World),(Builtin.append_ #[t,t] ty #[q.fs,.slice ax news.length c]).run P w = .ok q'.fs w'∧St (q'.G++T) R w':=by
 unfold apT at ht
 split at ht
 case h_2=>cases ht
 rename_i e' hu
 split at ht
 case h_2=>cases ht
 rename_i i hi
 split at ht
 case h_2=>cases ht
 rename_i z hz
 cases hzs:Nat.beq z.cells.size i.size with
 | false=>rw [hzs] at ht;cases ht
 | true =>
 rw [hzs,cond_true] at ht
 cases ht
 have hzs:=Nat.eq_of_beq_eq_true hzs
 have hnl:=Z5D hr
 obtain ⟨b,off,cap,pre,junk,hl,hpl,hroom0,hle,hmx⟩:=q
 have hlen':∀ r∈rows++news,r.length=i.size:=fun r h=>by rcases List.mem_append.1 h with h | h;exact hl r h;exact hnl r h
 have hnf:=Z0q hnl
 have hrf:=Z0q hl
 obtain ⟨bx,offx,rfl⟩:=Z2K hr h0
 have hcell:∀ j v,news.flatten[j]?=some v→w.cell? ((⟨bx,offx,none⟩:Addr).add j)=some v:=fun j v h=>by rw [ZB];exact Z2L hr j v h
 have hn0:0<news.length:=List.length_pos_iff.2 h0
 have hb:=hs.held (b,cel e (pre++(rows.flatten++junk))) (by simp [OQ.G])
 by_cases hroom:rows.length+news.length≤cap
 · have hm2:(rows.length+news.length)*i.size≤cap*i.size:=Nat.mul_le_mul_right _ hroom
   rw [Nat.add_mul] at hm2
   have hjl:news.flatten.length≤junk.length:=by omega
   have hst:=Z3a (P:=P) (e:=e) (od:=off+rows.length*i.size) (vs:=news.flatten) (List.all_eq_true.2 (Z5A h1)) (by simp only [List.length_append,hrf,hpl];omega) hb
   have hfc:=run_firstCells_some (P:=P) w i.size news.length ⟨bx,offx,none⟩ news.length c news.flatten hnf hcell
   have hsp:spl (pre++(rows.flatten++junk)) (off+rows.length*i.size) news.flatten=pre++((rows++news).flatten++junk.drop news.flatten.length):=by
     rw [Z7G (by rw [hpl,hrf]) hjl,List.flatten_append]
   rw [hsp] at hst
   refine ⟨⟨b,off,cap,pre,junk.drop news.flatten.length,hlen',hpl,by rw [List.length_append,List.length_drop,Nat.add_mul];omega,by rw [List.length_append];exact hroom,hmx⟩,{ w with heap:=w.heap.setIfInBounds b (cel e (pre++((rows++news).flatten++junk.drop news.flatten.length))) },?_,St.set hs⟩
   have e0:(⟨b,off,none⟩:Addr).add (rows.length*i.size)=⟨b,off+rows.length*i.size,none⟩:=by rw [ZB]
   simp [OQ.fs,Builtin.append_,run_underlying hu,sizeOf,typeInfo,hi,Builtin.lenOf,hroom,hfc,e0,hst]
 · have holds:∀ j v,rows.flatten[j]?=some v→w.cell? ((⟨b,off,none⟩:Addr).add j)=some v:=fun j v h=>by
     have hlt:j<rows.flatten.length:=(List.getElem?_eq_some_iff.1 h).1
     rw [ZB,Z0H hb]
     simp only [List.getElem?_toArray]
     rw [List.getElem?_append_right (by omega),show off+j-pre.length=j by omega,List.getElem?_append_left hlt];exact h
   have h2:=run_append_grow (P:=P) w t ty e i z hu hi hz ⟨b,off,none⟩ rows.length cap rows.flatten hrf holds ⟨bx,offx,none⟩ news.length c news.flatten hnf hcell (by omega) (by omega) (growslice_fits (by omega) hby)
   have hge:=grownCap_ge w (rows.length+news.length) cap e
   have hcm:grownCap w (rows.length+news.length) cap e≤maxLen:=grownCap_le_maxLen w _ cap e (by simp only [maxLen];omega)
   refine ⟨⟨w.heap.size,0,grownCap w (rows.length+news.length) cap e,[],(Builtin.zeroCells z.cells (grownCap w (rows.length+news.length) cap e-(rows.length+news.length))).toList,hlen',rfl,?_,by rw [List.length_append];exact hge,by simp only [maxLen] at hcm;omega⟩,w.drew.alloc (.cells (rows.flatten.toArray++news.flatten.toArray++Builtin.zeroCells z.cells (grownCap w (rows.length+news.length) cap e-(rows.length+news.length))) e),?_,?_⟩
   · simp only [Array.length_toList,size_zeroCells,hzs,List.length_append,← Nat.add_mul]
     exact Nat.mul_le_mul_right _ (by omega)
   · exact h2.trans (by simp only [OQ.fs,List.length_append])
   · have h3:=(St.tail hs).drew.alloc (.cells (rows.flatten.toArray++news.flatten.toArray++Builtin.zeroCells z.cells (grownCap w (rows.length+news.length) cap e-(rows.length+news.length))) e)
     rw [show w.drew.heap.size=w.heap.size from rfl] at h3
     have e1:(cel e ([]++((rows++news).flatten++(Builtin.zeroCells z.cells (grownCap w (rows.length+news.length) cap e-(rows.length+news.length))).toList))) = .cells (rows.flatten.toArray++news.flatten.toArray++Builtin.zeroCells z.cells (grownCap w (rows.length+news.length) cap e-(rows.length+news.length))) e:=by
       unfold cel;congr 1;apply Array.toList_inj.1;simp
     show St ((_,_)::T) R _
     rw [e1];exact h3
section
variable {P:Program} {r:Option Nat} {ops:Array Oper} {n:Nat} {L:Zm} {D:List Deferred} {H:Z8} {R:Z5} {K:Act→World→Prop}
 {i d:Nat} {ty:TypeId} {pos:String} {af:Array Edge}
theorem apQ {t e sz by_ c k:Nat} {s x:Operand} {rows news:List (List Value)} (q:OQ e sz rows) {ax:Option Addr} {C:Z8→Z8}
   (ho:ops[i]?=some ⟨some d,.call { callee:=.builtin .append,args := #[s,x],argTypes := #[t,t] },ty,pos,af,none⟩) (ht:apT P t=some (e,sz,by_))
   (hs:ev L s=some q.fs) (hx:ev L x=some (.slice ax k c)) (hr:∀ w,St H R w→RowsA ax sz news w) (hk:news.length=k) (h0:news≠[]) (h1:Z05 news=true)
   (hb:(rows.length+news.length)*by_≤140737488355328∧rows.length+news.length≤9223372036854775807) (hd:Nat.blt d n=true)
   [rp:RepF q.G H C]
   (h:∀ q':OQ e sz (rows++news),Sy n ((d,q'.fs)::L) D (C q'.G) R K):Sy n L D H R (stp P r ops i K):=fun a w ha hD hs0=>by
 subst hk
 obtain ⟨T,p1,p2⟩:=rp.rep
 obtain ⟨q',w',h2,h3⟩:=Z4n ht q (hs0.perm p1) (hr w hs0) h0 h1 hb.1 hb.2
 refine Zp ho (Zh _ rfl _) (v:=q'.fs) (w':=w') ?_ (h q' _ _ (ha.put (by simpa using hd) _) hD (h3.perm (p2 _)))
 simp only [execOp,resolve,invoke,builtin,Sem.run_bind,Sem.run_pure,Result.andThen,List.map_toArray,List.map_cons,List.map_nil,ha.reads _ _ hs,ha.reads _ _ hx]
 rw [show (Builtin.append_ #[t,t] ty #[q.fs,.slice ax news.length c]).run P w=_ from h2]
end
def OQ.cast {e sz:Nat} {rows rows':List (List Value)} (q:OQ e sz rows) (h:rows=rows'):OQ e sz rows':=h▸q
@[simp] theorem OQ.cast_fs {e sz : Nat} {rows rows' : List (List Value)} (q : OQ e sz rows) (h : rows = rows') : (q.cast h).fs = q.fs := by subst h; rfl
@[simp] theorem OQ.cast_G {e sz : Nat} {rows rows' : List (List Value)} (q : OQ e sz rows) (h : rows = rows') : (q.cast h).G = q.G := by subst h; rfl
theorem OQ.pop {e sz:Nat} {row:List Value} {rows:List (List Value)} (q:OQ e sz (row::rows)):∃ q':OQ e sz rows,q'.fs = .slice (if q.cap=1 then some ⟨q.b,q.off,none⟩ else some ⟨q.b,q.off+1*sz,none⟩) rows.length (q.cap-1)∧q'.G=q.G:=by
 obtain ⟨b,off,cap,pre,junk,hl,hpl,hroom,hle,hmx⟩:=q
 have hrl:=hl row (by simp)
 rw [List.length_cons] at hroom hle
 rw [Nat.add_mul] at hroom
 by_cases h1:cap=1
 · have hr0:rows=[]:=List.length_eq_zero_iff.1 (by omega)
   subst hr0
   refine ⟨⟨b,off,cap-1,pre,row++junk,by simp,hpl,by rw [h1];simp,by simp,by omega⟩,?_,?_⟩
   · unfold OQ.fs;dsimp only;rw [if_pos h1]
   · unfold OQ.G;simp
 · refine ⟨⟨b,off+1*sz,cap-1,pre++row,junk,fun r hr=>hl r (by simp [hr]),by rw [List.length_append,hpl,hrl];omega,by rw [Nat.sub_mul];omega,by omega,by omega⟩,?_,?_⟩
   · unfold OQ.fs;dsimp only;rw [if_neg h1]
   · unfold OQ.G;simp [List.append_assoc]
theorem OQ.one {e sz:Nat} (b:Nat) {row:List Value} (h:row.length=sz):∃ q:OQ e sz [row],q.fs = .slice (some ⟨b,0,none⟩) 1 1∧q.G=[(b,cel e row)] :=
 ⟨⟨b,0,1,[],[],by simp [h],rfl,by simp,by simp,by decide⟩,rfl,by unfold OQ.G;simp⟩
theorem ZfB (A B C X:Z8):(A++(B++(C++X))).Perm (A++(C++(B++X))):=by
 refine List.Perm.append_left A ?_
 rw [← List.append_assoc,← List.append_assoc];exact List.Perm.append_right X List.perm_append_comm
theorem OQ.getR {e:Nat} {row:List Value} {rows:List (List Value)} (q:OQ e 6 (row::rows)):(q.pre++(((row::rows):List (List Value)).flatten++q.junk)).drop q.off=row++(rows.flatten++q.junk):=by
 rw [← q.pl,List.drop_left,List.flatten_cons,List.append_assoc]
set_option maxHeartbeats 1600000 in
theorem c_Rounds (y:TBn) (a1 a2:Option Addr) (k1 k2:Nat) (hy:y.ok) (hc2:y.lots.length≤k2) (g:Nat) (hg:1≤g∧g≤3) (H:Z8) (R:Z5) [hR1:MemRows a1 1 (irows y.sizes) R] [hR2:MemRows a2 3 (trows y.lots) R] :
    Fn Tryz.prog 10 [(y.v a1 a2 k1 k2),.int .i64 (g:Int)] H R (fun v H' R'=>H'=H∧((v = .tuple #[.slice none 0 0,.int .i64 7]∧R'=R)∨∃ (ws:List Rec) (last:Rec) (pend l:List Rec) (a:Option Addr) (c:Nat),BI (edR y g) y.mds y.first ws (last::pend)∧y.mds last.q=true∧v = .tuple #[.slice a l.length c,.int .i64 0]∧l.length≤c∧l.length=last.d∧Wk (edR y g) y.first l last.q∧(∀ r∈l,r∈ws)∧R'=RowsA a 1 (slr l)::WF ws::R)):=by
 have hb:=hy.nb
 have hl:=hy.nl
 refine Z4O Tryz.func10 rfl Tryz.ntmps10 rfl ?_
 refine sqt 3 rfl (bx rfl rfl rfl (fun b2=>pur 2 rfl (sqt 8 rfl (spL rfl rfl (lhA (brl y a1 a2 k1 k2) Z65 rfl (rest:=[]) rfl rfl) rfl (pur 1 rfl ?_)))))
 refine cl rfl Zjt rfl rfl (Z79 y a1 a2 k1 k2 hy hc2 g hg _ _) ?_
 rintro _ _ _ ⟨d,rfl,hdy,hd1,hd2,hd3,hd4,rfl,rfl⟩
 subst hdy;subst hd1;subst hd2;subst hd3;subst hd4
 obtain ⟨f0,f1,f2,f3,f4,f5,hf⟩:=ZaT (d.y.first_len hl)
 refine pur 5 rfl (Z0 (sqt 2 rfl (pur 2 rfl ?_)))
 refine Z2 rfl ?_ ?_<;>intro hc0
 exact absurd hc0 (by simp)
 ·
  refine Z1 (sqt 11 rfl ?_)
  refine mkm rfl rfl true (fun m26=>?_)
  refine pur 1 rfl (sp rfl (PE.nilCheck rfl) rfl (sp rfl (PE.fA Z2d rfl) rfl (spL rfl rfl (ZaS (sz:=8) (Za [f0,f1,f2,f3,f4,f5]) ZU (rest:=[]) (by unfold TD.l;rw [hf];rfl) rfl) rfl (sp rfl (PE.build (out:=[_,_,_,_,_,_,_,_]) ZcZ Z9o rfl rfl) rfl ?_))))
  refine mpi [] [f0,f1,f2,f3,f4,f5] rfl Z1B (KeyT.of Z0I Z13) rfl rfl rfl rfl (by simp) ?_
  refine pur 1 rfl (sp rfl (PE.build (out:=[_,_,_,_,_,_,_,_]) Zik Z9p rfl rfl) rfl (alc rfl Z9p rfl (fun b8=>?_)))
  refine sto rfl rfl rfl Zai rfl rfl rfl rfl ?_
  refine sqt 7 rfl (pur 1 rfl (sp rfl (PE.nilCheck rfl) rfl (sp rfl (PE.fA Z2d rfl) rfl (spL rfl rfl (ZaS (sz:=8) (Za [f0,f1,f2,f3,f4,f5]) ZU (rest:=[]) (by unfold TD.l;rw [hf];rfl) rfl) rfl ?_))))
  refine bsl (out:=[_,_,_,_,_,_]) rfl Z9i Z4F rfl rfl rfl rfl rfl rfl (fun b38=>?_)
  refine alc rfl Zki rfl (fun b9=>?_)
  refine sto rfl rfl rfl ZeV rfl rfl rfl rfl ?_
  refine Z0 (Z3 ?_)
  obtain ⟨q0,hq0,hqG⟩:=OQ.one (e:=119) (sz:=6) b38 (row:=Za [f0,f1,f2,f3,f4,f5]) rfl
  obtain ⟨q1,hq1,hqG1⟩:∃ q1:OQ 119 6 (qrs [rst d.y.first]),q1.fs = .slice (some ⟨b38,0,none⟩) 1 1∧q1.G=[(b38,cel 119 (Za [f0,f1,f2,f3,f4,f5]))]:=⟨q0.cast (by show [Za [f0,f1,f2,f3,f4,f5]]=[Za d.y.first];rw [hf]),by rw [OQ.cast_fs];exact hq0,by rw [OQ.cast_G];exact hqG⟩
  refine Sy.heap (H':=(b9,cel 127 [q1.fs])::(b8,cel 126 [.map (some m26),.int .i64 0,.int .i64 0,.int .i64 0,.int .i64 0,.int .i64 0,.int .i64 0,.bool false])::(m26,Zz true (wkv (fun _:Nat=>(0:Int)) [rst d.y.first]))::(b2,cel 26 (brl d.y d.a1 d.a2 d.k1 d.k2))::(q1.G++(mkh []++H))) (R':=WF [rst d.y.first]::RowsA (some ⟨d.bd,0,none⟩) 8 [d.l]::R) (fun w h=>by
    rw [hq1,hqG1,show wkv (fun _:Nat=>(0:Int)) [rst d.y.first]=[([f0,f1,f2,f3,f4,f5],.agg #[.int .i64 0,.int .i64 0,.int .i64 0,.int .i64 0,.int .i64 0,.int .i64 0,.slice none 0 0,.int .i64 0])] by rw [hf];rfl]
    exact St.wf0 (h.perm (ZfB [_] [_] [_,_,_] _))) ?_
  refine Z1f (ι:=(x:{x:(List Rec×List Rec)×List Nat // QO d.y g x.1.1 x.1.2})×OQ 119 6 (qrs x.1.1.2)) (fun x=>⟨[(1,.int .i64 (g:Int)),(6,.pointer (some ⟨d.bd,0,none⟩)),(8,.pointer (some ⟨b8,0,none⟩)),(9,.pointer (some ⟨b9,0,none⟩))],mks x.1.1.2,(b9,cel 127 [x.2.fs])::(b8,cel 126 [.map (some m26),.int .i64 0,.int .i64 0,.int .i64 0,.int .i64 0,.int .i64 0,.int .i64 0,.bool false])::(m26,Zz true (wkv (fun _:Nat=>(0:Int)) x.1.1.1.1))::(b2,cel 26 (brl d.y d.a1 d.a2 d.k1 d.k2))::(x.2.G++(mkh x.1.1.2++H)),WF x.1.1.1.1::RowsA (some ⟨d.bd,0,none⟩) 8 [d.l]::R⟩) (fun x=>2*(117649-x.1.1.1.1.length)+x.1.1.1.2.length) ⟨⟨(([rst d.y.first],[rst d.y.first]),[]),QO.start hy g⟩,q1⟩ ?_ (fun x=>?_)
  exact Z4t sbA rfl idH
  ·
   obtain ⟨⟨⟨⟨ws,pend⟩,mk⟩,hqo⟩,q⟩:=x
   dsimp only at hqo q ⊢
   have hfew:=hqo.few hy
   have hct:=hqo.ct
   have hqs:q.fs = .slice (some ⟨q.b,q.off,none⟩) pend.length q.cap:=by unfold OQ.fs;rw [Z4k]
   rw [hqs]
   refine Z0 (sqt 8 rfl (spL rfl rfl (lh Zdb rfl rfl) rfl (sp rfl (PE.lenSl Ze0 rfl) rfl (pur 2 rfl ?_))))
   refine Zv 42 rfl ?_ ?_<;>intro g42
   ·
    try simp only [cS] at g42
    have hpl:0<pend.length:=by omega
    refine spG rfl rfl rfl rfl (PE.fA Z32 rfl) rfl ?_
    refine Z0E rfl rfl rfl rfl rfl (lh (v:=.bool false) sc4 rfl rfl) rfl (pur 2 rfl ?_)
    refine Z2 rfl ?_ ?_<;>intro hc1
    ·
     obtain ⟨r,pend,rfl⟩:∃ r l,pend=r::l:=by cases pend with | nil=>exact absurd hpl (by simp) | cons r l=>exact ⟨r,l,rfl⟩
     rw [List.length_cons] at hct
     have hr6:=(hqo.ins r (hqo.bi.pn r (by simp))).1
     obtain ⟨q0,q1,q2,q3,q4,q5,fr,by_,dd,ra,rk,rfl⟩:=Zkz hr6
     dsimp only at hr6
     refine Sy.heap (H':=(b9,cel 127 [.slice (some ⟨q.b,q.off,none⟩) (⟨[q0,q1,q2,q3,q4,q5],fr,by_,dd,ra,rk⟩::pend).length q.cap])::(b8,cel 126 [.map (some m26),.int .i64 0,.int .i64 0,.int .i64 0,.int .i64 0,.int .i64 0,.int .i64 0,.bool false])::(m26,Zz true (wkv (fun _:Nat=>(0:Int)) ws))::(b2,cel 26 (brl d.y d.a1 d.a2 d.k1 d.k2))::(q.b,cel 119 (q.pre++(((Za [q0,q1,q2,q3,q4,q5]::qrs pend):List (List Value)).flatten++q.junk)))::(mkh mk++H)) idH ?_
     obtain ⟨qn,hqn,hqG2⟩:=OQ.pop (row:=Za [q0,q1,q2,q3,q4,q5]) (rows:=qrs pend) q
     refine Z1 (Z3 (sqt 5 rfl (spL rfl rfl (lh Zdb rfl rfl) rfl (sp rfl (PE.indexAddr ZhS rfl rfl (by decide) (by rw [List.length_cons];omega)) rfl (spL rfl rfl (lhA (Za [q0,q1,q2,q3,q4,q5]) ZU rfl (rest:=(qrs pend).flatten++q.junk) (OQ.getR (rows:=qrs pend) q) rfl) rfl (alc rfl Z4F rfl (fun b10=>?_)))))))
     refine Z4z rfl rfl rfl Z5g rfl rfl rfl (ZA _) ?_
     refine sqt 3 rfl (spL rfl rfl (lh Zdb rfl rfl) rfl (sp rfl (PE.slLoA (l:=1) Z9i rfl rfl (by rw [List.length_cons];omega)) rfl ?_))
     have hq2e:Value.slice (if q.cap=1 then some ⟨q.b,q.off,none⟩ else (some (⟨q.b,q.off,none⟩:Addr)).map (·.add (1*6))) ((⟨[q0,q1,q2,q3,q4,q5],fr,by_,dd,ra,rk⟩::pend:List Rec).length-1) (q.cap-1)=qn.fs:=by
       rw [hqn,Option.map_some,ZB,List.length_cons,Z4k];rfl
     rw [hq2e]
     refine ZH (l':=[qn.fs]) rfl rfl rfl ZeV rfl rfl rfl rfl (Nat.le_refl _) ?_
     refine Sy.heap (H':=(b10,cel 119 (Za [q0,q1,q2,q3,q4,q5]))::(b9,cel 127 [qn.fs])::(b8,cel 126 [.map (some m26),.int .i64 0,.int .i64 0,.int .i64 0,.int .i64 0,.int .i64 0,.int .i64 0,.bool false])::(m26,Zz true (wkv (fun _:Nat=>(0:Int)) ws))::(b2,cel 26 (brl d.y d.a1 d.a2 d.k1 d.k2))::(qn.G++(mkh mk++H))) (fun w h=>by rw [hqG2];exact h) ?_
     refine Z0 (sqt 3 rfl (pur 1 rfl (spL rfl rfl (lhA (Za [q0,q1,q2,q3,q4,q5]) ZU rfl (rest:=[]) rfl rfl) rfl ?_)))
     refine clV rfl Zht rfl rfl (Zdo d hy [q0,q1,q2,q3,q4,q5] rfl _ _) ?_
     refine Z2 rfl ?_ ?_<;>intro hc2
     refine sqt 5 rfl (spL rfl rfl (lhA (Za [q0,q1,q2,q3,q4,q5]) ZU rfl (rest:=[]) rfl rfl) rfl (sp rfl (PE.fA Z5p rfl) rfl ?_))
     refine ZH (l':=[.map (some m26),.int .i64 q0,.int .i64 q1,.int .i64 q2,.int .i64 q3,.int .i64 q4,.int .i64 q5,.bool false]) rfl rfl rfl Z5g rfl rfl rfl rfl (nl rfl) ?_
     refine sp rfl (PE.fA Z32 rfl) rfl ?_
     refine ZH (l':=[.map (some m26),.int .i64 q0,.int .i64 q1,.int .i64 q2,.int .i64 q3,.int .i64 q4,.int .i64 q5,.bool true]) rfl rfl rfl cn4 rfl rfl rfl rfl (nl rfl) ?_
     refine Z7 (Z9 (ZX (by decide) (Z9 (Zk (Z0 (sqt 3 rfl (sp rfl (PE.fA Z32 rfl) rfl (spL rfl rfl (lh (v:=.bool true) sc4 rfl rfl) rfl (pur 1 rfl ?_)))))))))
     refine Z2 rfl ?_ ?_<;>intro hc5
     exact absurd hc5 (by simp)
     refine Z1 (Z0 ?_)
     refine Zb [0,0,2,6,14,31,63,127] (.ld 0 (tks 1 3 (.ld 4 (.big 5 (.tk 6 (.tk 7 .done)))))) Zo (by kernel_rfl) ?_
     have hrm:=hqo.bi.pn ⟨[q0,q1,q2,q3,q4,q5],fr,by_,dd,ra,rk⟩ (by simp)
     refine Sy.heap (fun w h=>St.freeze (h.pull m26)) ?_
     refine ld rfl rfl (lhA [.map (some m26),.int .i64 q0,.int .i64 q1,.int .i64 q2,.int .i64 q3,.int .i64 q4,.int .i64 q5,.bool true] Z8W rfl (rest:=[]) rfl rfl) rfl (Zl 1 rfl (tk rfl (PE.nilCheck rfl) rfl (tk rfl (PE.fA Z2d rfl) rfl (ld rfl rfl (ZaS (sz:=8) (Za d.y.first) ZU (rest:=[]) (by unfold TD.l;simp [brl]) (by rw [Z6];exact d.y.first_len hl)) rfl ?_))))
     refine cl rfl Zhu rfl rfl (Z7Y d hy (fun _:Nat=>(0:Int)) (edR d.y g) ws (⟨[q0,q1,q2,q3,q4,q5],fr,by_,dd,ra,rk⟩::pend) ⟨[q0,q1,q2,q3,q4,q5],fr,by_,dd,ra,rk⟩ hrm hqo.bi hqo.ins true m26 _ _) ?_
     rintro _ _ _ ⟨l,ap,cp,rfl,hlc,hll,hwk,hls,rfl,rfl⟩
     refine bgT (Zl 2 rfl (Z4 ?_))
     refine Sy.heap (H':=mkh mk++H) (R':=RowsA ap 1 (slr l)::WF ws::R) (fun w h=>St.sub (St.drop (G:=qn.G) (((((h.del b10).del b9).del b8).del b2)))) ?_
     exact ZO mk idH rfl (.cons (RV.tmp rfl) (.cons (RV.tmp rfl) .nil)) rfl ⟨rfl,.inr ⟨ws,⟨[q0,q1,q2,q3,q4,q5],fr,by_,dd,ra,rk⟩,pend,l,ap,cp,hqo.bi,hc2,rfl,hlc,hll,hwk,hls,rfl⟩⟩ idH
     ·
      try simp only [cS] at hc2
      have hmd:d.y.mds [q0,q1,q2,q3,q4,q5]=false:=by simpa using hc2
      have hpop:=hqo.pop hmd
      refine Z1 (sqt 4 rfl (pur 1 rfl (spL rfl rfl (lhA (Za [q0,q1,q2,q3,q4,q5]) ZU rfl (rest:=[]) rfl rfl) rfl (pur 1 rfl ?_))))
      refine cl rfl Zju rfl rfl (Zcm d [q0,q1,q2,q3,q4,q5] rfl g _ _) ?_
      rintro _ _ _ ⟨x2,x3,x5,rfl,rfl,rfl⟩
      refine Sy.heap (R':=WF ws::RowsA (some ⟨x5,0,none⟩) 6 [Za [q0,q1,q2,q3,q4,q5]]::RowsA (some ⟨x3,0,none⟩) 1 [[.int .i64 (g:Int)]]::RowsA (some ⟨x2,0,none⟩) 1 [[.pointer (some ⟨d.bd,0,none⟩)]]::RowsA (some ⟨d.bd,0,none⟩) 8 [d.l]::R) (fun w h=>St.sub (A:=WF ws::RowsA (some ⟨x5,0,none⟩) 6 [Za [q0,q1,q2,q3,q4,q5]]::RowsA (some ⟨x3,0,none⟩) 1 [[.int .i64 (g:Int)]]::RowsA (some ⟨x2,0,none⟩) 1 [[.pointer (some ⟨d.bd,0,none⟩)]]::RowsA (some ⟨d.bd,0,none⟩) 8 [d.l]::R) h) ?_
      refine Z3 ?_
      refine Z1g rfl ZjE (fun c0 bl0 bd0 hcp0 hca0 hcb0 hck0=>?_)
      refine ⟨fun st pe T R'=>st = .ready∧pe=none∧∃ (ws' pend':List Rec) (q':OQ 119 6 (qrs pend')),QR d.y g (2*(117649-ws.length)+pend.length) ws' pend' ⟨[q0,q1,q2,q3,q4,q5],fr,by_,dd,ra,rk⟩ ((edR d.y g [q0,q1,q2,q3,q4,q5]).length)∧T=(bd0,.deferred (some []))::(b10,cel 119 (Za [q0,q1,q2,q3,q4,q5]))::(b9,cel 127 [q'.fs])::(b8,cel 126 [.map (some m26),.int .i64 0,.int .i64 0,.int .i64 0,.int .i64 0,.int .i64 0,.int .i64 0,.bool false])::(m26,Zz true (wkv (fun _:Nat=>(0:Int)) ws'))::(b2,cel 26 (brl d.y d.a1 d.a2 d.k1 d.k2))::(q'.G++(mkh mk++H))∧R'=WF ws'::RowsA (some ⟨x5,0,none⟩) 6 [Za [q0,q1,q2,q3,q4,q5]]::RowsA (some ⟨x3,0,none⟩) 1 [[.int .i64 (g:Int)]]::RowsA (some ⟨x2,0,none⟩) 1 [[.pointer (some ⟨d.bd,0,none⟩)]]::RowsA (some ⟨d.bd,0,none⟩) 8 [d.l]::R,
        Fn.mono (Za8 d hy [q0,q1,q2,q3,q4,q5] rfl g hg x2 x3 x5 bl0 (fun k H' R'=>∃ (ws' pend':List Rec) (q':OQ 119 6 (qrs pend')),QR d.y g (2*(117649-ws.length)+pend.length) ws' pend' ⟨[q0,q1,q2,q3,q4,q5],fr,by_,dd,ra,rk⟩ (k)∧H'=(bl0,lob c0 .ready none)::(bd0,.deferred (some []))::(b10,cel 119 (Za [q0,q1,q2,q3,q4,q5]))::(b9,cel 127 [q'.fs])::(b8,cel 126 [.map (some m26),.int .i64 0,.int .i64 0,.int .i64 0,.int .i64 0,.int .i64 0,.int .i64 0,.bool false])::(m26,Zz true (wkv (fun _:Nat=>(0:Int)) ws'))::(b2,cel 26 (brl d.y d.a1 d.a2 d.k1 d.k2))::(q'.G++(mkh mk++H))∧R'=WF ws'::RowsA (some ⟨x5,0,none⟩) 6 [Za [q0,q1,q2,q3,q4,q5]]::RowsA (some ⟨x3,0,none⟩) 1 [[.int .i64 (g:Int)]]::RowsA (some ⟨x2,0,none⟩) 1 [[.pointer (some ⟨d.bd,0,none⟩)]]::RowsA (some ⟨d.bd,0,none⟩) 8 [d.l]::R) (fun k H' R' h9=>?_) (fun k l a c H' R' G hk h9 hmG=>?_) _ _ ⟨ws,pend,qn,hpop,rfl,rfl⟩) (fun v H' R' h9=>?_),?_⟩
      · obtain ⟨ws1,p1,qw,_,rfl,rfl⟩:=h9
        exact ⟨(inferInstance:MemRows (some ⟨x2,0,none⟩) 1 [[.pointer (some ⟨d.bd,0,none⟩)]] (WF ws1::RowsA (some ⟨x5,0,none⟩) 6 [Za [q0,q1,q2,q3,q4,q5]]::RowsA (some ⟨x3,0,none⟩) 1 [[.int .i64 (g:Int)]]::RowsA (some ⟨x2,0,none⟩) 1 [[.pointer (some ⟨d.bd,0,none⟩)]]::RowsA (some ⟨d.bd,0,none⟩) 8 [d.l]::R)).mem,(inferInstance:MemRows (some ⟨x3,0,none⟩) 1 [[.int .i64 (g:Int)]] (WF ws1::RowsA (some ⟨x5,0,none⟩) 6 [Za [q0,q1,q2,q3,q4,q5]]::RowsA (some ⟨x3,0,none⟩) 1 [[.int .i64 (g:Int)]]::RowsA (some ⟨x2,0,none⟩) 1 [[.pointer (some ⟨d.bd,0,none⟩)]]::RowsA (some ⟨d.bd,0,none⟩) 8 [d.l]::R)).mem,(inferInstance:MemRows (some ⟨x5,0,none⟩) 6 [Za [q0,q1,q2,q3,q4,q5]] (WF ws1::RowsA (some ⟨x5,0,none⟩) 6 [Za [q0,q1,q2,q3,q4,q5]]::RowsA (some ⟨x3,0,none⟩) 1 [[.int .i64 (g:Int)]]::RowsA (some ⟨x2,0,none⟩) 1 [[.pointer (some ⟨d.bd,0,none⟩)]]::RowsA (some ⟨d.bd,0,none⟩) 8 [d.l]::R)).mem,(inferInstance:MemRows (some ⟨d.bd,0,none⟩) 8 [d.l] (WF ws1::RowsA (some ⟨x5,0,none⟩) 6 [Za [q0,q1,q2,q3,q4,q5]]::RowsA (some ⟨x3,0,none⟩) 1 [[.int .i64 (g:Int)]]::RowsA (some ⟨x2,0,none⟩) 1 [[.pointer (some ⟨d.bd,0,none⟩)]]::RowsA (some ⟨d.bd,0,none⟩) 8 [d.l]::R)).mem,(inferInstance:MemRows d.a1 1 (irows d.y.sizes) (WF ws1::RowsA (some ⟨x5,0,none⟩) 6 [Za [q0,q1,q2,q3,q4,q5]]::RowsA (some ⟨x3,0,none⟩) 1 [[.int .i64 (g:Int)]]::RowsA (some ⟨x2,0,none⟩) 1 [[.pointer (some ⟨d.bd,0,none⟩)]]::RowsA (some ⟨d.bd,0,none⟩) 8 [d.l]::R)).mem,(inferInstance:MemRows d.a2 3 (trows d.y.lots) (WF ws1::RowsA (some ⟨x5,0,none⟩) 6 [Za [q0,q1,q2,q3,q4,q5]]::RowsA (some ⟨x3,0,none⟩) 1 [[.int .i64 (g:Int)]]::RowsA (some ⟨x2,0,none⟩) 1 [[.pointer (some ⟨d.bd,0,none⟩)]]::RowsA (some ⟨d.bd,0,none⟩) 8 [d.l]::R)).mem⟩
      rotate_left
      · obtain ⟨ws1,p1,qw,h1,rfl,rfl⟩:=h9
        exact ⟨.ready,none,_,by simp,.refl _,rfl,rfl,ws1,p1,qw,h1,rfl,rfl⟩
      rotate_left
      obtain ⟨ws1,p1,qw,hqr,rfl,rfl⟩:=h9
      have hlm:=List.mem_of_getElem? hk
      have hlo:=ZdQ hlm
      have hlg:=edR_few hlm
      have hfew1:=hqr.few hy
      have hct1:=hqr.ct
      have h61:∀ s∈ws1,s.q.length=6:=fun s hs=>(hqr.ins s hs).1
      haveI:MemRows a 2 (tor l) (G++(WF ws1::RowsA (some ⟨x5,0,none⟩) 6 [Za [q0,q1,q2,q3,q4,q5]]::RowsA (some ⟨x3,0,none⟩) 1 [[.int .i64 (g:Int)]]::RowsA (some ⟨x2,0,none⟩) 1 [[.pointer (some ⟨d.bd,0,none⟩)]]::RowsA (some ⟨d.bd,0,none⟩) 8 [d.l]::R)):=⟨List.mem_append_left _ hmG⟩
      refine Z7Q hcp0 hca0 hcb0 hck0 rfl ?_
      refine sqr 1 rfl (pur 1 rfl ?_)
      refine ZK ?_
      refine Z3 (sqt 3 rfl (spL rfl rfl (lhA (Za [q0,q1,q2,q3,q4,q5]) ZU rfl (rest:=[]) rfl rfl) rfl (alc rfl Z4F rfl (fun b12=>?_))))
      refine Z4z rfl rfl rfl Z5g rfl rfl rfl (ZA _) ?_
      refine Z0 (sqt 3 rfl (pur 1 rfl (sp rfl (PE.lenSl Z3s rfl) rfl (pur 1 rfl (Z3 ?_)))))
      refine Zd (ι:={j:Nat // j≤l.length}) (fun j=>⟨[(6,.pointer (some ⟨d.bd,0,none⟩)),(8,.pointer (some ⟨b8,0,none⟩)),(9,.pointer (some ⟨b9,0,none⟩)),(10,.pointer (some ⟨b10,0,none⟩)),(11,.slice a l.length c),(12,.pointer (some ⟨b12,0,none⟩)),(64,.slice a l.length c),(65,.int .i64 (l.length:Int)),(66,.int .i64 (j.1:Int))],(b12,cel 119 (Za (app [q0,q1,q2,q3,q4,q5] (l.take j.1))))::(bl0,lob c0 .busy none)::(bd0,.deferred (some []))::(b10,cel 119 (Za [q0,q1,q2,q3,q4,q5]))::(b9,cel 127 [qw.fs])::(b8,cel 126 [.map (some m26),.int .i64 0,.int .i64 0,.int .i64 0,.int .i64 0,.int .i64 0,.int .i64 0,.bool false])::(m26,Zz true (wkv (fun _:Nat=>(0:Int)) ws1))::(b2,cel 26 (brl d.y d.a1 d.a2 d.k1 d.k2))::(qw.G++(mkh mk++H)),G++(WF ws1::RowsA (some ⟨x5,0,none⟩) 6 [Za [q0,q1,q2,q3,q4,q5]]::RowsA (some ⟨x3,0,none⟩) 1 [[.int .i64 (g:Int)]]::RowsA (some ⟨x2,0,none⟩) 1 [[.pointer (some ⟨d.bd,0,none⟩)]]::RowsA (some ⟨d.bd,0,none⟩) 8 [d.l]::R)⟩) (fun j=>l.length-j.1) ⟨0,Nat.zero_le _⟩ ?_ (fun j=>?_)
      exact Zj idH
      obtain ⟨j,hj⟩:=j
      dsimp only at hj ⊢
      refine sqt 1 rfl (pur 1 rfl (Z0 ?_))
      refine Z2 rfl ?_ ?_<;>intro hc3<;>try simp only [cS] at hc3
      obtain ⟨t,ht⟩:∃ t,l[j]?=some t:=⟨_,List.getElem?_eq_getElem (by omega)⟩
      have hto:=hlo t (List.mem_of_getElem? ht)
      have hap:(app [q0,q1,q2,q3,q4,q5] (l.take j)).length=6:=Z9C _ _
      have hst:app [q0,q1,q2,q3,q4,q5] (l.take (j+1))=(app [q0,q1,q2,q3,q4,q5] (l.take j)).set t.1.toNat t.2:=by rw [List.take_add_one,ht];unfold app;rw [Option.toList_some,List.foldl_append];rfl
      refine Zi (a:=a) (sz:=2) (rows:=tor l) (ne_of_get (tor_get ht)) (fun ba oa he=>?_)
      subst he
      refine Z1 (Z0 (Z3 (sqt 4 rfl (sp rfl (PE.indexAddr ZiS rfl rfl (by omega) (by omega)) rfl (spL rfl rfl (lfA Zer (tor_get ht) rfl) rfl (alc rfl ZbV rfl (fun b14=>?_)))))))
      refine ZH (l':=[.int .i64 t.1,.int .i64 t.2]) rfl rfl rfl ZiQ rfl rfl rfl rfl (nl rfl) ?_
      refine sqr 6 rfl (sp rfl (PE.fA Z6u rfl) rfl (spL rfl rfl (lh (v:=.int .i64 t.1) sc3 rfl rfl) rfl (sp rfl (PE.fA ZdW rfl) rfl (spL rfl rfl (lh (v:=.int .i64 t.2) sc3 rfl rfl) rfl (sp rfl (PE.indexArr Z9D rfl rfl (by omega) (by omega)) rfl ?_)))))
      refine ZH (l':=Za ((app [q0,q1,q2,q3,q4,q5] (l.take j)).set t.1.toNat t.2)) rfl rfl rfl cn3 rfl rfl rfl (Z7F (k:=t.1.toNat) (by omega) (by show 0+t.1.toNat*1=_;omega)) (by rw [Z6,hap];show 0+t.1.toNat*1+1≤6;omega) ?_
      refine sqr 2 rfl (sp rfl (PE.add rfl rfl (by omega)) rfl (pur 1 rfl ?_))
      exact Zc ⟨j+1,by omega⟩ (fun w h=>by dsimp only;rw [hst];exact h.del b14)
      obtain rfl:j=l.length:=by omega
      rw [List.take_length]
      obtain ⟨u0,u1,u2,u3,u4,u5,hu⟩:=ZaT (show (app [q0,q1,q2,q3,q4,q5] l).length=6 from Z9C _ _)
      rw [hu]
      have hfr1:=Zek (q:=[u0,u1,u2,u3,u4,u5]) (Zgn hqr.bj h61)
      refine Z7 (Z9 (Z9 (Zk (sqt 10 rfl (sp rfl (PE.fA Z2e rfl) rfl (spL rfl rfl (lh Z5G rfl rfl) rfl (spL rfl rfl (lhA (Za [u0,u1,u2,u3,u4,u5]) ZU rfl (rest:=[]) rfl rfl) rfl ?_)))))))
      refine spK rfl rfl rfl (Z0L (b:=true) (wkv (fun _:Nat=>(0:Int)) ws1) [u0,u1,u2,u3,u4,u5] Z1B (KeyT.of Z0I Z13) (ZZ Z7R) rfl (Z1i h61) true) rfl ?_
      rw [Z8U (f:=(fun _:Nat=>(0:Int))) rfl]
      refine pur 3 rfl (alc rfl Z9o rfl (fun b15=>?_))
      refine Z4z (vs:=wyl (fun _:Nat=>(0:Int)) ((wfd ws1 [u0,u1,u2,u3,u4,u5]).getD Z9x)) rfl rfl rfl ZhI rfl (ZbT hfr1) rfl (ZbU _ _) ?_
      refine pur 1 rfl (sqt 2 rfl (pur 2 rfl ?_))
      refine Z2 rfl ?_ ?_<;>intro hc4
      try simp only [cS] at hc4
      have hno:∀ s∈ws1,s.q≠[u0,u1,u2,u3,u4,u5]:=Z5X (by simpa using hc4)
      obtain ⟨hmore,hN⟩:=hqr.more hy hk (by dsimp only;rw [hu];exact hno) a c
      dsimp only at hmore
      rw [hu] at hmore
      refine sqt 7 rfl (sp rfl (PE.fA Z2e rfl) rfl (spL rfl rfl (lh Z5G rfl rfl) rfl (spL rfl rfl (lhA (Za [u0,u1,u2,u3,u4,u5]) ZU rfl (rest:=[]) rfl rfl) rfl (spL rfl rfl (lhA (Za [q0,q1,q2,q3,q4,q5]) ZU rfl (rest:=[]) rfl rfl) rfl (pur 1 rfl (sp rfl (PE.build (out:=[_,_,_,_,_,_,_,_]) ZcZ Z9o rfl rfl) rfl ?_))))))
      refine mpu (wkv (fun _:Nat=>(0:Int)) ws1) [u0,u1,u2,u3,u4,u5] (v:=wyv (fun _:Nat=>(0:Int)) ⟨[u0,u1,u2,u3,u4,u5],[q0,q1,q2,q3,q4,q5],l,dd+1,a,c⟩) rfl Z1B (KeyT.of Z0I Z13) rfl rfl rfl rfl (Z1i h61) ?_
      refine sqr 5 rfl ?_
      rw [ZbR (fun _:Nat=>(0:Int)) (r:=⟨[u0,u1,u2,u3,u4,u5],[q0,q1,q2,q3,q4,q5],l,dd+1,a,c⟩) hno]
      refine Sy.heap (R':=G++(WF (ws1++[⟨[u0,u1,u2,u3,u4,u5],[q0,q1,q2,q3,q4,q5],l,dd+1,a,c⟩])::RowsA (some ⟨x5,0,none⟩) 6 [Za [q0,q1,q2,q3,q4,q5]]::RowsA (some ⟨x3,0,none⟩) 1 [[.int .i64 (g:Int)]]::RowsA (some ⟨x2,0,none⟩) 1 [[.pointer (some ⟨d.bd,0,none⟩)]]::RowsA (some ⟨d.bd,0,none⟩) 8 [d.l]::R)) (fun w h=>St.facts (St.wfSnoc (ws:=ws1) (r:=⟨[u0,u1,u2,u3,u4,u5],[q0,q1,q2,q3,q4,q5],l,dd+1,a,c⟩) (m2:=(inferInstance:MemRows a 2 (tor l) (G++(WF ws1::RowsA (some ⟨x5,0,none⟩) 6 [Za [q0,q1,q2,q3,q4,q5]]::RowsA (some ⟨x3,0,none⟩) 1 [[.int .i64 (g:Int)]]::RowsA (some ⟨x2,0,none⟩) 1 [[.pointer (some ⟨d.bd,0,none⟩)]]::RowsA (some ⟨d.bd,0,none⟩) 8 [d.l]::R)))) h) (fun f hf=>by
        rcases List.mem_append.1 hf with h8 | h8
        · exact List.mem_cons_of_mem _ (List.mem_append_left _ h8)
        · rcases List.mem_cons.1 h8 with h9 | h9
          · rw [h9];exact List.mem_cons_self
          · exact List.mem_cons_of_mem _ (List.mem_append_right _ (List.mem_cons_of_mem _ h9)))) ?_
      refine spL rfl rfl (lh (v:=qw.fs) Zdb rfl rfl) rfl (spL rfl rfl (lhA (Za [u0,u1,u2,u3,u4,u5]) ZU rfl (rest:=[]) rfl rfl) rfl ?_)
      refine bsl (out:=[_,_,_,_,_,_]) rfl Z9i Z4F rfl rfl rfl rfl rfl rfl (fun b93=>?_)
      refine apQ qw rfl Zgi rfl rfl (Z0B (row:=Za [u0,u1,u2,u3,u4,u5]) rfl) rfl (by simp) rfl (by rw [Z4k];simp only [List.length_cons,List.length_nil];omega) rfl (fun q94=>?_)
      refine ZH (l':=[q94.fs]) rfl rfl rfl ZeV rfl rfl rfl rfl (Nat.le_refl _) ?_
      obtain ⟨qz,ez,gz⟩:∃ qz:OQ 119 6 (qrs (p1++[⟨[u0,u1,u2,u3,u4,u5],[q0,q1,q2,q3,q4,q5],l,dd+1,a,c⟩])),qz.fs=q94.fs∧qz.G=q94.G:=⟨q94.cast (Zbm p1 ⟨[u0,u1,u2,u3,u4,u5],[q0,q1,q2,q3,q4,q5],l,dd+1,a,c⟩),OQ.cast_fs _ _,OQ.cast_G _ _⟩
      exact Zn ⟨rfl,WF (ws1++[⟨[u0,u1,u2,u3,u4,u5],[q0,q1,q2,q3,q4,q5],l,dd+1,a,c⟩])::RowsA (some ⟨x5,0,none⟩) 6 [Za [q0,q1,q2,q3,q4,q5]]::RowsA (some ⟨x3,0,none⟩) 1 [[.int .i64 (g:Int)]]::RowsA (some ⟨x2,0,none⟩) 1 [[.pointer (some ⟨d.bd,0,none⟩)]]::RowsA (some ⟨d.bd,0,none⟩) 8 [d.l]::R,rfl,ws1++[⟨[u0,u1,u2,u3,u4,u5],[q0,q1,q2,q3,q4,q5],l,dd+1,a,c⟩],p1++[⟨[u0,u1,u2,u3,u4,u5],[q0,q1,q2,q3,q4,q5],l,dd+1,a,c⟩],qz,hmore,rfl,rfl⟩ (fun w h=>by rw [ez,gz];exact ((h.del b93).del b15).del b12)
      obtain ⟨x9,hx9⟩:=Option.isSome_iff_exists.1 (show (wfd ws1 [u0,u1,u2,u3,u4,u5]).isSome=true by simpa using hc4)
      obtain ⟨hx1,hx2⟩:=Z2U hx9
      refine Z1 ?_
      exact Zn ⟨rfl,WF ws1::RowsA (some ⟨x5,0,none⟩) 6 [Za [q0,q1,q2,q3,q4,q5]]::RowsA (some ⟨x3,0,none⟩) 1 [[.int .i64 (g:Int)]]::RowsA (some ⟨x2,0,none⟩) 1 [[.pointer (some ⟨d.bd,0,none⟩)]]::RowsA (some ⟨d.bd,0,none⟩) 8 [d.l]::R,rfl,ws1,p1,qw,hqr.skip hk hx1 (hx2.trans hu.symm),rfl,rfl⟩ (fun w h=>(h.del b15).del b12)
      rintro _ _ _ _ ⟨rfl,rfl,ws1,p1,qw,hqr,rfl,rfl⟩
      refine Z6U ?_
      have hms:=hqr.ms
      exact Z1Z ⟨⟨((ws1,p1),bd0::mk),hqr.done⟩,qw⟩ (by dsimp only;rw [List.length_cons];omega) sbA rfl (fun w h=>by
        dsimp only
        exact St.sub ((h.del b10).perm (Zdk [_,_,_,_] (bd0,_) qw.G (mkh mk) H)))
    exact absurd hc1 (by simp)
   try simp only [cS] at g42
   have hpl:pend=[]:=List.length_eq_zero_iff.1 (by omega)
   refine pur 4 rfl ?_
   refine Zq rfl ?_
   refine Z7 (Z9 (Z9 (Zk (Z0 (sqt 3 rfl (sp rfl (PE.fA Z32 rfl) rfl (spL rfl rfl (lh (v:=.bool false) sc4 rfl rfl) rfl (pur 1 rfl ?_))))))))
   refine Z2 rfl ?_ ?_<;>intro hc5
   refine sqt 2 rfl (pur 2 rfl (Z4 ?_))
   refine Sy.heap (H':=mkh mk++H) (R':=R) (fun w h=>St.sub (St.drop (G:=q.G) ((((h.del b9).del b8).del m26).del b2))) ?_
   exact ZO mk idH rfl (.cons (RV.tmp rfl) (.cons (RV.tmp rfl) .nil)) rfl ⟨rfl,.inl ⟨rfl,rfl⟩⟩ idH
   exact absurd hc5 (by simp)
end Go.Proofs.YtcfdanhklbklkaaGreat.Tu
namespace Go.Proofs.YtcfdanhklbklkaaGreat
set_option linter.unusedSimpArgs false
set_option linter.unusedVariables false
open Go
theorem Zjp:cal Tryz.prog 31=true:=by kernel_rfl
theorem Zjq:cal Tryz.prog 32=true:=by kernel_rfl
theorem Zhs:cal Tryz.prog 33=true:=by kernel_rfl
theorem Zjr:cal Tryz.prog 34=true:=by kernel_rfl
theorem Zjs:cal Tryz.prog 35=true:=by kernel_rfl
theorem Z1q:elN Tryz.prog 23=some 1:=by kernel_rfl
theorem ZD:Z2y Tryz.prog 23=true:=by kernel_rfl
theorem Zky:ZP Tryz.prog 95=some [(0,1),(1,1),(2,1)]:=by kernel_rfl
theorem Zim:ZP Tryz.prog 97=some [(0,1),(1,1)]:=by kernel_rfl
theorem sc3:Z0h Tryz.prog 3=true:=by kernel_rfl
theorem Z18:slE Tryz.prog 23=some (3,1):=by kernel_rfl
theorem ZkA:slE Tryz.prog 92=some (97,2):=by kernel_rfl
theorem zl3:Zr Tryz.prog 3=some ([.int .i64 0]):=by kernel_rfl
theorem ZkB:Zr Tryz.prog 95=some ([.int .i64 0,.slice none 0 0,.slice none 0 0]):=by kernel_rfl
theorem ZbW:Zr Tryz.prog 97=some ([.int .i64 0,.int .i64 0]):=by kernel_rfl
namespace Wv
def tri:Hse:=⟨3,[⟨0,1⟩,⟨1,2⟩,⟨2,0⟩],[]⟩
theorem tri_ok:tri.ok:=by
 refine ⟨by decide,by decide,by decide,?_,fun s hs=>(by cases hs)⟩
 intro g hg
 simp only [tri,List.mem_cons,List.not_mem_nil,or_false] at hg
 rcases hg with rfl | rfl | rfl<;>decide
theorem tri_bot:tri.botE [0] [2]=0:=by decide
theorem tri_cut {X:Nat} (h:Shut tri.gaps (msk (cutM X tri.gaps)) (msk [0]) (msk [2])):(cutM X tri.gaps).length=2∧(cutM X tri.gaps)[1]?=some 2:=by
 have h1:=h 1 2
 revert h1
 have e:cutM X tri.gaps=((List.range 3).filter fun i=>match i with | 0=>X.testBit 0 != X.testBit 1 | 1=>X.testBit 1 != X.testBit 2 | 2=>X.testBit 2 != X.testBit 0 | _=>false).map fun (i:Nat)=>(i:Int):=by
   unfold cutM
   congr 1
 rw [e]
 generalize X.testBit 0=a
 generalize X.testBit 1=b
 generalize X.testBit 2=c
 cases a<;>cases b<;>cases c<;>decide
end Wv
set_option maxHeartbeats 400000 in
theorem Z2q (H:Z8) (R:Z5) :
    FnV Tryz.prog 9 [] H R (.bool true):=by
 refine Ze Tryz.func9 rfl Tryz.ntmps9 rfl ?_
 refine sqt 1 rfl (pur 1 rfl (sqt 7 rfl ?_))
 refine cl rfl Zjq rfl rfl (Ht.c_Three 3 (by decide) _ _) ?_
 rintro _ _ _ ⟨ba8,rfl,rfl,rfl⟩
 refine cl rfl Zjp rfl rfl (Ht.c_First (Ht.thr 3) (some ⟨ba8,0,none⟩) 3 (by decide) rfl _ _) ?_
 rintro _ _ R1 ⟨hQ,rfl,hR1⟩
 obtain rfl:=hR1.symm
 rcases hQ with ⟨hne,_⟩ | ⟨_,w,hw,rfl⟩
 exact absurd Ht.ex_c.2 hne
 obtain rfl:=Ht.kpt_unique hw (.inr ⟨3,by decide,rfl,Ht.ex_f.1,Ht.ex_f.2⟩)
 refine pur 5 rfl (sqt 13 rfl (sp rfl (PE.build (out:=[_,_]) Zim ZbW rfl rfl) rfl (sp rfl (PE.build (out:=[_,_]) Zim ZbW rfl rfl) rfl (sp rfl (PE.build (out:=[_,_]) Zim ZbW rfl rfl) rfl ?_))))
 refine bsl (out:=[_,_,_,_,_,_]) rfl ZkA ZbW rfl rfl rfl rfl rfl rfl (fun b16=>?_)
 refine sp rfl (PE.build (out:=[_,_,_]) Zky ZkB rfl rfl) rfl ?_
 refine bsl (out:=[_]) rfl Z18 zl3 rfl rfl rfl rfl rfl rfl (fun b18=>?_)
 refine bsl (out:=[_]) rfl Z18 zl3 rfl rfl rfl rfl rfl rfl (fun b19=>?_)
 refine Sy.heap (fun w h9=>St.rows (b:=b18) (sz:=1) (rows:=Wv.irows [0]) (rest:=[]) (h9.pull b18) (by simp [Wv.irows])) ?_
 refine Sy.heap (fun w h9=>St.rows (b:=b19) (sz:=1) (rows:=Wv.irows [2]) (rest:=[]) (h9.pull b19) (by simp [Wv.irows])) ?_
 refine Sy.heap (fun w h9=>St.rows (b:=b16) (sz:=2) (rows:=Wv.grows Wv.tri.gaps) (rest:=[]) (h9.pull b16) (by simp [Wv.grows,Wv.grow,Wv.tri])) ?_
 refine Sy.heap (fun w h9=>h9.also (f:=RowsA none 3 (Wv.srows Wv.tri.sights)) (fun w2 _ i row hi=>by simp [Wv.tri,Wv.srows] at hi)) ?_
 refine cl rfl Zhs rfl rfl (Wv.c_CutK Wv.tri (some ⟨b16,0,none⟩) none 3 0 Wv.tri_ok [0] [2] (some ⟨b18,0,none⟩) (some ⟨b19,0,none⟩) 1 1 (by decide) (by decide) (by decide) (by decide) Wv.tri_bot _ _) ?_
 rintro _ _ R1 ⟨X,ac,cc,_,hsh,_,rfl,rfl,hR1⟩
 obtain rfl:=hR1.symm
 clear hR1
 obtain ⟨hl2,hg2⟩:=Wv.tri_cut hsh
 rw [hl2]
 refine pur 5 rfl (sqt 8 rfl ?_)
 refine bsl (out:=[_]) rfl Z18 zl3 rfl rfl rfl rfl rfl rfl (fun b24=>?_)
 refine Sy.heap (fun w h9=>St.rows (b:=b24) (sz:=1) (rows:=Tu.irows [50]) (rest:=[]) (h9.pull b24) (by simp [Tu.irow])) ?_
 refine cl rfl Zjs rfl rfl (Tu.c_Three8 (some ⟨b24,0,none⟩) 1 _ _) ?_
 rintro _ _ _ ⟨aa,ab,ca,cb,rfl,hcb,rfl,rfl⟩
 refine cl rfl Zjr rfl rfl (Tu.c_Fewest Tu.y3 aa ab ca cb Tu.y3_ok hcb ⟨3,Tu.fw3_path⟩ _ _) ?_
 rintro _ _ R1 ⟨n,rfl,hfw,rfl,hR1⟩
 obtain rfl:=hR1.symm
 clear hR1
 obtain rfl:=Tu.fw3_is hfw
 refine pur 5 rfl (sqt 30 rfl (pur 1 rfl ?_))
 refine Zi (a:=ac) (sz:=1) (rows:=Wv.irows (Wv.cutM X Wv.tri.gaps)) (by intro h0;have:=congrArg List.length h0;rw [Wv.irl,hl2] at this;simp at this) (fun bp op he=>?_)
 subst he
 refine pur 2 rfl ?_
 refine Zv 31 rfl ?_ ?_<;>intro g31
 refine pur 4 rfl ?_
 refine Zv 35 rfl ?_ ?_<;>intro g35
 refine pur 4 rfl ?_
 refine Zv 39 rfl ?_ ?_<;>intro g39
 refine pur 4 rfl ?_
 refine Zv 43 rfl ?_ ?_<;>intro g43
 refine pur 1 rfl ?_
 refine spG rfl rfl rfl rfl (PE.lenSl ZD rfl) rfl ?_
 refine pur 3 rfl ?_
 refine Zv 48 rfl ?_ ?_<;>intro g48
 refine pur 1 rfl ?_
 refine spG rfl rfl rfl rfl (PE.indexAddr Z1q rfl rfl (by decide) (by decide)) rfl ?_
 refine Z0E rfl rfl rfl rfl rfl (lf0 (i:=1) (rows:=Wv.irows (Wv.cutM X Wv.tri.gaps)) (row:=[.int .i64 2]) sc3 (Wv.ir_get hg2) rfl) rfl (pur 3 rfl ?_)
 refine Zv 54 rfl ?_ ?_<;>intro g54
 refine pur 4 rfl (Z4 ?_)
 exact rtA rfl rfl rfl ⟨rfl,rfl,rfl⟩ (fun w h=>St.sub h)
 exact absurd g54 (by simp)
 exact absurd g48 (by simp)
 exact absurd g43 (by simp)
 exact absurd g39 (by simp)
 exact absurd g35 (by simp)
 exact absurd g31 (by simp)
namespace Ht
theorem Z9l (p:List (List Nat)):∀ n,Z0P (p.take n)≤Z0P p:=by
 induction p with
 | nil=>intro n;rw [List.take_nil];exact Nat.le_refl _
 | cons l p ih =>
   intro n
   cases n with
   | zero=>exact Nat.zero_le _
   | succ n =>
     rw [List.take_succ_cons]
     have:=ih n
     show l.length+Z0P (p.take n)≤l.length+Z0P p
     omega
theorem round_law {b:Barn} (hok:b.ok) (hck:b.check=0) {p:List (List Int)} (hp:planErr b.bins.length b.gangs p=0) :
   b.planned p=0∧((brnQ b p).2.2=true↔∃ k,k<b.bins.length∧∃ d,d<p.length∧hotW b b.warms p k d) ∧
   ((brnQ b p).2.2=false→(∀ m,Kpt b.dsk b.state m→(p.length:Int)≤m)∧Z15 b (min p.length 20:Nat)=0∧Z28 b (min p.length 20:Nat)≤lenS p):=by
 refine ⟨by unfold Barn.planned;rw [hck];exact hp,?_,fun hf=>?_⟩
 · rcases Barn.burns_spec (b:=b) p b.warms 0 with ⟨h1,h2⟩ | ⟨k,e,h1,h2,h3,h4,_⟩
   · unfold brnQ;rw [h1]
     exact ⟨fun h=>(by cases h),fun ⟨k,hk,d,hd,h⟩=>absurd h (h2 k hk d hd)⟩
   · unfold brnQ;rw [h1]
     exact ⟨fun _=>⟨k,h2,e,h3,h4⟩,fun _=>rfl⟩
 · obtain ⟨hl,q,rfl,htr⟩:=Z7L (d:=b.dsk) hp
   have hbn:=brn_iff.1 hf
   have hpth:∀ q:List (List Nat),(∀ l∈q,l∈b.dsk.trs false)→(b.burnsF b.warms (q.map il) 0).1=none→∃ t,b.dsk.pth q.length b.state t (Z0P q):=fun q hq hn=>by
     rcases Barn.run_burns hok q b.warms 0 (Cool.start hok) (fun l hl=>b.dsk.trs_lt (hq l hl)) with ⟨ws,_,h4,_⟩ | ⟨x,ws,h3,_⟩
     · rw [Barn.stw_warms hok] at h4
       exact ⟨_,Dsk.run_pth hq h4⟩
     · rw [h3] at hn;cases hn
   obtain ⟨t,ht⟩:=hpth q htr hbn
   refine ⟨fun m hm=>?_,?_⟩
   · rw [List.length_map] at hl ⊢
     rcases (Zfo (b.dsk_ok hok) (b.state_inS hok) hm q.length).1 ⟨_,_,ht⟩ with h1 | h1
     · omega
     · exact h1
   · rw [List.length_map]
     have h1:(b.burnsF b.warms ((q.take (min q.length 20)).map il) 0).1=none:=by
       have h2:=hbn
       rw [← List.take_append_drop (min q.length 20) q,List.map_append] at h2
       exact Z9K h2
     obtain ⟨u,hu⟩:=hpth (q.take (min q.length 20)) (fun l hl=>htr l (List.mem_of_mem_take hl)) h1
     rw [List.length_take,show min (min q.length 20) q.length=min q.length 20 by omega] at hu
     rcases Z9b hok hck (n:=min q.length 20) (by omega) with ⟨_,_,h2⟩ | ⟨c,p2,h2,h3,_,h4⟩
     · exact absurd ⟨_,_,hu⟩ h2
     · have h5:=h4.few.le _ _ hu
       have h6:=Z9l q (min q.length 20)
       rw [Zfq,h3]
       exact ⟨h2,by omega⟩
end Ht
theorem Z54:Z2a Tryz.prog 108=some 3:=by kernel_rfl
theorem Z65:Z2a Tryz.prog 26=some 2:=by kernel_rfl
theorem Z62:apT Tryz.prog 23=some (3,1,8):=by kernel_rfl
theorem ZkG:apT Tryz.prog 24=some (108,3,24):=by kernel_rfl
theorem Z4B:cal Tryz.prog 15=true:=by kernel_rfl
theorem Z30:cal Tryz.prog 21=true:=by kernel_rfl
theorem Zhr:cal Tryz.prog 29=true:=by kernel_rfl
theorem Zjo:cal Tryz.prog 30=true:=by kernel_rfl
theorem Z6f:ZF Tryz.prog 108=some 3:=by kernel_rfl
theorem ZeW:ZF Tryz.prog 23=some 1:=by kernel_rfl
theorem ZkO:ZF Tryz.prog 24=some 1:=by kernel_rfl
theorem ZiO:ZF Tryz.prog 26=some 2:=by kernel_rfl
theorem cn3:ZF Tryz.prog 3=some 1:=by kernel_rfl
theorem Z44:ZY Tryz.prog 108 0=some 0:=by kernel_rfl
theorem Z0d:ZY Tryz.prog 108 2=some 2:=by kernel_rfl
theorem Z0K:ZY Tryz.prog 26 0=some 0:=by kernel_rfl
theorem Z0i:ZY Tryz.prog 26 1=some 1:=by kernel_rfl
theorem Z9a:ZP Tryz.prog 108=some [(0,1),(1,1),(2,1)]:=by kernel_rfl
theorem Z26:Z0h Tryz.prog 23=true:=by kernel_rfl
theorem Z6Q:Z0h Tryz.prog 24=true:=by kernel_rfl
theorem ZiY:slE Tryz.prog 24=some (108,3):=by kernel_rfl
theorem Z2k:Zr Tryz.prog 108=some ([.int .i64 0,.int .i64 0,.int .i64 0]):=by kernel_rfl
theorem Zga:Zr Tryz.prog 26=some ([.slice none 0 0,.slice none 0 0]):=by kernel_rfl
namespace Tu
structure MdL (sz:List Int) (sh to:List Nat) (k:Nat) (lots:List TLot):Prop where
 len:lots.length=k
 at_:∀ (i:Nat) (x:TLot),lots[i]?=some x→∃ a t:Nat,sh[i]?=some a∧to[i]?=some t∧x.in_=(a:Int)∧(1≤x.sk∧x.sk≤na sz a)∧(x.to = -1∨x.to=(t:Int)∧x.sk≤na sz t)
theorem MdL.nil (sz:List Int) (sh to:List Nat):MdL sz sh to 0 []:=⟨rfl,fun i x h=>by cases h⟩
theorem MdL.more {sz:List Int} {sh to:List Nat} {k a t:Nat} {lots:List TLot} (h:MdL sz sh to k lots) (ha:sh[k]?=some a) (ht:to[k]?=some t) {s z:Int} (hs:1≤s∧s≤na sz a) (hz:z = -1∨z=(t:Int)∧s≤na sz t):MdL sz sh to (k+1) (lots++[⟨s,(a:Int),z⟩]):=by
 refine ⟨by rw [List.length_append,h.len];rfl,fun i x hx=>?_⟩
 rw [List.getElem?_append] at hx
 split at hx
 · exact h.at_ i x hx
 · rename_i e
   have h1:=(List.getElem?_eq_some_iff.1 hx).1
   rw [List.length_singleton] at h1
   have hl:=h.len
   obtain rfl:i=k:=by omega
   rw [hl,Nat.sub_self] at hx
   cases hx
   exact ⟨a,t,ha,ht,rfl,hs,hz⟩
theorem Ze7 {l:List Nat} (h:l.Nodup) {i j a:Nat} (hi:l[i]?=some a) (hj:l[j]?=some a):i=j:=by
 obtain ⟨h1,h2⟩:=List.getElem?_eq_some_iff.1 hi
 obtain ⟨h3,h4⟩:=List.getElem?_eq_some_iff.1 hj
 exact (List.getElem_inj h).1 (h2.trans h4.symm)
theorem md_ok {sz:List Int} {sh to:List Nat} {k:Nat} {lots:List TLot} (hn:1≤sz.length∧sz.length≤5) (hz:∀ x∈sz,20≤x∧x≤60) (hs:Ht.Ord sh sz.length) (ht:Ht.Ord to sz.length) (hk:k≤4) (h:MdL sz sh to k lots):TBn.ok ⟨sz,lots⟩:=by
 have hna:∀ a:Nat,a<sz.length→20≤na sz a∧na sz a≤60:=fun a ha=>hz _ (List.mem_of_getElem? (na_get ha))
 have hlen:=h.len
 have key:∀ (i:Nat) (x:TLot),lots[i]?=some x→∃ a t:Nat,(sh[i]?=some a∧to[i]?=some t)∧(a<sz.length∧t<sz.length)∧x.in_=(a:Int)∧(1≤x.sk∧x.sk≤na sz a)∧(x.to = -1∨x.to=(t:Int)∧x.sk≤na sz t):=fun i x hx=>by
   obtain ⟨a,t,h1,h2,h3⟩:=h.at_ i x hx
   exact ⟨a,t,⟨h1,h2⟩,⟨hs.lt a (List.mem_of_getElem? h1),ht.lt t (List.mem_of_getElem? h2)⟩,h3⟩
 refine ⟨⟨hn.1,by show sz.length≤7;omega⟩,by show lots.length≤6;omega,fun x hx=>?_,fun x hx=>?_,fun x hx=>?_,fun i j x z hx hz2 hij=>?_,fun i x hx=>?_⟩
 · have:=hz x hx;omega
 · obtain ⟨i,hi⟩:=List.getElem?_of_mem hx
   obtain ⟨a,t,_,h2,_,h4,_⟩:=key i x hi
   have:=hna a h2.1
   omega
 · obtain ⟨i,hi⟩:=List.getElem?_of_mem hx
   obtain ⟨a,t,_,h2,h3,_,h5⟩:=key i x hi
   show (0≤x.in_∧x.in_<(sz.length:Int))∧(x.to = -1∨0≤x.to∧x.to<(sz.length:Int))
   omega
 · obtain ⟨a,t,h1,h2,h3,_,h5⟩:=key i x hx
   obtain ⟨a',t',k1,k2,k3,_,k5⟩:=key j z hz2
   refine ⟨fun e=>?_,fun e=>?_⟩
   · obtain rfl:a=a':=by omega
     have:=Ze7 hs.nd h1.1 k1.1
     omega
   · rcases h5 with h5 | ⟨h5,_⟩
     · exact h5
     · rcases k5 with k5 | ⟨k5,_⟩
       · omega
       · obtain rfl:t=t':=by omega
         have:=Ze7 ht.nd h1.2 k1.2
         omega
 · obtain ⟨a,t,h1,h2,h3,h4,h5⟩:=key i x hx
   have e:TBn.lot ⟨sz,lots⟩ i=x:=TBn.lot_of hx
   refine ⟨?_,fun hne=>?_⟩
   · unfold TBn.fits
     rw [e,h3,Int.toNat_natCast]
     exact decide_eq_true h4.2
   · rcases h5 with h5 | ⟨h5,h6⟩
     · exact absurd h5 hne
     · unfold TBn.fits
       rw [e,h5,Int.toNat_natCast]
       exact decide_eq_true h6
theorem wk_by {ed:Edg}:∀ {l:List Rec} {x z:List Int},Wk ed x l z→∀ r∈l,∃ p,r.by_∈ed p
 | [],_,_,_,r,hr=>by cases hr
 | q::l,x,z,h,r,hr=>by
   rcases List.mem_cons.1 hr with rfl | hr
   · exact ⟨x,h.2.1⟩
   · exact wk_by h.2.2.2 r hr
def dayT (l:List (Int×Int)):List Int:=l.map (·.1)
theorem Zf7 {b:TBn} {g:Nat} {p:List Int} {l:List (Int×Int)} (h:l∈edR b g p):Ht.dayErr b.lots.length g (dayT l)=0:=by
 obtain ⟨q,hg⟩:=Z8c h
 unfold Ht.dayErr
 have e1:((dayT l).all fun k=>Ht.inB k 0 ((b.lots.length:Int)-1))=true:=by
   rw [List.all_eq_true]
   intro x hx
   obtain ⟨t,ht,rfl⟩:=List.mem_map.1 hx
   obtain ⟨i,k,rfl,_,hi,_⟩:=hg.lt t ht
   simp [Ht.inB];omega
 have e2:Ht.sinc (dayT l)=true:=Ht.sinc_yes fun i x y hx hy=>by
   have hi:=(List.getElem?_eq_some_iff.1 hx).1
   have hj:=(List.getElem?_eq_some_iff.1 hy).1
   have hp:(dayT l).Pairwise (· < ·):=by unfold dayT;rw [List.pairwise_map];exact hg.up
   have:=List.pairwise_iff_getElem.1 hp i (i+1) hi hj (by omega)
   rw [(List.getElem?_eq_some_iff.1 hx).2,(List.getElem?_eq_some_iff.1 hy).2] at this
   exact this
 have hf:=hg.few
 have e3:(dayT l).length=l.length:=List.length_map _
 rw [e1,e2,e3,decide_eq_false (by omega)];rfl
def dysT (l:List Rec):List (List Int):=l.map fun r=>dayT r.by_
theorem Z6k {n g:Int}:∀ {p:List (List Int)},(∀ l∈p,Ht.dayErr n g l=0)→Ht.daysErr n g p=0
 | [],_=>rfl
 | l::p,h=>by
   unfold Ht.daysErr
   rw [decide_eq_true (h l (by simp)),cond_true]
   exact Z6k fun x hx=>h x (by simp [hx])
theorem wk_plan {b:TBn} {g:Nat} {l:List Rec} {x z:List Int} (h:Wk (edR b g) x l z) (hl:l.length≤20000):Ht.planErr b.lots.length g (dysT l)=0:=by
 unfold Ht.planErr
 rw [decide_eq_false (by unfold dysT;rw [List.length_map];omega),cond_false]
 refine Z6k fun d hd=>?_
 obtain ⟨r,hr,rfl⟩:=List.mem_map.1 hd
 obtain ⟨p,hp⟩:=wk_by h r hr
 exact Zf7 hp
theorem rounds_few {b:TBn} (hb:b.ok) (h5:b.sizes.length≤5) (h4:b.lots.length≤4) {g:Nat} (hg:1≤g) {ws pend:List Rec} {last:Rec} (h:BI (edR b g) b.mds b.first ws (last::pend)) (hm:b.mds last.q=true):last.d≤17:=by
 obtain ⟨c,hc,hp⟩:=Z94 hb h5 h4 hg (h.path last.d last (h.pn last (by simp)) rfl)
 have:=h.least hp hm
 omega
end Tu
namespace Tu
theorem sm_get {l:List Nat} {k u:Nat} (h:l[k]?=some u):(Ht.irows (l.map fun (j:Nat)=>(j:Int)))[k]?=some [.int .i64 (u:Int)]:=Ht.ir_get (l:=l.map fun (j:Nat)=>(j:Int)) (by rw [List.getElem?_map,h];rfl)
theorem sm_len (l:List Nat):(Ht.irows (l.map fun (j:Nat)=>(j:Int))).length=l.length:=by rw [List.length_map,List.length_map]
end Tu
set_option maxHeartbeats 1000000 in
theorem ZeI (g:List Int) (ag:Option Addr) (cg bk:Nat) (hgl:g.length≤9223372036854775807) (tq mx:Int) (htq:0≤tq∧tq≤1000) (hmx:0≤mx∧mx≤4294967295) (H:Z8) (R:Z5) [hG:MemRows ag 1 (Ht.urows g) R] :
    Fn Tryz.prog 6 [.pointer (some ⟨bk,0,none⟩),.int .i64 5,.int .i64 4,.bool false] ((bk,cel 111 [.slice ag g.length cg,.int .i64 (tq),.int .u32 (mx)])::H) R (fun v H' R'=>∃ (y:Tu.TBn) (a1 a2:Option Addr) (k1 k2:Nat) (tq' mx':Int),y.ok∧(y.sizes.length≤5∧y.lots.length≤4∧y.lots.length≤k2)∧v=y.v a1 a2 k1 k2∧H'=(bk,cel 111 [.slice ag g.length cg,.int .i64 (tq'),.int .u32 (mx')])::H∧R'=RowsA a2 3 (Tu.trows y.lots)::RowsA a1 1 (Tu.irows y.sizes)::R):=by
 refine Ze Tryz.func6 rfl Tryz.ntmps6 rfl ?_
 refine sqt 1 rfl (alc rfl Zga rfl (fun b8=>sqt 1 rfl (alc rfl Zga rfl (fun b9=>Z0 (sqt 4 rfl (pur 2 rfl ?_))))))
 refine ZG bk ?_
 refine cl rfl Z4B rfl rfl (Ht.c_Among g ag cg bk hgl _ _ (by omega) (by assumption) (2) (5) (by omega) _ _) ?_
 rintro _ _ R1 ⟨x18,m18,hx18,rfl,hm18,rfl,hR1⟩
 obtain rfl:=hR1.symm
 clear hR1
 refine pur 1 rfl (Z3 ?_)
 obtain ⟨n,rfl⟩:∃ n:Nat,x18=n:=⟨x18.toNat,by omega⟩
 refine Zd (ι:=(x:{x:Nat×List Int×Int×Int // x.1≤n∧x.2.1.length=x.1∧(∀ v∈x.2.1,20≤v∧v≤60)∧(tq≤x.2.2.1∧x.2.2.1≤tq+1+x.1)∧(0≤x.2.2.2∧x.2.2.2≤4294967295)})×OSl 3 1 (Tu.irows x.1.2.1)) (fun x=>⟨[(0,.pointer (some ⟨bk,0,none⟩)),(2,.int .i64 4),(3,.bool false),(8,.pointer (some ⟨b8,0,none⟩)),(9,.pointer (some ⟨b9,0,none⟩)),(18,.int .i64 (n:Int)),(19,.int .i64 (x.1.1.1:Int))],(bk,cel 111 [.slice ag g.length cg,.int .i64 (x.1.1.2.2.1),.int .u32 (x.1.1.2.2.2)])::(x.2.G++(b9,cel 26 [x.2.fs,.slice none 0 0])::(b8,cel 26 [.slice none 0 0,.slice none 0 0])::H),R⟩) (fun x=>n-x.1.1.1) ⟨⟨(0,[],tq+1,m18),Nat.zero_le _,rfl,by simp,by dsimp only;omega,by assumption⟩,OSl.nil _ _⟩ ?_ (fun x=>?_)
 exact Zj idH
 obtain ⟨⟨⟨i,sz,tq2,mx2⟩,hi,hsl,hz,htq2,hmx2⟩,o⟩:=x
 dsimp only at hi hsl hz htq2 hmx2 o ⊢
 refine sqt 1 rfl (pur 1 rfl (Z0 ?_))
 refine Z2 rfl ?_ ?_<;>intro hc0<;>try simp only [cS] at hc0
 refine Z1 (Z0 (Z3 ?_))
 refine Zb [0,1,0,4,12,31,63,127] (.tk 0 (.ld 1 (.tk 2 (.big 3 (.big 4 (.big 5 (.tk 6 (.big 7 .done)))))))) Zo (by kernel_rfl) ?_
 refine tk rfl (PE.fA Z0K rfl) rfl (ld rfl rfl (lh (v:=o.fs) Z26 rfl rfl) rfl (Zl 1 rfl ?_))
 refine ZG bk ?_
 refine cl rfl Z4B rfl rfl (Ht.c_Among g ag cg bk hgl _ _ (by omega) (by assumption) (20) (60) (by omega) _ _) ?_
 rintro _ _ R1 ⟨x24,m24,hx24,rfl,hm24,rfl,hR1⟩
 obtain rfl:=hR1.symm
 clear hR1
 refine bg (fun w hs=>⟨(lh (v:=o.fs) Z26 rfl rfl) w hs,trivial⟩) ?_
 refine bsl (out:=[_]) rfl Z18 zl3 rfl rfl rfl rfl rfl rfl (fun b25=>?_)
 refine bg (fun w hs=>⟨(lh (v:=o.fs) Z26 rfl rfl) w hs,trivial⟩) ?_
 refine apO (o) rfl Z62 rfl rfl (Z0B (row:=Tu.irow x24) rfl) rfl rfl ((by simp only [List.length_map,List.length_singleton];omega)) rfl (fun o26=>?_)
 refine bgT (tk rfl (PE.fA Z0K rfl) rfl ?_)
 refine ZH (l':=[o26.fs,.slice none 0 0]) rfl rfl rfl ZeW rfl (by rw [o26.cells.1];first | done | rfl) (by rw [o26.cells.1];simp [o26.cells.2]) (by rw [o26.cells.1];first | done | rfl) (by rw [o26.cells.1];first | done | exact Nat.le_of_ble_eq_true rfl) ?_
 refine bgT (sqr 2 rfl (sp rfl (PE.add rfl rfl (by omega)) rfl (pur 1 rfl ?_)))
 exact Zx ⟨⟨(i+1,sz++[x24],tq2+1,m24),by dsimp only;omega,by dsimp only;rw [List.length_append,hsl];rfl,fun v hv=>by
   rcases List.mem_append.1 hv with h1 | h1
   · exact hz v h1
   · rw [List.mem_singleton.1 h1];omega,by dsimp only;omega,by assumption⟩,o26.cast (by simp [Tu.irows])⟩ (by dsimp only;omega) sbA (fun w h=>h.del b25)
 obtain rfl:i=n:=by omega
 obtain rfl:i=sz.length:=by omega
 obtain ⟨a1,k1,he,hk1,hf⟩:=o.freezeC
 rw [show (Tu.irows sz).length=sz.length from List.length_map _] at hk1
 rw [he,show (Tu.irows sz).length=sz.length from List.length_map _]
 refine Sy.heap (H':=(bk,cel 111 [.slice ag g.length cg,.int .i64 (tq2),.int .u32 (mx2)])::(b9,cel 26 [.slice a1 sz.length k1,.slice none 0 0])::(b8,cel 26 [.slice none 0 0,.slice none 0 0])::H) (fun w h=>hf (h.perm (List.perm_middle (l₁:=o.G) (a:=_)).symm)) ?_
 clear he hf
 refine Z7 (Z9 (Z9 (Zk (sqt 9 rfl (pur 2 rfl (sp rfl (PE.fA Z0K rfl) rfl (spL rfl rfl (lh (v:=.slice a1 sz.length k1) Z26 rfl rfl) rfl (sp rfl (PE.lenSl ZD rfl) rfl (sp rfl (PE.min rfl rfl) rfl (sp rfl (PE.add rfl rfl (by omega)) rfl ?_))))))))))
 refine ZG bk ?_
 refine cl rfl Z30 rfl rfl (Ht.c_Below g ag cg bk hgl _ _ (by omega) (by assumption) (min 4 (sz.length:Int)+1) _ _) ?_
 rintro _ _ R1 ⟨x36,m36,hx36,rfl,hm36,rfl,hR1⟩
 obtain rfl:=hR1.symm
 clear hR1
 obtain ⟨m,rfl⟩:∃ m:Nat,x36=m:=⟨x36.toNat,by omega⟩
 have hm4:m≤4∧m≤sz.length:=by omega
 refine pur 1 rfl (Z0 (sqt 1 rfl (pur 1 rfl ?_)))
 refine Z2 rfl ?_ ?_<;>intro hc1
 exact absurd hc1 (by decide)
 refine Z1 (sqt 6 rfl (pur 1 rfl (sp rfl (PE.fA Z0K rfl) rfl (spL rfl rfl (lh (v:=.slice a1 sz.length k1) Z26 rfl rfl) rfl (sp rfl (PE.lenSl ZD rfl) rfl ?_)))))
 refine ZG bk ?_
 refine cl rfl Zhr rfl rfl (Ht.c_Shuffle g ag cg bk hgl _ _ (by omega) (by assumption) sz.length (by omega) _ _) ?_
 rintro _ _ R1 ⟨to,o59,tq59,mx59,hto,rfl,htq59,hmx59,rfl,hR1⟩
 obtain rfl:=hR1.symm
 clear hR1
 have hlto:=hto.len
 obtain ⟨at1,ct1,he,hct1,hf⟩:=o59.freezeC
 rw [Tu.sm_len,hlto] at hct1
 rw [he,Tu.sm_len,hlto]
 refine Sy.heap (H':=(bk,cel 111 [.slice ag g.length cg,.int .i64 (tq59),.int .u32 (mx59)])::(b9,cel 26 [.slice a1 sz.length k1,.slice none 0 0])::(b8,cel 26 [.slice none 0 0,.slice none 0 0])::H) (fun w h=>hf (h.perm (List.perm_middle (l₁:=o59.G) (a:=_)).symm)) ?_
 clear he hf
 refine pur 1 rfl (Z0 (sqt 9 rfl (pur 1 rfl (sp rfl (PE.fA Z0K rfl) rfl (spL rfl rfl (lh (v:=.slice a1 sz.length k1) Z26 rfl rfl) rfl (sp rfl (PE.lenSl ZD rfl) rfl ?_))))))
 refine ZG bk ?_
 refine cl rfl Zhr rfl rfl (Ht.c_Shuffle g ag cg bk hgl _ _ (by omega) (by assumption) sz.length (by omega) _ _) ?_
 rintro _ _ R1 ⟨sh,o64,tq64,mx64,hsh,rfl,htq64,hmx64,rfl,hR1⟩
 obtain rfl:=hR1.symm
 clear hR1
 have hlsh:=hsh.len
 obtain ⟨as1,cs1,he,hcs1,hf⟩:=o64.freezeC
 rw [Tu.sm_len,hlsh] at hcs1
 rw [he,Tu.sm_len,hlsh]
 refine Sy.heap (H':=(bk,cel 111 [.slice ag g.length cg,.int .i64 (tq64),.int .u32 (mx64)])::(b9,cel 26 [.slice a1 sz.length k1,.slice none 0 0])::(b8,cel 26 [.slice none 0 0,.slice none 0 0])::H) (fun w h=>hf (h.perm (List.perm_middle (l₁:=o64.G) (a:=_)).symm)) ?_
 clear he hf
 refine pur 1 rfl (sp rfl (PE.slHi (h:=m) Z18 rfl rfl (by omega)) rfl (sp rfl (PE.lenSl ZD rfl) rfl (pur 1 rfl (Z3 ?_))))
 refine Zd (ι:=(x:{x:Nat×List Tu.TLot×Int×Int // x.1≤m∧Tu.MdL sz sh to x.1 x.2.1∧(tq64≤x.2.2.1∧x.2.2.1≤tq64+2*x.1)∧(0≤x.2.2.2∧x.2.2.2≤4294967295)})×OSl 108 3 (Tu.trows x.1.2.1)) (fun x=>⟨[(0,.pointer (some ⟨bk,0,none⟩)),(8,.pointer (some ⟨b8,0,none⟩)),(9,.pointer (some ⟨b9,0,none⟩)),(12,.slice at1 sz.length ct1),(66,.slice as1 m cs1),(67,.int .i64 (m:Int)),(68,.int .i64 (x.1.1.1:Int))],(bk,cel 111 [.slice ag g.length cg,.int .i64 (x.1.1.2.2.1),.int .u32 (x.1.1.2.2.2)])::(x.2.G++(b9,cel 26 [.slice a1 sz.length k1,x.2.fs])::(b8,cel 26 [.slice none 0 0,.slice none 0 0])::H),RowsA as1 1 (Ht.irows (sh.map fun (j:Nat)=>(j:Int)))::RowsA at1 1 (Ht.irows (to.map fun (j:Nat)=>(j:Int)))::RowsA a1 1 (Tu.irows sz)::R⟩) (fun x=>m-x.1.1.1) ⟨⟨(0,[],tq64,mx64),Nat.zero_le _,Tu.MdL.nil _ _ _,by dsimp only;omega,by assumption⟩,OSl.nil _ _⟩ ?_ (fun x=>?_)
 exact Zj idH
 obtain ⟨⟨⟨k,lots,tq3,mx3⟩,hk,hmd,htq3,hmx3⟩,o⟩:=x
 dsimp only at hk hmd htq3 hmx3 o ⊢
 have hll:=hmd.len
 refine sqt 1 rfl (pur 1 rfl (Z0 ?_))
 refine Z2 rfl ?_ ?_<;>intro hc3<;>try simp only [cS] at hc3
 obtain ⟨a,ha⟩:∃ a,sh[k]?=some a:=⟨_,List.getElem?_eq_getElem (by omega)⟩
 obtain ⟨t,ht⟩:∃ t,to[k]?=some t:=⟨_,List.getElem?_eq_getElem (by omega)⟩
 have hal:=hsh.lt a (List.mem_of_getElem? ha)
 have htl:=hto.lt t (List.mem_of_getElem? ht)
 have hza:=hz _ (List.mem_of_getElem? (Tu.na_get hal))
 have hzt:=hz _ (List.mem_of_getElem? (Tu.na_get htl))
 refine Zi (a:=as1) (sz:=1) (rows:=Ht.irows (sh.map fun (j:Nat)=>(j:Int))) (Tu.ne_of_get (Tu.sm_get ha)) (fun bp1 op1 he1=>?_)
 subst he1
 refine Zi (a:=at1) (sz:=1) (rows:=Ht.irows (to.map fun (j:Nat)=>(j:Int))) (Tu.ne_of_get (Tu.sm_get ht)) (fun bp2 op2 he2=>?_)
 subst he2
 refine Zi (a:=a1) (sz:=1) (rows:=Tu.irows sz) (Tu.ne_of_get (Tu.ir_get (Tu.na_get hal))) (fun bp3 op3 he3=>?_)
 subst he3
 refine Z1 (Z0 (Z3 (sqt 5 rfl (pur 1 rfl (sp rfl (PE.indexAddr Z1q rfl rfl (by omega) (by omega)) rfl (spL rfl rfl (lf0 sc3 (Tu.sm_get ha) rfl) rfl (pur 2 rfl (Z0 ?_))))))))
 refine ZbI (ι:={q:Int×Int×Nat // (1≤q.1∧q.1≤Tu.na sz a)∧(0≤q.2.1∧q.2.1≤4294967295)}) (fun q=>⟨[(0,.pointer (some ⟨bk,0,none⟩)),(8,.pointer (some ⟨b8,0,none⟩)),(9,.pointer (some ⟨b9,0,none⟩)),(12,.slice (some ⟨bp2,op2,none⟩) sz.length ct1),(66,.slice (some ⟨bp1,op1,none⟩) m cs1),(67,.int .i64 (m:Int)),(68,.int .i64 (k:Int)),(13,.int .i64 (k:Int)),(14,.int .i64 (a:Int)),(15,.pointer (some ⟨q.1.2.2,0,none⟩))],(q.1.2.2,cel 108 (Tu.trow ⟨q.1.1,(a:Int),(t:Int)⟩))::(bk,cel 111 [.slice ag g.length cg,.int .i64 (tq3+1),.int .u32 (q.1.2.1)])::(o.G++(b9,cel 26 [.slice (some ⟨bp3,op3,none⟩) sz.length k1,o.fs])::(b8,cel 26 [.slice none 0 0,.slice none 0 0])::H),RowsA (some ⟨bp1,op1,none⟩) 1 (Ht.irows (sh.map fun (j:Nat)=>(j:Int)))::RowsA (some ⟨bp2,op2,none⟩) 1 (Ht.irows (to.map fun (j:Nat)=>(j:Int)))::RowsA (some ⟨bp3,op3,none⟩) 1 (Tu.irows sz)::R⟩) ?_ ?_
 refine Zb [0,0,2,0,14,30,63,0,0,0,768,1792,4095,0,16383] (.tk 0 (.tk 1 (.ld 2 (.tk 3 (.tk 4 (.ld 5 (tks 7 4 (.ld 11 (.any (.alt 6 (.tk 12 (.big 13 (.big 14 .done))) (.alt 13 (.big 6 (.tk 12 (.big 14 .done))) .stop))))))))))) Zo (by kernel_rfl) ?_
 refine Zl 1 rfl (tk rfl (PE.fA Z0K rfl) rfl (ld rfl rfl (lh (v:=.slice (some ⟨bp3,op3,none⟩) sz.length k1) Z26 rfl rfl) rfl (Zl 1 rfl (tk rfl (PE.indexAddr Z1q rfl rfl (by omega) (by omega)) rfl (ld rfl rfl (lf0 sc3 (Tu.ir_get (Tu.na_get hal)) rfl) rfl (Zl 3 rfl (tk rfl (PE.indexAddr Z1q rfl rfl (by omega) (by omega)) rfl (ld rfl rfl (lf0 sc3 (Tu.sm_get ht) rfl) rfl ?_))))))))
 refine Z1o ?_ ?_
 refine ZG bk ?_
 refine cl rfl Z4B rfl rfl (Ht.c_Among g ag cg bk hgl _ _ (by omega) (by assumption) (1) (Tu.na sz a) (by omega) _ _) ?_
 rintro _ _ R1 ⟨x79,m79,hx79,rfl,hm79,rfl,hR1⟩
 obtain rfl:=hR1.symm
 clear hR1
 have hx1:1≤x79∧x79≤Tu.na sz a:=by omega
 refine bg (fun w hs=>⟨(lf0 sc3 (Tu.sm_get ht) rfl) w hs,trivial,trivial,trivial⟩) ?_
 refine tk rfl (PE.build (out:=[_,_,_]) Z9a Z2k rfl rfl) rfl (alc rfl Z2k rfl (fun b15=>?_))
 refine bg (fun w hs=>⟨(lf0 sc3 (Tu.sm_get ht) rfl) w hs,trivial⟩) ?_
 refine ZH (l':=Tu.trow ⟨x79,(a:Int),(t:Int)⟩) rfl rfl rfl Z6f rfl rfl rfl rfl (nl rfl) ?_
 refine bgT ?_
 exact Z0b ⟨(x79,m79,b15),hx1,hm79⟩ (fun w h=>h.pull b15)
 refine Z1o ?_ ?_
 refine alc rfl Z2k rfl (fun b15=>?_)
 refine bg (fun w hs=>⟨(lf0 sc3 (Tu.sm_get ht) rfl) w hs,(lf0 sc3 (Tu.ir_get (Tu.na_get hal)) rfl) w hs,(lh (v:=.slice (some ⟨bp3,op3,none⟩) sz.length k1) Z26 rfl rfl) w hs,trivial⟩) ?_
 refine ZG bk ?_
 refine cl rfl Z4B rfl rfl (Ht.c_Among g ag cg bk hgl _ _ (by omega) (by assumption) (1) (Tu.na sz a) (by omega) _ _) ?_
 rintro _ _ R1 ⟨x79,m79,hx79,rfl,hm79,rfl,hR1⟩
 obtain rfl:=hR1.symm
 clear hR1
 have hx1:1≤x79∧x79≤Tu.na sz a:=by omega
 refine bg (fun w hs=>⟨(lf0 sc3 (Tu.sm_get ht) rfl) w hs,trivial,trivial,trivial⟩) ?_
 refine tk rfl (PE.build (out:=[_,_,_]) Z9a Z2k rfl rfl) rfl ?_
 refine ZH (l':=Tu.trow ⟨x79,(a:Int),(t:Int)⟩) rfl rfl rfl Z6f rfl rfl rfl rfl (nl rfl) ?_
 refine bgT ?_
 exact Z0b ⟨(x79,m79,b15),hx1,hm79⟩ (fun w h=>h.pull b15)
 exact Z3f
 rintro ⟨⟨x79,m79,b15⟩,hx1,hm79⟩
 dsimp only at hx1 hm79 ⊢
 refine Z0 (sqt 2 rfl (pur 1 rfl ?_))
 refine ZG bk ?_
 refine cl rfl Zjo rfl rfl (Ht.c_Rare g ag cg bk hgl _ _ (by omega) (by assumption) 4 _ _) ?_
 rintro _ _ R1 ⟨x87,m87,rfl,hm87,rfl,hR1⟩
 obtain rfl:=hR1.symm
 clear hR1
 refine Z7J (ι:={z:Int // z = -1∨z=(t:Int)}) (fun z=>⟨[(0,.pointer (some ⟨bk,0,none⟩)),(8,.pointer (some ⟨b8,0,none⟩)),(9,.pointer (some ⟨b9,0,none⟩)),(12,.slice (some ⟨bp2,op2,none⟩) sz.length ct1),(66,.slice (some ⟨bp1,op1,none⟩) m cs1),(67,.int .i64 (m:Int)),(68,.int .i64 (k:Int)),(13,.int .i64 (k:Int)),(14,.int .i64 (a:Int)),(15,.pointer (some ⟨b15,0,none⟩))],(b15,cel 108 (Tu.trow ⟨x79,(a:Int),z.1⟩))::(bk,cel 111 [.slice ag g.length cg,.int .i64 (tq3+1+1),.int .u32 (m87)])::(o.G++(b9,cel 26 [.slice (some ⟨bp3,op3,none⟩) sz.length k1,o.fs])::(b8,cel 26 [.slice none 0 0,.slice none 0 0])::H),RowsA (some ⟨bp1,op1,none⟩) 1 (Ht.irows (sh.map fun (j:Nat)=>(j:Int)))::RowsA (some ⟨bp2,op2,none⟩) 1 (Ht.irows (to.map fun (j:Nat)=>(j:Int)))::RowsA (some ⟨bp3,op3,none⟩) 1 (Tu.irows sz)::R⟩) ?_ ?_
 refine Z2 rfl ?_ ?_<;>intro hc4
 refine sqr 2 rfl (sp rfl (PE.fA Z0d rfl) rfl ?_)
 refine ZH (l':=Tu.trow ⟨x79,(a:Int),-1⟩) rfl rfl rfl cn3 rfl rfl rfl rfl (nl rfl) ?_
 exact Z3G ⟨-1,.inl rfl⟩ (fun w h=>h.pull b15)
 refine Z1 ?_
 exact Z3G ⟨(t:Int),.inr rfl⟩ (fun w h=>h.pull b15)
 rintro ⟨z,hzz⟩
 dsimp only at hzz ⊢
 refine Z0 (Z0 ?_)
 refine ZbI (ι:={c:Bool // (c=true→z=(t:Int)∧Tu.na sz z.toNat<x79)∧(c=false→z = -1∨z=(t:Int)∧x79≤Tu.na sz t)}) (fun c=>⟨[(0,.pointer (some ⟨bk,0,none⟩)),(8,.pointer (some ⟨b8,0,none⟩)),(9,.pointer (some ⟨b9,0,none⟩)),(12,.slice (some ⟨bp2,op2,none⟩) sz.length ct1),(66,.slice (some ⟨bp1,op1,none⟩) m cs1),(67,.int .i64 (m:Int)),(68,.int .i64 (k:Int)),(13,.int .i64 (k:Int)),(14,.int .i64 (a:Int)),(15,.pointer (some ⟨b15,0,none⟩)),(102,.bool c.1)],(b15,cel 108 (Tu.trow ⟨x79,(a:Int),z⟩))::(bk,cel 111 [.slice ag g.length cg,.int .i64 (tq3+1+1),.int .u32 (m87)])::(o.G++(b9,cel 26 [.slice (some ⟨bp3,op3,none⟩) sz.length k1,o.fs])::(b8,cel 26 [.slice none 0 0,.slice none 0 0])::H),RowsA (some ⟨bp1,op1,none⟩) 1 (Ht.irows (sh.map fun (j:Nat)=>(j:Int)))::RowsA (some ⟨bp2,op2,none⟩) 1 (Ht.irows (to.map fun (j:Nat)=>(j:Int)))::RowsA (some ⟨bp3,op3,none⟩) 1 (Tu.irows sz)::R⟩) ?_ ?_
 refine Zb [0,1,3,7,15,31,15,79,255,511,15,1039,4095,8191] (.tk 0 (.ld 1 (tks 2 3 (.ld 5 (.tk 6 (.ld 7 (.tk 8 (.ld 9 (.tk 10 (.ld 11 (.tk 12 (.tk 13 .done)))))))))))) Zo (by kernel_rfl) ?_
 refine tk rfl (PE.fA Z0d rfl) rfl (ld rfl rfl (lh (v:=.int .i64 z) sc3 rfl rfl) rfl (Zl 2 rfl ?_))
 refine Zv 92 rfl ?_ ?_<;>intro g92
 have hz9:z=(t:Int):=hzz.resolve_left (by simpa using g92)
 have hzt9:Tu.na sz z.toNat=Tu.na sz t:=by rw [hz9,Int.toNat_natCast]
 refine tkG rfl rfl rfl rfl (PE.fA Z0K rfl) rfl ?_
 refine ldG rfl rfl rfl rfl rfl (lh (v:=.slice (some ⟨bp3,op3,none⟩) sz.length k1) Z26 rfl rfl) rfl ?_
 refine tkG rfl rfl rfl rfl (PE.fA Z0d rfl) rfl ?_
 refine ldG rfl rfl rfl rfl rfl (lh (v:=.int .i64 z) sc3 rfl rfl) rfl ?_
 refine tkG rfl rfl rfl rfl (PE.indexAddr Z1q rfl rfl (by omega) (by omega)) rfl ?_
 refine ldG rfl rfl rfl rfl rfl (lf0 sc3 (Tu.ir_get (Tu.na_get (k:=z.toNat) (by omega))) rfl) rfl ?_
 refine tkG rfl rfl rfl rfl (PE.fA Z44 rfl) rfl ?_
 refine ldG rfl rfl rfl rfl rfl (lh (v:=.int .i64 x79) sc3 rfl rfl) rfl (Zl 2 rfl ?_)
 first | exact Z0b ⟨decide (Tu.na sz z.toNat<x79),fun h=>⟨hz9,of_decide_eq_true h⟩,fun h=>.inr ⟨hz9,by have:=of_decide_eq_false h;omega⟩⟩ idH | exact Z0b ⟨false,fun h=>(by cases h),fun h=>.inl hz9⟩ idH
 have hz9:z = -1:=by simpa using g92
 refine Zl 1 rfl ?_
 refine ldN rfl rfl rfl rfl rfl rfl rfl rfl ?_
 refine Zl 1 rfl ?_
 refine ldN rfl rfl rfl rfl rfl rfl rfl rfl ?_
 refine Zl 1 rfl ?_
 refine ldN rfl rfl rfl rfl rfl rfl rfl rfl ?_
 refine Zl 1 rfl ?_
 refine ldN rfl rfl rfl rfl rfl rfl rfl rfl ?_
 refine Zl 2 rfl ?_
 first | exact Z0b ⟨decide (Tu.na sz z.toNat<x79),fun h=>⟨hz9,of_decide_eq_true h⟩,fun h=>.inr ⟨hz9,by have:=of_decide_eq_false h;omega⟩⟩ idH | exact Z0b ⟨false,fun h=>(by cases h),fun h=>.inl hz9⟩ idH
 rintro ⟨c,hcT,hcF⟩
 dsimp only at hcT hcF ⊢
 refine Z7J (ι:={q:Int×Int // (1≤q.1∧q.1≤Tu.na sz a)∧(q.2 = -1∨q.2=(t:Int)∧q.1≤Tu.na sz t)}) (fun q=>⟨[(0,.pointer (some ⟨bk,0,none⟩)),(8,.pointer (some ⟨b8,0,none⟩)),(9,.pointer (some ⟨b9,0,none⟩)),(12,.slice (some ⟨bp2,op2,none⟩) sz.length ct1),(66,.slice (some ⟨bp1,op1,none⟩) m cs1),(67,.int .i64 (m:Int)),(68,.int .i64 (k:Int)),(13,.int .i64 (k:Int)),(14,.int .i64 (a:Int)),(15,.pointer (some ⟨b15,0,none⟩))],(b15,cel 108 (Tu.trow ⟨q.1.1,(a:Int),q.1.2⟩))::(bk,cel 111 [.slice ag g.length cg,.int .i64 (tq3+1+1),.int .u32 (m87)])::(o.G++(b9,cel 26 [.slice (some ⟨bp3,op3,none⟩) sz.length k1,o.fs])::(b8,cel 26 [.slice none 0 0,.slice none 0 0])::H),RowsA (some ⟨bp1,op1,none⟩) 1 (Ht.irows (sh.map fun (j:Nat)=>(j:Int)))::RowsA (some ⟨bp2,op2,none⟩) 1 (Ht.irows (to.map fun (j:Nat)=>(j:Int)))::RowsA (some ⟨bp3,op3,none⟩) 1 (Tu.irows sz)::R⟩) ?_ ?_
 refine Z2 rfl ?_ ?_<;>intro hc5
 obtain ⟨hz9,hlt⟩:=hcT hc5
 have hzt9:Tu.na sz z.toNat=Tu.na sz t:=by rw [hz9,Int.toNat_natCast]
 refine sqr 8 rfl (sp rfl (PE.fA Z0K rfl) rfl (spL rfl rfl (lh (v:=.slice (some ⟨bp3,op3,none⟩) sz.length k1) Z26 rfl rfl) rfl (sp rfl (PE.fA Z0d rfl) rfl (spL rfl rfl (lh (v:=.int .i64 z) sc3 rfl rfl) rfl (sp rfl (PE.indexAddr Z1q rfl rfl (by omega) (by omega)) rfl (spL rfl rfl (lf0 sc3 (Tu.ir_get (Tu.na_get (k:=z.toNat) (by omega))) rfl) rfl (sp rfl (PE.fA Z44 rfl) rfl ?_)))))))
 refine ZH (l':=Tu.trow ⟨Tu.na sz z.toNat,(a:Int),z⟩) rfl rfl rfl cn3 rfl rfl rfl rfl (nl rfl) ?_
 exact Z3G ⟨(Tu.na sz z.toNat,z),⟨by omega,by omega⟩,.inr ⟨hz9,by omega⟩⟩ (fun w h=>h.pull b15)
 refine Z1 ?_
 exact Z3G ⟨(x79,z),hx1,hcF (by simpa using hc5)⟩ (fun w h=>h.pull b15)
 rintro ⟨⟨s,z⟩,hs,hzz⟩
 dsimp only at hs hzz ⊢
 refine sqr 7 rfl (sp rfl (PE.fA Z0i rfl) rfl (spL rfl rfl (lh (v:=o.fs) Z6Q rfl rfl) rfl (spL rfl rfl (lhA (Tu.trow ⟨s,(a:Int),z⟩) Z54 rfl (rest:=[]) rfl rfl) rfl ?_)))
 refine bsl (out:=[_,_,_]) rfl ZiY Z2k rfl rfl rfl rfl rfl rfl (fun b113=>?_)
 refine apO (o) rfl ZkG rfl rfl (Z0B (row:=Tu.trow ⟨s,(a:Int),z⟩) rfl) rfl rfl ((by simp only [List.length_map,List.length_singleton];omega)) rfl (fun o114=>?_)
 refine sp rfl (PE.fA Z0i rfl) rfl ?_
 refine ZH (l':=[.slice (some ⟨bp3,op3,none⟩) sz.length k1,o114.fs]) rfl rfl rfl ZkO rfl (by rw [o114.cells.1];first | done | rfl) (by rw [o114.cells.1];simp [o114.cells.2]) (by rw [o114.cells.1];first | done | rfl) (by rw [o114.cells.1];first | done | exact Nat.le_of_ble_eq_true rfl) ?_
 refine sqr 2 rfl (sp rfl (PE.add rfl rfl (by omega)) rfl (pur 1 rfl ?_))
 exact Zc ⟨⟨(k+1,lots++[⟨s,(a:Int),z⟩],tq3+1+1,m87),by dsimp only;omega,hmd.more ha ht hs hzz,by dsimp only;omega,by assumption⟩,o114.cast (by simp [Tu.trows])⟩ (fun w h=>(h.del b113).del b15)
 obtain rfl:k=m:=by omega
 obtain ⟨a2,k2,he,hk2,hf⟩:=o.freezeC
 rw [show (Tu.trows lots).length=lots.length from List.length_map _] at hk2
 rw [he,show (Tu.trows lots).length=lots.length from List.length_map _]
 refine Sy.heap (H':=(bk,cel 111 [.slice ag g.length cg,.int .i64 (tq3),.int .u32 (mx3)])::(b9,cel 26 [.slice a1 sz.length k1,.slice a2 lots.length k2])::(b8,cel 26 [.slice none 0 0,.slice none 0 0])::H) (fun w h=>hf (h.perm (List.perm_middle (l₁:=o.G) (a:=_)).symm)) ?_
 clear he hf
 have hok:=Tu.md_ok (by omega) hz hsh hto (by omega) hmd
 refine Z7 (Z9 (Z9 (Zk (sqt 2 rfl (spL rfl rfl (lhA (Tu.brl ⟨sz,lots⟩ a1 a2 k1 k2) Z65 rfl (rest:=[]) rfl rfl) rfl ?_)))))
 refine sto rfl rfl rfl ZiO rfl rfl rfl rfl ?_
 refine Z4 ?_
 exact Zg (vs:=[_]) rfl (.cons (RV.cell rfl (lhA (Tu.brl ⟨sz,lots⟩ a1 a2 k1 k2) Z65 rfl (rest:=[]) rfl rfl)) .nil) rfl ⟨⟨sz,lots⟩,a1,a2,k1,k2,_,_,hok,⟨by dsimp only;omega,by dsimp only;omega,by dsimp only;omega⟩,rfl,rfl,rfl⟩ (fun w h=>((h.del b9).del b8).facts SubF.sub)
theorem Z1r:Z2a Tryz.prog 33=some 9:=by kernel_rfl
theorem Zc5:Z2a Tryz.prog 39=some 4:=by kernel_rfl
theorem Zer:Z2a Tryz.prog 47=some 2:=by kernel_rfl
theorem Zjc:apT Tryz.prog 31=some (39,4,32):=by kernel_rfl
theorem Zgj:apT Tryz.prog 44=some (23,1,24):=by kernel_rfl
theorem Zcb:arN Tryz.prog 30=some (6,1):=by kernel_rfl
theorem Zjl:cal Tryz.prog 10=true:=by kernel_rfl
theorem Zjm:cal Tryz.prog 11=true:=by kernel_rfl
theorem ZeP:cal Tryz.prog 12=true:=by kernel_rfl
theorem Z7d:cal Tryz.prog 13=true:=by kernel_rfl
theorem Zjn:cal Tryz.prog 14=true:=by kernel_rfl
theorem ZkL:cal Tryz.prog 6=true:=by kernel_rfl
theorem Zku:cal Tryz.prog 7=true:=by kernel_rfl
theorem ZkM:cal Tryz.prog 8=true:=by kernel_rfl
theorem ZiN:cal Tryz.prog 9=true:=by kernel_rfl
theorem ZiP:ZF Tryz.prog 31=some 1:=by kernel_rfl
theorem ZhM:ZF Tryz.prog 33=some 9:=by kernel_rfl
theorem Zg6:ZF Tryz.prog 39=some 4:=by kernel_rfl
theorem ZiQ:ZF Tryz.prog 47=some 2:=by kernel_rfl
theorem ZbZ:elN Tryz.prog 31=some 4:=by kernel_rfl
theorem ZdR:elN Tryz.prog 40=some 1:=by kernel_rfl
theorem ZcB:elN Tryz.prog 44=some 1:=by kernel_rfl
theorem ZiS:elN Tryz.prog 45=some 2:=by kernel_rfl
theorem Z6t:ZY Tryz.prog 33 0=some 0:=by kernel_rfl
theorem Z46:ZY Tryz.prog 33 1=some 1:=by kernel_rfl
theorem Z3k:ZY Tryz.prog 33 2=some 2:=by kernel_rfl
theorem ZJ:ZY Tryz.prog 33 3=some 8:=by kernel_rfl
theorem Z4P:ZY Tryz.prog 37 1=some 1:=by kernel_rfl
theorem Z4Q:ZY Tryz.prog 39 0=some 0:=by kernel_rfl
theorem Z3l:ZY Tryz.prog 39 1=some 1:=by kernel_rfl
theorem Z21:ZY Tryz.prog 39 2=some 2:=by kernel_rfl
theorem Z6u:ZY Tryz.prog 47 0=some 0:=by kernel_rfl
theorem Z2z:Z2y Tryz.prog 24=true:=by kernel_rfl
theorem Z1a:Z2y Tryz.prog 31=true:=by kernel_rfl
theorem Z97:Z2y Tryz.prog 40=true:=by kernel_rfl
theorem Z4a:Z2y Tryz.prog 44=true:=by kernel_rfl
theorem Z3s:Z2y Tryz.prog 45=true:=by kernel_rfl
theorem Z2X:Z0h Tryz.prog 31=true:=by kernel_rfl
theorem ZfK:Z0h Tryz.prog 45=true:=by kernel_rfl
theorem Zg8:slE Tryz.prog 31=some (39,4):=by kernel_rfl
theorem Ziy:slE Tryz.prog 44=some (23,1):=by kernel_rfl
theorem ub4:Tryz.prog.underlying 4=some .bool:=by kernel_rfl
theorem Zel:Zr Tryz.prog 23=some ([.slice none 0 0]):=by kernel_rfl
theorem Zg3:Zr Tryz.prog 33=some ([.int .i64 0,.int .i64 0,.int .i64 0,.int .i64 0,.int .i64 0,.int .i64 0,.int .i64 0,.int .i64 0,.slice none 0 0]):=by kernel_rfl
theorem Z9q:Zr Tryz.prog 39=some ([.int .i64 0,.int .i64 0,.int .i64 0,.int .i64 0]):=by kernel_rfl
theorem ZbV:Zr Tryz.prog 47=some ([.int .i64 0,.int .i64 0]):=by kernel_rfl
namespace Ht
theorem up_ok {b:Barn} {nb ng:Int} (h:MadeH b nb ng) (hng:ng≤3) {bl:List HBin} (hb:∀ x∈bl,BinH x) {n:Nat} (hn:1≤n∧n≤bl.length∧n≤4):∃ (z:Barn) (g:Nat),(∀ sl,btl z sl=btl ⟨b.cool,max 1 b.gangs,b.rise,bl⟩ sl)∧z.ok∧z.check=0∧z.bins=bl.take n∧z.gangs=(g:Int)∧1≤g∧(g:Int)≤max 1 ng:=by
 have hg:=h.ok.gangs
 have hg2:=h.ng
 have hok:Barn.ok ⟨b.cool,max 1 b.gangs,b.rise,bl.take n⟩:=by
   refine ⟨h.ok.len,?_,h.ok.cool,?_,h.ok.rise,fun x hx=>?_,h.ok.srt,fun x hx=>(hb x (List.mem_of_mem_take hx)).hi.1⟩
   · show 1≤(bl.take n).length∧(bl.take n).length≤4
     rw [List.length_take];omega
   · show 0≤max 1 b.gangs∧max 1 b.gangs≤4
     omega
   · have h1:=hb x (List.mem_of_mem_take hx)
     exact ⟨⟨by have:=h1.mark;omega,h1.mark.2⟩,h1.warm,h1.lo,by have:=h1.lo;have:=h1.hi;omega⟩
 exact ⟨⟨b.cool,max 1 b.gangs,b.rise,bl.take n⟩,(max 1 b.gangs).toNat,fun sl=>rfl,hok,Z83 hok (by show max 1 b.gangs≤3;omega),rfl,by show max 1 b.gangs=_;omega,by omega,by omega⟩
theorem Zi2 {b:Barn} {k:Nat} {x:HBin} (hx:b.bins[k]?=some x) {p:List (List Int)} {d:Nat}:hotW b b.warms p k d↔x.mark<wst b.cool (b.worst x) k x.warm (p.take (d+1)):=by
 unfold hotW
 rw [Barn.warms_at (List.getElem?_eq_some_iff.1 hx).1,show b.binD k=x from Z01 hx,Z01 hx]
theorem hot_next {Q:Prop} {b:Barn} {k:Nat} {x:HBin} (hx:b.bins[k]?=some x) {p:List (List Int)} {d:Nat} {c:Bool} (h:c=true↔Q∨∃ e,e<d∧hotW b b.warms p k e):(c||decide (x.mark<wst b.cool (b.worst x) k x.warm (p.take (d+1))))=true↔Q∨∃ e,e<d+1∧hotW b b.warms p k e:=by
 rw [Bool.or_eq_true,h,decide_eq_true_eq,← Zi2 hx]
 constructor
 · rintro ((h1 | ⟨e,h1,h2⟩) | h1)
   · exact .inl h1
   · exact .inr ⟨e,by omega,h2⟩
   · exact .inr ⟨d,by omega,h1⟩
 · rintro (h1 | ⟨e,h1,h2⟩)
   · exact .inl (.inl h1)
   · by_cases e1:e=d
     · subst e1;exact .inr h2
     · exact .inl (.inr ⟨e,by omega,h2⟩)
theorem wst_next {c r k w:Int} {p:List (List Int)} {d:Nat} {l:List Int} (h:p[d]?=some l):wst c r k w (p.take (d+1))=(bif hasI l k then min (wst c r k w (p.take d)) c else wst c r k w (p.take d))+r:=by
 rw [List.take_add_one,h];exact Zdg c r k w _ l
theorem lenS_one (p:List PL) (q:PL):lenS (lls (p++[q]))=lenS (lls p)+q.l.length:=by unfold lenS lls;simp
theorem lls_one (p:List PL) (q:PL):lls (p++[q])=lls p++[q.l]:=by unfold lls;simp
theorem own_form {e sz:Nat} {rows:List (List Value)} (o:OSl e sz rows) {n:Nat} (hn:rows.length=n) (h:0<n):∃ (o':OSl e sz rows) (b cap:Nat) (junk:List Value),o'.fs = .slice (some ⟨b,0,none⟩) n cap∧o'.G=[(b,cel e (rows.flatten++junk))]∧o'.fs=o.fs∧o'.G=o.G:=by
 rcases o.is with ⟨h1,_,_⟩ | ⟨b,cap,junk,h1,h2,_⟩
 · rw [h1] at hn;simp at hn;omega
 · exact ⟨o,b,cap,junk,by rw [h1,hn],h2,rfl,rfl⟩
end Ht
namespace Tu
theorem dysT_take {l:List Rec} {k:Nat} {x:Rec} (h:l[k]?=some x):dysT (l.take (k+1))=dysT (l.take k)++[dayT x.by_]:=by
 unfold dysT;rw [List.take_add_one,h,List.map_append];rfl
theorem dayT_take {l:List (Int×Int)} {k:Nat} {x:Int×Int} (h:l[k]?=some x):dayT (l.take (k+1))=dayT (l.take k)++[x.1]:=by
 unfold dayT;rw [List.take_add_one,h,List.map_append];rfl
theorem dayT_len (l:List (Int×Int)):(dayT l).length=l.length:=List.length_map _
end Tu
set_option maxHeartbeats 1000000 in
theorem Z78 (l0:List Int) (a0:Option Addr) (c0:Nat) (hl0:l0.length≤9223372036854775807) (l1:List Int) (a1:Option Addr) (c1:Nat) (hl1:l1.length≤9223372036854775807) (H:Z8) (R:Z5) [hG0:MemRows a0 1 (Ht.urows l0) R] [hG1:MemRows a1 1 (Ht.urows l1) R] :
    Fn Tryz.prog 3 [.slice a0 l0.length c0,.slice a1 l1.length c1] H R (fun v H' R'=>v = .bool true∧H'=H∧R'=R):=by
 refine Ze Tryz.func3 rfl Tryz.ntmps3 rfl ?_
 refine sqt 1 rfl (pur 1 rfl (sqt 5 rfl (pur 1 rfl ?_)))
 refine cl rfl Zku rfl rfl (Ht.c_Fill l0 a0 c0 hl0 _ _) ?_
 rintro _ _ R1 ⟨bk,mk,hmk,rfl,rfl,hR1⟩
 obtain rfl:=hR1.symm
 clear hR1
 refine cl rfl ZkL rfl rfl (ZeI l0 a0 c0 bk hl0 0 mk (by omega) hmk _ _) ?_
 rintro _ _ _ ⟨y,d1,d2,e1,e2,tq1,mx1,hyo,⟨hy5,hy4,hyk⟩,rfl,rfl,rfl⟩
 refine Sy.heap (fun w h=>h.del bk) ?_
 refine alc rfl Zga rfl (fun b5=>?_)
 refine ZH (l':=Tu.brl y d1 d2 e1 e2) rfl rfl rfl ZiO rfl rfl rfl rfl (nl rfl) ?_
 refine sqt 5 rfl (pur 1 rfl ?_)
 refine cl rfl Zku rfl rfl (Ht.c_Fill l1 a1 c1 hl1 _ _) ?_
 rintro _ _ R1 ⟨bj,mj,hmj,rfl,rfl,hR1⟩
 obtain rfl:=hR1.symm
 clear hR1
 refine cl rfl ZkM rfl rfl (Ht.c_MadeO l1 a1 c1 bj hl1 0 mj (by omega) hmj 4 2 (by omega) (by omega) _ _) ?_
 rintro _ _ _ ⟨b,o,tq2,mx2,hmh,rfl,_,_,rfl,rfl⟩
 refine Sy.heap (fun w h=>h.del bj) ?_
 have hbm:=hmh.ok.many
 have hbg:=hmh.ok.gangs
 refine alc rfl Zg3 rfl (fun b6=>?_)
 refine Z4z (vs:=Ht.btl b o.fs) rfl rfl rfl ZhM rfl rfl rfl (by have:=o.cells.2;simp [Ht.btl,this,show ∀ s z,(Value.int s z).oneCell'=true from fun _ _=>rfl]) ?_
 refine sqt 5 rfl (sp rfl (PE.fA Z46 rfl) rfl (spL rfl rfl (lh (v:=.int .i64 b.gangs) sc3 rfl rfl) rfl (sp rfl (PE.max rfl rfl) rfl (sp rfl (PE.fA Z46 rfl) rfl ?_))))
 refine ZH (l':=Ht.btl ⟨b.cool,max 1 b.gangs,b.rise,b.bins⟩ o.fs) rfl rfl rfl cn3 rfl rfl rfl rfl (nl rfl) ?_
 refine Z0 (sqt 4 rfl (sp rfl (PE.fA Z0i rfl) rfl (spL rfl rfl (lh (v:=.slice d2 y.lots.length e2) Z6Q rfl rfl) rfl (sp rfl (PE.lenSl Z2z rfl) rfl (pur 1 rfl ?_)))))
 refine Z2 rfl ?_ ?_<;>intro hc0
 refine sqt 2 rfl ?_
 refine clV rfl ZiN rfl rfl (Z2q _ _) ?_
 refine pur 1 rfl (Z4 ?_)
 exact rtA rfl rfl rfl ⟨rfl,rfl,rfl⟩ (fun w h=>St.sub (St.drop (G:=o.G) ((h.del b6).del b5)))
 have hn1:1≤y.lots.length:=by
   rcases Nat.eq_zero_or_pos y.lots.length with h9 | h9
   · exact absurd hc0 (by simp [h9])
   · exact h9
 refine Z1 (Z0 (Z3 ?_))
 refine Zd (ι:=(bl:{bl:List Ht.HBin // (1≤bl.length∧bl.length≤4)∧∀ x∈bl,Ht.BinH x})×OSl 39 4 (Ht.brows bl.1)) (fun x=>⟨[(5,.pointer (some ⟨b5,0,none⟩)),(6,.pointer (some ⟨b6,0,none⟩))],(b6,cel 33 (Ht.btl ⟨b.cool,max 1 b.gangs,b.rise,x.1.1⟩ x.2.fs))::(x.2.G++(b5,cel 26 (Tu.brl y d1 d2 e1 e2))::H),RowsA d2 3 (Tu.trows y.lots)::RowsA d1 1 (Tu.irows y.sizes)::R⟩) (fun x=>4-x.1.1.length) ⟨⟨b.bins,hbm,hmh.bins⟩,o⟩ ?_ (fun x=>?_)
 exact Zj (fun w h=>h.pull b6)
 obtain ⟨⟨bl,hbl,hbb⟩,o⟩:=x
 dsimp only at hbl hbb o ⊢
 obtain ⟨oc,bo,co,jo,hf1,hf2,hf3,hf4⟩:=Ht.own_form o (n:=bl.length) (List.length_map _) (by omega)
 rw [← hf3,hf1]
 refine Sy.heap (H':=(b6,cel 33 (Ht.btl ⟨b.cool,max 1 b.gangs,b.rise,bl⟩ (.slice (some ⟨bo,0,none⟩) bl.length co)))::((bo,cel 39 ((Ht.brows bl).flatten++jo))::(b5,cel 26 (Tu.brl y d1 d2 e1 e2))::H)) (fun w h=>by rw [← hf4,hf2] at h;exact h) ?_
 refine Z0 (sqt 7 rfl (sp rfl (PE.fA ZJ rfl) rfl (spL rfl rfl (lh (v:=.slice (some ⟨bo,0,none⟩) bl.length co) Z2X rfl rfl) rfl (sp rfl (PE.lenSl Z1a rfl) rfl (sp rfl (PE.fA Z0i rfl) rfl (spL rfl rfl (lh (v:=.slice d2 y.lots.length e2) Z6Q rfl rfl) rfl (sp rfl (PE.lenSl Z2z rfl) rfl (pur 1 rfl ?_))))))))
 refine Z2 rfl ?_ ?_<;>intro hc1<;>try simp only [cS] at hc1
 obtain ⟨x0,bl0,hx0⟩:∃ x l,bl=x::l:=by cases bl with | nil=>simp at hbl | cons x l=>exact ⟨x,l,rfl⟩
 have hbx:Ht.BinH x0:=hbb x0 (by rw [hx0];simp)
 refine Z1 (Z3 ?_)
 refine Zb [0,1,0,4,12,28,60,127,255,511] (.tk 0 (.ld 1 (.tk 2 (.ld 3 (.tk 4 (.ld 5 (.big 6 (.big 7 (.tk 8 (.big 9 .done)))))))))) Zo (by kernel_rfl) ?_
 refine tk rfl (PE.fA ZJ rfl) rfl (ld rfl rfl (lh (v:=.slice (some ⟨bo,0,none⟩) bl.length co) Z2X rfl rfl) rfl (tk rfl (PE.fA ZJ rfl) rfl (ld rfl rfl (lh (v:=.slice (some ⟨bo,0,none⟩) bl.length co) Z2X rfl rfl) rfl (tk rfl (PE.indexAddr ZbZ rfl rfl (by decide) (by omega)) rfl (ld rfl rfl (lhA (Ht.brow x0) Zc5 rfl (rest:=(Ht.brows bl0).flatten++jo) (by rw [hx0];show (Ht.brow x0++(Ht.brows bl0).flatten)++jo=_;rw [List.append_assoc]) rfl) rfl ?_)))))
 refine bsl (out:=[_,_,_,_]) rfl Zg8 Z9q rfl rfl rfl rfl rfl rfl (fun b55=>?_)
 refine bg (fun w hs=>⟨trivial,trivial,(lh (v:=.slice (some ⟨bo,0,none⟩) bl.length co) Z2X rfl rfl) w hs,trivial⟩) ?_
 refine Sy.heap (H':=(b55,cel 39 (Ht.brow x0))::(b6,cel 33 (Ht.btl ⟨b.cool,max 1 b.gangs,b.rise,bl⟩ (.slice (some ⟨bo,0,none⟩) bl.length co)))::(oc.G++(b5,cel 26 (Tu.brl y d1 d2 e1 e2))::H)) (fun w h=>by rw [hf2];exact h) ?_
 refine apO oc rfl Zjc (by rw [hf1];rfl) rfl (Z0B (row:=Ht.brow x0) rfl) rfl rfl (by rw [show (Ht.brows bl).length=bl.length from List.length_map _];simp only [List.length_singleton];omega) rfl (fun o56=>?_)
 refine bgT (tk rfl (PE.fA ZJ rfl) rfl ?_)
 refine ZH (l':=Ht.btl ⟨b.cool,max 1 b.gangs,b.rise,bl⟩ o56.fs) rfl rfl rfl ZiP rfl (by rw [o56.cells.1];first | done | rfl) (by rw [o56.cells.1];simp [o56.cells.2]) (by rw [o56.cells.1];first | done | rfl) (by rw [o56.cells.1];first | done | exact Nat.le_of_ble_eq_true rfl) ?_
 refine bgT ?_
 exact Zx ⟨⟨bl++[x0],by simp only [List.length_append,List.length_singleton];omega,fun x hx=>by
   rcases List.mem_append.1 hx with h1 | h1
   · exact hbb x h1
   · rw [List.mem_singleton.1 h1];exact hbx⟩,o56.cast (by simp [Ht.brows])⟩ (by simp only [List.length_append,List.length_singleton];omega) sbA (fun w h=>h.del b55)
 refine Sy.heap (H':=(b6,cel 33 (Ht.btl ⟨b.cool,max 1 b.gangs,b.rise,bl⟩ (.slice (some ⟨bo,0,none⟩) bl.length co)))::(oc.G++(b5,cel 26 (Tu.brl y d1 d2 e1 e2))::H)) (fun w h=>by rw [hf2];exact h) ?_
 rw [← hf1]
 clear hf1 hf2 hf3 hf4
 obtain ⟨ah,ch,he,hch,hf⟩:=oc.freezeC
 rw [show (Ht.brows bl).length=bl.length from List.length_map _] at hch he
 rw [he]
 refine Sy.heap (H':=(b6,cel 33 (Ht.btl ⟨b.cool,max 1 b.gangs,b.rise,bl⟩ (.slice ah bl.length ch)))::(b5,cel 26 (Tu.brl y d1 d2 e1 e2))::H) (fun w h=>hf (h.perm (List.perm_middle (l₁:=oc.G) (a:=_)).symm)) ?_
 clear he hf
 obtain ⟨z,g,hzb,hzo,hzc,hzl,hzg,hg1,hg2⟩:=Ht.up_ok hmh (by omega) hbb (n:=y.lots.length) (by omega)
 have hzn:z.bins.length=y.lots.length:=by rw [hzl,List.length_take];omega
 refine Z7 (Z9 (Z9 (Zk (sqt 8 rfl (sp rfl (PE.fA ZJ rfl) rfl (spL rfl rfl (lh (v:=.slice ah bl.length ch) Z2X rfl rfl) rfl (sp rfl (PE.fA Z0i rfl) rfl (spL rfl rfl (lh (v:=.slice d2 y.lots.length e2) Z6Q rfl rfl) rfl (sp rfl (PE.lenSl Z2z rfl) rfl (sp rfl (PE.slHi (h:=y.lots.length) Zg8 rfl rfl (by omega)) rfl (sp rfl (PE.fA ZJ rfl) rfl ?_)))))))))))
 refine ZH (l':=Ht.btl ⟨b.cool,max 1 b.gangs,b.rise,bl⟩ (.slice ah y.lots.length ch)) rfl rfl rfl ZiP rfl rfl rfl rfl (nl rfl) ?_
 refine sqt 9 rfl ?_
 refine Sy.heap (H':=(b6,cel 33 (Ht.btl z (z.sl ah ch)))::(b5,cel 26 (Tu.brl y d1 d2 e1 e2))::H) (R':=RowsA ah 4 (Ht.brows z.bins)::RowsA d2 3 (Tu.trows y.lots)::RowsA d1 1 (Tu.irows y.sizes)::R) (fun w h=>by
   have h1:=St.rowsTake (a:=ah) (sz:=4) (rows:=Ht.brows bl) h y.lots.length
   rw [hzb,show z.sl ah ch = .slice ah y.lots.length ch by unfold Ht.Barn.sl;rw [hzn],hzl,show Ht.brows (bl.take y.lots.length)=(Ht.brows bl).take y.lots.length from List.map_take]
   exact h1.facts (fun f hf=>by simp only [List.mem_cons] at hf ⊢;rcases hf with hf | hf | hf | hf<;>simp [hf])) ?_
 have hzr:=hzo.len
 have hzm:=hzo.many
 refine spL rfl rfl (lhA (Tu.brl y d1 d2 e1 e2) Z65 rfl (rest:=[]) rfl rfl) rfl (sp rfl (PE.fA Z46 rfl) rfl (spL rfl rfl (lh (v:=.int .i64 (g:Int)) sc3 rfl (by show some (Value.int .i64 z.gangs)=_;rw [hzg])) rfl ?_))
 refine cl rfl Zjl rfl rfl (Tu.c_Rounds y d1 d2 e1 e2 hyo hyk g (by omega) _ _) ?_
 rintro _ _ _ ⟨rfl,(⟨rfl,rfl⟩ | ⟨ws,last,pend,l,ar,cr,hbi,hmd9,rfl,hlc,hll,hwk,hls,rfl⟩)⟩
 refine pur 5 rfl (Z0 (sqt 2 rfl (pur 2 rfl ?_)))
 refine Z2 rfl ?_ ?_<;>intro hc2
 refine sqt 6 rfl (pur 3 rfl ?_)
 refine Zv 76 rfl ?_ ?_<;>intro g76
 refine Z6e rfl rfl rfl rfl ZiN rfl rfl (Z2q _ _) ?_
 refine pur 2 rfl (Z4 ?_)
 exact rtA rfl rfl rfl ⟨rfl,rfl,rfl⟩ (fun w h=>St.sub ((h.del b6).del b5))
 exact absurd g76 (by first | (simp;done) | (simp;omega))
 exact absurd hc2 (by simp)
 refine pur 5 rfl (Z0 (sqt 2 rfl (pur 2 rfl ?_)))
 refine Z2 rfl ?_ ?_<;>intro hc2
 exact absurd hc2 (by simp)
 try simp only [cS] at hc2
 have hl17:l.length≤17:=by have:=Tu.rounds_few hyo hy5 hy4 hg1 hbi hmd9;omega
 have hpe:=Tu.wk_plan hwk (by omega)
 refine Z1 (sqt 1 rfl (pur 1 rfl (sqt 1 rfl (pur 1 rfl (Z0 (sqt 3 rfl (pur 1 rfl (sp rfl (PE.lenSl Z97 rfl) rfl (pur 1 rfl (Z3 ?_))))))))))
 refine Zd (ι:=(x:{x:Nat×List Ht.PL // x.1≤l.length∧x.2.length=x.1∧Ht.lls x.2=Tu.dysT (l.take x.1)∧(∀ p∈x.2,p.l.length≤2)∧Ht.lenS (Ht.lls x.2)≤2*x.1})×OSl 23 1 (Ht.plrows x.1.2)) (fun x=>⟨[(5,.pointer (some ⟨b5,0,none⟩)),(6,.pointer (some ⟨b6,0,none⟩)),(9,x.2.fs),(10,.int .i64 ((Ht.lenS (Ht.lls x.1.1.2):Nat):Int)),(79,.slice ar l.length cr),(80,.int .i64 (l.length:Int)),(81,.int .i64 (x.1.1.1:Int))],x.2.G++(b6,cel 33 (Ht.btl z (z.sl ah ch)))::(b5,cel 26 (Tu.brl y d1 d2 e1 e2))::H,Ht.Inn x.1.1.2::RowsA ar 1 (Tu.slr l)::Tu.WF ws::RowsA ah 4 (Ht.brows z.bins)::R⟩) (fun x=>l.length-x.1.1.1) ⟨⟨(0,[]),Nat.zero_le _,rfl,rfl,by simp,Nat.zero_le _⟩,OSl.nil _ _⟩ ?_ (fun x=>?_)
 exact Zj (fun w h=>(Ht.St.inn0 h).facts (fun f hf=>by simp only [List.mem_cons] at hf ⊢;rcases hf with hf | hf | hf | hf | hf<;>simp [hf]))
 obtain ⟨⟨⟨k,pl⟩,hk,hpn,hpd,hp2,hps⟩,o⟩:=x
 dsimp only at hk hpn hpd hp2 hps o ⊢
 refine sqt 1 rfl (pur 1 rfl (Z0 ?_))
 refine Z2 rfl ?_ ?_<;>intro hc3<;>try simp only [cS] at hc3
 obtain ⟨⟨xq,xfr,xby,xd,xa,xc⟩,hx⟩:∃ x,l[k]?=some x:=⟨_,List.getElem?_eq_getElem (by omega)⟩
 have hxm:=List.mem_of_getElem? hx
 have hst:=Tu.dysT_take hx
 have hx2:xby.length≤2:=by
   obtain ⟨p,hp⟩:=Tu.wk_by hwk _ hxm
   have:=Tu.edR_few hp
   dsimp only at this;omega
 refine Zi (a:=ar) (sz:=1) (rows:=Tu.slr l) (Tu.ne_of_get (Tu.slr_get hx)) (fun br or_ he=>?_)
 subst he
 refine Sy.heap (fun w h=>Tu.St.wfAt (ws:=ws) (x:=⟨xq,xfr,xby,xd,xa,xc⟩) h (hls _ hxm)) ?_
 dsimp only at hst ⊢
 refine Z1 (Z0 (Z3 (sqt 3 rfl (sp rfl (PE.indexAddr ZdR rfl rfl (by omega) (by omega)) rfl (spL rfl rfl (lf0 ZfK (Tu.slr_get hx) rfl) rfl (pur 1 rfl (sqt 1 rfl (pur 1 rfl (Z0 (sqt 3 rfl (pur 1 rfl (sp rfl (PE.lenSl (a:=xa) (n:=xby.length) (c:=xc) Z3s rfl) rfl (pur 1 rfl (Z3 ?_))))))))))))))
 refine Zd (ι:=(j:{j:Nat // j≤xby.length})×OSl 3 1 (Ht.irows (Tu.dayT (xby.take j.1)))) (fun y9=>⟨[(5,.pointer (some ⟨b5,0,none⟩)),(6,.pointer (some ⟨b6,0,none⟩)),(9,o.fs),(10,.int .i64 ((Ht.lenS (Ht.lls pl):Nat):Int)),(79,.slice (some ⟨br,or_,none⟩) l.length cr),(80,.int .i64 (l.length:Int)),(81,.int .i64 (k:Int)),(12,.slice xa xby.length xc),(13,y9.2.fs),(85,.slice xa xby.length xc),(86,.int .i64 (xby.length:Int)),(87,.int .i64 (y9.1.1:Int))],y9.2.G++(o.G++(b6,cel 33 (Ht.btl z (z.sl ah ch)))::(b5,cel 26 (Tu.brl y d1 d2 e1 e2))::H),RowsA xa 2 (Tu.tor xby)::Ht.Inn pl::RowsA (some ⟨br,or_,none⟩) 1 (Tu.slr l)::Tu.WF ws::RowsA ah 4 (Ht.brows z.bins)::R⟩) (fun y9=>xby.length-y9.1.1) ⟨⟨0,Nat.zero_le _⟩,OSl.nil _ _⟩ ?_ (fun y9=>?_)
 exact Zj idH
 obtain ⟨⟨j,hj⟩,od⟩:=y9
 dsimp only at hj od ⊢
 have hdl:(Tu.dayT (xby.take j)).length=j:=by rw [Tu.dayT_len,List.length_take];omega
 refine sqt 1 rfl (pur 1 rfl (Z0 ?_))
 refine Z2 rfl ?_ ?_<;>intro hc4<;>try simp only [cS] at hc4
 obtain ⟨t,ht⟩:∃ t,xby[j]?=some t:=⟨_,List.getElem?_eq_getElem (by omega)⟩
 have hdt:=Tu.dayT_take ht
 refine Zi (a:=xa) (sz:=2) (rows:=Tu.tor xby) (Tu.ne_of_get (Tu.tor_get ht)) (fun bx ox he=>?_)
 subst he
 refine Z1 (Z0 (Z3 (sqt 4 rfl (sp rfl (PE.indexAddr ZiS rfl rfl (by omega) (by omega)) rfl (spL rfl rfl (lfA Zer (Tu.tor_get ht) rfl) rfl (alc rfl ZbV rfl (fun b15=>?_)))))))
 refine ZH (l':=[.int .i64 t.1,.int .i64 t.2]) rfl rfl rfl ZiQ rfl rfl rfl rfl (nl rfl) ?_
 refine sqr 6 rfl (pur 1 rfl (sp rfl (PE.fA Z6u rfl) rfl (spL rfl rfl (lh (v:=.int .i64 t.1) sc3 rfl rfl) rfl ?_)))
 refine bsl (out:=[_]) rfl Z18 zl3 rfl rfl rfl rfl rfl rfl (fun b94=>?_)
 refine apO (od) rfl Z62 rfl rfl (Z0B (row:=[.int .i64 t.1]) rfl) rfl rfl ((by rw [show (Ht.irows (Tu.dayT (xby.take j))).length=j from (List.length_map _).trans hdl];simp only [List.length_singleton];omega)) rfl (fun o95=>?_)
 refine pur 1 rfl (sqr 2 rfl (sp rfl (PE.add rfl rfl (by omega)) rfl (pur 1 rfl ?_)))
 exact Zc ⟨⟨j+1,by omega⟩,o95.cast (by rw [hdt];simp)⟩ (fun w h=>(h.del b94).del b15)
 obtain rfl:j=xby.length:=by omega
 rw [List.take_length] at hdl
 obtain ⟨ad,cd,he,hf⟩:=(od.cast (show Ht.irows (Tu.dayT (xby.take xby.length))=Ht.irows (Tu.dayT xby) by rw [List.take_length])).freeze
 rw [show (Ht.irows (Tu.dayT xby)).length=(Tu.dayT xby).length from List.length_map _] at he
 rw [show od.fs=_ from he]
 refine Sy.heap (fun w h=>Ht.St.innSnoc (l:=pl) (a:=ad) (c:=cd) (l0:=Tu.dayT xby) (hf h)) ?_
 clear he hf
 refine Z7 (Z9 (Z9 (Zk (sqr 10 rfl (pur 2 rfl ?_)))))
 refine bsl (out:=[_]) rfl Ziy Zel rfl rfl rfl rfl rfl rfl (fun b99=>?_)
 refine apO (o) rfl Zgj rfl rfl (Z0B (row:=Ht.plrow ⟨ad,cd,Tu.dayT xby⟩) rfl) rfl rfl ((by rw [Ht.plrows_len];simp only [List.length_singleton];omega)) rfl (fun o100=>?_)
 refine pur 2 rfl (sp rfl (PE.lenSl (a:=xa) (n:=xby.length) (c:=xc) Z3s rfl) rfl (sp rfl (PE.add rfl rfl (by omega)) rfl (pur 2 rfl (sqr 2 rfl (sp rfl (PE.add rfl rfl (by omega)) rfl (pur 1 rfl ?_))))))
 have h10:((Ht.lenS (Ht.lls pl):Nat):Int)+(xby.length:Int)=((Ht.lenS (Ht.lls (pl++[⟨ad,cd,Tu.dayT xby⟩])):Nat):Int):=by rw [Ht.lenS_one];dsimp only;rw [Tu.dayT_len];omega
 rw [h10]
 exact Zx ⟨⟨(k+1,pl++[⟨ad,cd,Tu.dayT xby⟩]),by dsimp only;omega,by dsimp only;rw [List.length_append,hpn];rfl,by dsimp only;rw [Ht.lls_one,hst,hpd],fun p hp=>by
   rcases List.mem_append.1 hp with h1 | h1
   · exact hp2 p h1
   · rw [List.mem_singleton.1 h1];dsimp only;omega,by dsimp only;rw [Ht.lenS_one];dsimp only;omega⟩,o100.cast (by simp [Ht.plrows])⟩ (by dsimp only;omega) sbA (fun w h=>(h.del b99).facts (fun f hf=>by simp only [List.mem_cons] at hf ⊢;rcases hf with hf | hf | hf | hf | hf<;>simp [hf]))
 obtain rfl:k=l.length:=by omega
 rw [List.take_length] at hpd
 obtain ⟨ap,cp,he,hf⟩:=o.freeze
 rw [Ht.plrows_len] at he
 rw [he]
 refine Sy.heap (H':=(b6,cel 33 (Ht.btl z (z.sl ah ch)))::H) (R':=RowsA ap 1 (Ht.plrows pl)::Ht.Inn pl::RowsA ah 4 (Ht.brows z.bins)::R) (fun w h=>(hf (h.del b5)).facts (fun f hf=>by simp only [List.mem_cons] at hf ⊢;rcases hf with hf | hf | hf | hf<;>simp [hf])) ?_
 clear he hf
 have hpp:Ht.planErr z.bins.length z.gangs (Ht.lls pl)=0:=by rw [hpd,hzn,hzg];exact hpe
 obtain ⟨hr1,hr2,hr3⟩:=Ht.round_law hzo hzc hpp
 have hpi:∀ x∈pl,x.l.length≤9223372036854775807:=fun x hx=>by have:=hp2 x hx;omega
 have hlp:(Ht.lls pl).length=pl.length:=Ht.lls_len pl
 have hnl:z.bins.length≤9223372036854775807:=by omega
 refine Z7 (Z9 (Z9 (Zk (sqt 8 rfl (spL rfl rfl (lhA (Ht.btl z (z.sl ah ch)) Z1r rfl (rest:=[]) rfl rfl) rfl (pur 1 rfl ?_))))))
 refine clV rfl Zjm rfl rfl (Ht.c_KeepsK z ah ch hnl hzr pl ap cp (by omega) hpi hr1 _ _) ?_
 refine pur 5 rfl (sqt 7 rfl (spL rfl rfl (lhA (Ht.btl z (z.sl ah ch)) Z1r rfl (rest:=[]) rfl rfl) rfl ?_))
 refine cl rfl ZeP rfl rfl (Ht.c_LongestX z ah ch hnl hzr hzc _ _) ?_
 rintro _ _ _ ⟨⟨m,hm,rfl⟩,rfl,rfl⟩
 have hmn:=Ht.kpt_nn hm
 refine pur 5 rfl (Z0 (sqt 6 rfl (pur 3 rfl ?_)))
 refine Zv 119 rfl ?_ ?_<;>intro g119
 exact absurd g119 (by simp)
 refine pur 3 rfl ?_
 refine Z2 rfl ?_ ?_<;>intro hc5
 exact absurd hc5 (by simp)
 refine Z1 (sqt 1 rfl (pur 1 rfl (Z0 (sqt 4 rfl (sp rfl (PE.fA ZJ rfl) rfl (spL rfl rfl (lh (v:=.slice ah z.bins.length ch) Z2X rfl rfl) rfl (sp rfl (PE.lenSl Z1a rfl) rfl (pur 1 rfl (Z3 ?_)))))))))
 refine Zd (ι:={y9:Nat×Bool // y9.1≤z.bins.length∧(y9.2=true↔(∃ j,j<y9.1∧∃ d,d<(Ht.lls pl).length∧Ht.hotW z z.warms (Ht.lls pl) j d))}) (fun y9=>⟨[(6,.pointer (some ⟨b6,0,none⟩)),(9,.slice ap pl.length cp),(10,.int .i64 ((Ht.lenS (Ht.lls pl):Nat):Int)),(16,.bool (!(Ht.brnQ z (Ht.lls pl)).2.2)),(17,.int .i64 m),(19,.bool y9.1.2),(124,.slice ah z.bins.length ch),(125,.int .i64 (z.bins.length:Int)),(126,.int .i64 (y9.1.1:Int))],(b6,cel 33 (Ht.btl z (z.sl ah ch)))::H,RowsA ap 1 (Ht.plrows pl)::Ht.Inn pl::RowsA ah 4 (Ht.brows z.bins)::R⟩) (fun y9=>z.bins.length-y9.1.1) ⟨(0,false),Nat.zero_le _,⟨fun h=>(by cases h),fun ⟨j,hj,_⟩=>absurd hj (Nat.not_lt_zero _)⟩⟩ ?_ (fun y9=>?_)
 exact Zj idH
 obtain ⟨⟨k,hot⟩,hk,hhot⟩:=y9
 dsimp only at hk hhot ⊢
 refine sqt 1 rfl (pur 1 rfl (Z0 ?_))
 refine Z2 rfl ?_ ?_<;>intro hc6<;>try simp only [cS] at hc6
 obtain ⟨x,hx⟩:∃ x,z.bins[k]?=some x:=⟨_,List.getElem?_eq_getElem (by omega)⟩
 have hxm:=List.mem_of_getElem? hx
 have hxo:=hzo.bins x hxm
 have hwr:0≤z.worst x∧z.worst x≤20:=by have:=z.worst_range hzo hxm;omega
 refine Zi (a:=ah) (sz:=4) (rows:=Ht.brows z.bins) (Tu.ne_of_get (Ht.br_get hx)) (fun bh oh he=>?_)
 subst he
 refine Z1 (Z0 (Z3 (sqt 6 rfl (pur 1 rfl (sp rfl (PE.indexAddr ZbZ rfl rfl (by omega) (by omega)) rfl (spL rfl rfl (lfA Zc5 (row:=Ht.brow x) (Ht.br_get hx) rfl) rfl (alc rfl Z9q rfl (fun b21=>pur 1 rfl ?_))))))))
 refine ZH (l':=Ht.brow x) rfl rfl rfl Zg6 rfl rfl rfl rfl (nl rfl) ?_
 refine sqt 3 rfl (sp rfl (PE.fA Z4Q rfl) rfl (spL rfl rfl (lh (v:=.int .i64 x.warm) sc3 rfl rfl) rfl (pur 1 rfl (sqt 3 rfl (pur 1 rfl (sp rfl (PE.lenSl Z4a rfl) rfl (pur 1 rfl (Z3 ?_))))))))
 refine Zd (ι:={y9:Nat×Bool // y9.1≤pl.length∧(y9.2=true↔(∃ j,j<k∧∃ d,d<(Ht.lls pl).length∧Ht.hotW z z.warms (Ht.lls pl) j d)∨∃ e,e<y9.1∧Ht.hotW z z.warms (Ht.lls pl) k e)}) (fun y9=>⟨[(6,.pointer (some ⟨b6,0,none⟩)),(9,.slice ap pl.length cp),(10,.int .i64 ((Ht.lenS (Ht.lls pl):Nat):Int)),(16,.bool (!(Ht.brnQ z (Ht.lls pl)).2.2)),(17,.int .i64 m),(20,.int .i64 (k:Int)),(21,.pointer (some ⟨b21,0,none⟩)),(124,.slice (some ⟨bh,oh,none⟩) z.bins.length ch),(125,.int .i64 (z.bins.length:Int)),(126,.int .i64 (k:Int)),(133,.slice ap pl.length cp),(134,.int .i64 (pl.length:Int)),(19,.bool y9.1.2),(22,.int .i64 (Ht.wst z.cool (z.worst x) k x.warm ((Ht.lls pl).take y9.1.1))),(135,.int .i64 (y9.1.1:Int))],(b21,cel 39 (Ht.brow x))::(b6,cel 33 (Ht.btl z (z.sl (some ⟨bh,oh,none⟩) ch)))::H,RowsA ap 1 (Ht.plrows pl)::Ht.Inn pl::RowsA (some ⟨bh,oh,none⟩) 4 (Ht.brows z.bins)::R⟩) (fun y9=>pl.length-y9.1.1) ⟨(0,hot),Nat.zero_le _,by dsimp only;rw [hhot];exact ⟨fun h=>.inl h,fun h=>h.elim id fun ⟨e,he,_⟩=>absurd he (Nat.not_lt_zero _)⟩⟩ ?_ (fun y9=>?_)
 exact Zj idH
 obtain ⟨⟨d,hot4⟩,hd,hq4⟩:=y9
 dsimp only at hd hq4 ⊢
 refine sqt 1 rfl (pur 1 rfl (Z0 ?_))
 refine Z2 rfl ?_ ?_<;>intro hc7<;>try simp only [cS] at hc7
 obtain ⟨q,hq⟩:∃ q,pl[d]?=some q:=⟨_,List.getElem?_eq_getElem (by omega)⟩
 have hqm:=List.mem_of_getElem? hq
 have hql:=hpi q hqm
 have hcool:=hzo.cool
 have hwb:=Ht.wst_bd (k:=(k:Int)) hcool hwr ((Ht.lls pl).take d) x.warm (by omega)
 have hwl:((Ht.lls pl).take d).length≤17:=by rw [List.length_take];omega
 have hwn:(Ht.wst z.cool (z.worst x) k x.warm ((Ht.lls pl).take (d+1)))=(bif Ht.hasI q.l k then min (Ht.wst z.cool (z.worst x) k x.warm ((Ht.lls pl).take d)) z.cool else (Ht.wst z.cool (z.worst x) k x.warm ((Ht.lls pl).take d)))+Ht.na z.rise x.hi.toNat:=Ht.wst_next (Ht.lls_get hq)
 have hww:z.worst x=Ht.na z.rise x.hi.toNat:=rfl
 have hmi:0≤(bif Ht.hasI q.l k then min (Ht.wst z.cool (z.worst x) k x.warm ((Ht.lls pl).take d)) z.cool else (Ht.wst z.cool (z.worst x) k x.warm ((Ht.lls pl).take d)))∧(bif Ht.hasI q.l k then min (Ht.wst z.cool (z.worst x) k x.warm ((Ht.lls pl).take d)) z.cool else (Ht.wst z.cool (z.worst x) k x.warm ((Ht.lls pl).take d)))≤1000:=by cases Ht.hasI q.l k<;>simp only [cond_true,cond_false]<;>omega
 have hnx:=Ht.hot_next hx hq4
 refine Zi (a:=ap) (sz:=1) (rows:=Ht.plrows pl) (Tu.ne_of_get (Ht.pl_get hq)) (fun bp op he=>?_)
 subst he
 refine Sy.heap (fun w h=>Ht.St.inn (x:=q) h hqm) ?_
 refine Z1 (Z0 (Z3 (sqt 3 rfl (sp rfl (PE.indexAddr ZcB rfl rfl (by omega) (by omega)) rfl (spL rfl rfl (lf0 Z26 (Ht.pl_get hq) rfl) rfl (pur 1 rfl (Z0 (sqt 3 rfl (pur 2 rfl ?_)))))))))
 refine clV rfl Z7d rfl rfl (Ht.c_contains_int q.l q.a q.c k hql _ _) ?_
 refine Z7J (ι:=Unit) (fun _=>⟨[(6,.pointer (some ⟨b6,0,none⟩)),(9,.slice (some ⟨bp,op,none⟩) pl.length cp),(10,.int .i64 ((Ht.lenS (Ht.lls pl):Nat):Int)),(16,.bool (!(Ht.brnQ z (Ht.lls pl)).2.2)),(17,.int .i64 m),(20,.int .i64 (k:Int)),(21,.pointer (some ⟨b21,0,none⟩)),(124,.slice (some ⟨bh,oh,none⟩) z.bins.length ch),(125,.int .i64 (z.bins.length:Int)),(126,.int .i64 (k:Int)),(133,.slice (some ⟨bp,op,none⟩) pl.length cp),(134,.int .i64 (pl.length:Int)),(19,.bool hot4),(22,.int .i64 (bif Ht.hasI q.l k then min (Ht.wst z.cool (z.worst x) k x.warm ((Ht.lls pl).take d)) z.cool else (Ht.wst z.cool (z.worst x) k x.warm ((Ht.lls pl).take d)))),(135,.int .i64 (d:Int))],(b21,cel 39 (Ht.brow x))::(b6,cel 33 (Ht.btl z (z.sl (some ⟨bh,oh,none⟩) ch)))::H,RowsA (some ⟨bp,op,none⟩) 1 (Ht.plrows pl)::Ht.Inn pl::RowsA (some ⟨bh,oh,none⟩) 4 (Ht.brows z.bins)::R⟩) ?_ ?_
 refine Z2 rfl ?_ ?_<;>intro hc8
 have hhi:Ht.hasI q.l k=true:=hc8
 refine sqr 5 rfl (pur 1 rfl (sp rfl (PE.fA Z6t rfl) rfl (spL rfl rfl (lh (v:=.int .i64 z.cool) sc3 rfl rfl) rfl (sp rfl (PE.min rfl rfl) rfl (pur 1 rfl ?_)))))
 exact Z7I () (by rw [hhi];repeat' first | exact Sub.nil | apply Sub.cons | rfl | (simp [lk];omega)) (fun w h=>h.ftail)
 have hhi:Ht.hasI q.l k=false:=hc8
 refine Z1 ?_
 exact Z7I () (by rw [hhi];repeat' first | exact Sub.nil | apply Sub.cons | rfl | (simp [lk];omega)) (fun w h=>h.ftail)
 rintro ⟨⟩
 refine sqt 9 rfl (pur 1 rfl (sp rfl (PE.fA Z21 rfl) rfl (sp rfl (PE.fA Z4P rfl) rfl (spL rfl rfl (lh (v:=.int .i64 x.hi) sc3 rfl rfl) rfl (sp rfl (PE.fA Z3k rfl) rfl (sp rfl (PE.indexArr Zcb rfl rfl (by omega) (by omega)) rfl (spL rfl rfl (lh sc3 rfl (Ht.btl_cls (by omega))) rfl (sp rfl (PE.add rfl rfl (by omega)) rfl (pur 1 rfl (sqr 8 rfl ?_))))))))))
 rw [← hwn]
 refine pur 2 rfl ?_
 refine Zv 155 rfl ?_ ?_<;>intro g155
 refine pur 6 rfl (sqr 2 rfl (sp rfl (PE.add rfl rfl (by omega)) rfl (pur 1 rfl ?_)))
 rw [g155] at hnx
 exact Zc ⟨(d+1,_),by dsimp only;omega,hnx⟩ idH
 refine pur 1 rfl ?_
 refine spG rfl rfl rfl rfl (PE.fA Z3l rfl) rfl ?_
 refine Z0E rfl rfl rfl rfl rfl (lh (v:=.int .i64 x.mark) sc3 rfl rfl) rfl (pur 3 rfl (sqr 2 rfl (sp rfl (PE.add rfl rfl (by omega)) rfl (pur 1 rfl ?_))))
 rw [g155] at hnx
 exact Zc ⟨(d+1,_),by dsimp only;omega,hnx⟩ idH
 obtain rfl:d=pl.length:=by omega
 refine Z7 (Z9 (Z9 (Zk (sqr 2 rfl (sp rfl (PE.add rfl rfl (by omega)) rfl (pur 1 rfl ?_))))))
 exact Zx ⟨(k+1,hot4),by dsimp only;omega,by
   dsimp only
   rw [hq4,← hlp]
   constructor
   · rintro (⟨j,h1,h2⟩ | ⟨e,h1,h2⟩)
     · exact ⟨j,by omega,h2⟩
     · exact ⟨k,by omega,e,h1,h2⟩
   · rintro ⟨j,h1,e,h2,h3⟩
     by_cases e1:j=k
     · subst e1;exact .inr ⟨e,h2,h3⟩
     · exact .inl ⟨j,by omega,e,h2,h3⟩⟩ (by dsimp only;omega) sbA (fun w h=>h.del b21)
 obtain rfl:k=z.bins.length:=by omega
 have hhb:hot=(Ht.brnQ z (Ht.lls pl)).2.2:=by rw [Bool.eq_iff_iff,hhot,hr2]
 subst hhb
 refine Z7 (Z9 (Z9 (Zk (Z0 (sqt 3 rfl (pur 2 rfl (sp rfl (PE.eqlBool ub4 rfl rfl) rfl ?_)))))))
 refine Z2 rfl ?_ ?_<;>intro hc9
 cases hb9:(Ht.brnQ z (Ht.lls pl)).2.2<;>simp [hb9] at hc9
 refine Z1 (sqt 10 rfl (spL rfl rfl (lhA (Ht.btl z (z.sl ah ch)) Z1r rfl (rest:=[]) rfl rfl) rfl (pur 1 rfl (sp rfl (PE.lenSl Z4a rfl) rfl (sp rfl (PE.min rfl rfl) rfl ?_)))))
 rw [show min (pl.length:Int) 20=((min (Ht.lls pl).length 20:Nat):Int) by omega]
 refine clV rfl Zjn rfl rfl (Ht.c_Turnings z ah ch hnl hzr ((min (Ht.lls pl).length 20:Nat):Int) _ _) ?_
 refine pur 5 rfl (sqt 21 rfl (pur 3 rfl ?_))
 refine Zv 176 rfl ?_ ?_<;>intro g176
 refine pur 5 rfl ?_
 repeat refine spU rfl rfl rfl rfl rfl rfl rfl ?_
 refine pur 2 rfl ?_
 repeat refine spU rfl rfl rfl rfl rfl rfl rfl ?_
 refine pur 3 rfl ?_
 refine Z6e rfl rfl rfl rfl ZiN rfl rfl (Z2q _ _) ?_
 refine pur 2 rfl (Z4 ?_)
 exact rtA rfl rfl rfl ⟨rfl,rfl,rfl⟩ (fun w h=>St.sub (h.del b6))
 obtain ⟨hk1,hk2,hk3⟩:=hr3 (by simpa using g176)
 have hk4:=hk1 m hm
 refine pur 1 rfl ?_
 refine spG rfl rfl rfl rfl (PE.lenSl Z4a rfl) rfl ?_
 refine pur 3 rfl ?_
 refine Zv 181 rfl ?_ ?_<;>intro g181
 refine pur 4 rfl ?_
 refine Zv 185 rfl ?_ ?_<;>intro g185
 refine pur 6 rfl ?_
 refine Zv 191 rfl ?_ ?_<;>intro g191
 refine Z6e rfl rfl rfl rfl ZiN rfl rfl (Z2q _ _) ?_
 refine pur 2 rfl (Z4 ?_)
 exact rtA rfl rfl rfl ⟨rfl,rfl,rfl⟩ (fun w h=>St.sub (h.del b6))
 exact absurd g191 (by first | (simp;done) | (simp;omega))
 exact absurd g185 (by first | (simp;done) | (simp;omega))
 exact absurd g181 (by first | (simp;done) | (simp;omega))
end Go.Proofs.YtcfdanhklbklkaaGreat
