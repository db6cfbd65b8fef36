/- Walks of the functions of the program, and the laws that join them: what the last theorem of this claim needs, in order. -/
import Derived.Test.YtcfdanhklbklkaaGreatTs2
namespace Go.Proofs.YtcfdanhklbklkaaGreat.Wv
set_option linter.unusedSimpArgs false
set_option linter.unusedVariables false
open Go
theorem Zet:Z2q Tryz.prog 242=some 3:=by kernel_rfl
theorem Z2m:Z2q Tryz.prog 95=some 3:=by kernel_rfl
theorem Zcd:Z2q Tryz.prog 97=some 2:=by kernel_rfl
theorem Z53:cal Tryz.prog 119=true:=by kernel_rfl
theorem Z6c:cal Tryz.prog 120=true:=by kernel_rfl
theorem ZgC:cal Tryz.prog 121=true:=by kernel_rfl
theorem ZdK:cal Tryz.prog 122=true:=by kernel_rfl
theorem ZgD:cal Tryz.prog 123=true:=by kernel_rfl
theorem ZgE:cal Tryz.prog 124=true:=by kernel_rfl
theorem ZgF:cal Tryz.prog 125=true:=by kernel_rfl
theorem ZgG:cal Tryz.prog 126=true:=by kernel_rfl
theorem Zai:cal Tryz.prog 13=true:=by kernel_rfl
theorem Zal:cal Tryz.prog 148=true:=by kernel_rfl
theorem Zh6:cal Tryz.prog 204=true:=by kernel_rfl
theorem Zh7:cal Tryz.prog 205=true:=by kernel_rfl
theorem Zh8:cal Tryz.prog 206=true:=by kernel_rfl
theorem Zh9:cal Tryz.prog 207=true:=by kernel_rfl
theorem Zha:cal Tryz.prog 208=true:=by kernel_rfl
theorem Zas:cal Tryz.prog 224=true:=by kernel_rfl
theorem Zhv:cal Tryz.prog 260=true:=by kernel_rfl
theorem Zhw:cal Tryz.prog 261=true:=by kernel_rfl
theorem Zjl:cal Tryz.prog 45=true:=by kernel_rfl
theorem Zav:cal Tryz.prog 63=true:=by kernel_rfl
theorem ZcE:ZJ Tryz.prog 100=some 1:=by kernel_rfl
theorem Z0G:elN Tryz.prog 23=some 1:=by kernel_rfl
theorem ZcN:elN Tryz.prog 92=some 2:=by kernel_rfl
theorem Zkk:elN Tryz.prog 93=some 3:=by kernel_rfl
theorem ZjI:eqB Tryz.prog 10000 97=some (true,2):=by kernel_rfl
theorem ZjK:Tryz.prog.eqGuardType Tryz.prog.depth 97=false:=by kernel_rfl
theorem Z7i:Z0m Tryz.prog 242 0=some 0:=by kernel_rfl
theorem Z7j:Z0m Tryz.prog 242 1=some 1:=by kernel_rfl
theorem Z2r:Z0m Tryz.prog 95 0=some 0:=by kernel_rfl
theorem Z10:Z0m Tryz.prog 95 1=some 1:=by kernel_rfl
theorem Z2N:Z0m Tryz.prog 95 2=some 2:=by kernel_rfl
theorem Z19:Z0m Tryz.prog 97 0=some 0:=by kernel_rfl
theorem Z1a:Z0m Tryz.prog 97 1=some 1:=by kernel_rfl
theorem ZT:Z3G Tryz.prog 23=true:=by kernel_rfl
theorem Z7n:Z3G Tryz.prog 92=true:=by kernel_rfl
theorem ZcV:Z3G Tryz.prog 93=true:=by kernel_rfl
theorem Zc7:Z00 Tryz.prog 97=some [(0,1),(1,1)]:=by kernel_rfl
theorem Z3k:Z17 Tryz.prog 100=true:=by kernel_rfl
theorem ZjV:Z17 Tryz.prog 243=true:=by kernel_rfl
theorem ZjW:Z17 Tryz.prog 245=true:=by kernel_rfl
theorem sc3:Z17 Tryz.prog 3=true:=by kernel_rfl
theorem Z7B:Z17 Tryz.prog 92=true:=by kernel_rfl
theorem Zc8:Z17 Tryz.prog 93=true:=by kernel_rfl
theorem Z0F:slE Tryz.prog 23=some (3,1):=by kernel_rfl
theorem Zdu:ZD Tryz.prog 100=some ([.nilFunc]):=by kernel_rfl
theorem Z6W:ZD Tryz.prog 97=some ([.int .i64 0,.int .i64 0]):=by kernel_rfl
abbrev Z6 (l:List Int):List (List Value):=l.map fun z=>[.int .i64 z]
def grow (g:Gp):List Value:=[.int .i64 g.a,.int .i64 g.b]
def grows (l:List Gp):List (List Value):=l.map grow
def Z6Y (s:Sgt):List Value:=[.int .i64 s.week,.int .i64 s.bin,.bool s.seen]
def srows (l:List Sgt):List (List Value):=l.map Z6Y
def htl (h:Hse) (sg ss:Value):List Value:=[.int .i64 h.bins,sg,ss]
def Hse.v (h:Hse) (sg ss:Value):Value:=.agg (htl h sg ss).toArray
def Hse.sg (h:Hse) (a:Option Addr) (c:Nat):Value:=.slice a h.gaps.length c
def Hse.ss (h:Hse) (a:Option Addr) (c:Nat):Value:=.slice a h.sights.length c
theorem Z2O {l:List Gp} {k:Nat} {x:Gp} (h:l[k]?=some x):(grows l)[k]?=some (grow x):=by simp [grows,h]
theorem Ziw {l:List Sgt} {k:Nat} {x:Sgt} (h:l[k]?=some x):(srows l)[k]?=some (Z6Y x):=by simp [srows,h]
theorem Z4k (l:List Gp):(grows l).length=l.length:=by simp [grows]
theorem ZbI (l:List Sgt):(srows l).length=l.length:=by simp [srows]
theorem Zi1 (l:List Gp):∀ r∈grows l,r.length=2:=fun r hr=>by obtain ⟨x,_,rfl⟩:=List.mem_map.1 hr;rfl
theorem Zdo (l:List Sgt):∀ r∈srows l,r.length=3:=fun r hr=>by obtain ⟨x,_,rfl⟩:=List.mem_map.1 hr;rfl
theorem Zj (l:List Int):(Zp l).length=l.length:=by simp [Zp]
theorem Z2Q {l:List Int} {k:Nat} {v:Int} (h:l[k]?=some v):(Zp l)[k]?=some (.int .i64 v):=by simp [Zp,h]
theorem ZR {l:List Int} {k:Nat} (h:k<l.length):l[k]?=some (na l k):=by
 unfold na;rw [List.getD_eq_getElem?_getD,List.getElem?_eq_getElem h];rfl
theorem Z7t {l:List Int} {k:Nat} {x:Int} (h:l[k]?=some x):na l k=x:=by
 unfold na;rw [List.getD_eq_getElem?_getD,h];rfl
theorem _root_.Go.Proofs.YtcfdanhklbklkaaGreat.OSl.freezeC {e sz:Nat} {rows:List (List Value)} (o:OSl e sz rows):∃ a c,o.fs = .slice a rows.length c∧rows.length≤c∧∀ {H:Z8} {R:Z4} {w:World},St (o.G++H) R w→St H (RowsA a sz rows::R) w:=by
 obtain ⟨fs,G,hl,his⟩:=o
 rcases his with ⟨rfl,rfl,rfl⟩ | ⟨b,cap,junk,rfl,rfl,_,hc,_⟩
 · exact ⟨none,0,rfl,Nat.le_refl _,fun {H R w} h=>(St.also (H:=H) (R:=R) h (f:=RowsA none sz []) (fun w' _=>fun i row hi=>by simp at hi))⟩
 · exact ⟨_,cap,rfl,hc,fun {H R w} h=>St.rows (rest:=junk) h hl⟩
theorem ZE {α:Type} {xs:List α} {p:α→Bool} {k:Nat} {x:α} (hx:xs[k]?=some x) (hn:∀ y∈xs.take k,p y=false) (h:p x=true):xs.findIdx? p=some k:=by
 induction xs generalizing k with
 | nil=>simp at hx
 | cons y ys ih =>
   cases k with
   | zero=>simp only [List.getElem?_cons_zero,Option.some.injEq] at hx;subst hx;simp [List.findIdx?_cons,h]
   | succ k =>
     have hy:=hn y (by simp)
     have:=ih (by simpa using hx) (fun z hz=>hn z (by simp [hz]))
     simp [List.findIdx?_cons,hy,this]
theorem Zv {α:Type} {xs:List α} {p:α→Bool} (hn:∀ y∈xs,p y=false):xs.findIdx? p=none:=by
 rw [List.findIdx?_eq_none_iff];exact hn
theorem Z09 {α:Type} {xs:List α} {p:α→Bool} {k:Nat} {x:α} (hx:xs[k]?=some x) (hn:∀ y∈xs.take k,p y=false) (h:p x=false):∀ y∈xs.take (k+1),p y=false:=by
 intro y hy
 rw [List.take_add_one,hx] at hy
 rcases List.mem_append.1 hy with h1 | h1
 · exact hn y h1
 · simp only [Option.toList_some,List.mem_singleton] at h1;subst h1;exact h
theorem Z1j {α:Type} (xs:List α) (p:α→Bool):Value.bool (decide (0≤(match xs.findIdx? p with | some k=>(k:Int) | none => -1))) = .bool (xs.any p):=by
 congr 1
 cases h:xs.findIdx? p with
 | none =>
   have:=List.findIdx?_eq_none_iff.1 h
   have h2:xs.any p=false:=by simpa using this
   rw [h2];rfl
 | some k =>
   have h2:xs.any p=true:=by
     rw [← Bool.not_eq_false];intro h3
     have:xs.findIdx? p=none:=List.findIdx?_eq_none_iff.2 (by simpa using h3)
     rw [this] at h;cases h
   rw [h2];simp
theorem ZX {α:Type} (xs:List α) (p:α→Bool):Value.bool (!xs.any fun x=>!p x) = .bool (xs.all p):=by
 congr 1
 induction xs with
 | nil=>rfl
 | cons x xs ih=>simp [← ih]
theorem ZdD (n lo hi:Int) (H:Z8) (R:Z4) :
    FnV Tryz.prog 119 [.int .i64 n,.int .i64 lo,.int .i64 hi] H R (.bool (inB n lo hi)):=by
 refine Zc Tryz.func119 rfl Tryz.ntmps119 rfl ?_
 refine sqt 1 rfl (pur 1 rfl (sqt 9 rfl (pur 4 rfl ?_)))
 refine Zw 10 rfl ?_ ?_<;>intro g10
 refine pur 5 rfl (Z5 ?_)
 exact rtA rfl rfl rfl ⟨by simp_all only [ZP,inB,Bool.true_and,Bool.false_and,cond_true,cond_false],rfl,rfl⟩ drp
 refine pur 5 rfl (Z5 ?_)
 exact rtA rfl rfl rfl ⟨by simp_all only [ZP,inB,Bool.true_and,Bool.false_and,cond_true,cond_false],rfl,rfl⟩ drp
theorem Zcs (n m:Int) (a:Option Addr) (c:Nat) (H:Z8) (R:Z4) [hR:MemRows a 1 [[.int .i64 m]] R] :
    FnV Tryz.prog 129 [.int .i64 n,.slice a 1 c] H R (.int .i64 (min n m)):=by
 refine Zc Tryz.func129 rfl Tryz.ntmps129 rfl ?_
 refine sqt 1 rfl (pur 1 rfl (Z0 (sqt 3 rfl (pur 1 rfl (sp rfl (PE.lenSl ZT rfl) rfl (pur 1 rfl (Z3 ?_)))))))
 refine Zi (a:=a) (sz:=1) (rows:=[[.int .i64 m]]) (by simp) (fun b off he=>?_)
 subst he
 refine Zb (ι:={k:Nat // k≤1}) (fun k=>⟨[(0,.int .i64 (bif k.1 == 0 then n else min n m)),(7,.slice (some ⟨b,off,none⟩) 1 c),(8,.int .i64 1),(9,.int .i64 k.1)],H,R⟩) (fun k=>1-k.1) ⟨0,by omega⟩ ?_ (fun k=>?_)
 exact Ze idH
 obtain ⟨k,hk⟩:=k
 dsimp only
 refine sqt 1 rfl (pur 1 rfl (Z0 ?_))
 refine Z1 rfl ?_ ?_<;>intro hc0
 simp only [cS] at hc0
 obtain rfl:k=0:=by omega
 refine Z2 (Z0 (Z3 (sqt 3 rfl (sp rfl (PE.indexAddr Z0G rfl rfl (by omega) (by omega)) rfl (spL rfl rfl (lf0 sc3 (row:=[.int .i64 m]) rfl rfl) rfl (pur 1 rfl (sqr 4 rfl (pur 2 rfl (sp rfl (PE.min rfl rfl) rfl (pur 1 rfl (sqr 2 rfl (sp rfl (PE.add rfl rfl (by omega)) rfl (pur 1 rfl ?_)))))))))))))
 exact ZF ⟨1,by omega⟩ (by simp) idH
 try simp only [cS] at hc0
 refine Z9 (Za (Za (Zh (sqt 2 rfl (pur 2 rfl (Z5 ?_))))))
 obtain rfl:k=1:=by omega
 exact rtA rfl rfl rfl ⟨rfl,rfl,rfl⟩ drp
theorem Z47 (xs:List Int) (a:Option Addr) (c g:Nat) (fst cap:List Value) (p:Int→Bool) (hg:cal Tryz.prog g=true) (hl:xs.length≤9223372036854775807) (H:Z8) (R:Z4) [hR:MemRows a 1 (Z6 xs) R] (hp:∀ x,x∈xs→FnV Tryz.prog g (fst++[.int .i64 x]++cap) H R (.bool (p x))) :
    FnV Tryz.prog 224 [.slice a xs.length c,.func (.func g) fst.toArray cap.toArray] H R (.int .i64 (match xs.findIdx? p with | some k=>(k:Int) | none => -1)):=by
 refine Zc Tryz.func224 rfl Tryz.ntmps224 rfl ?_
 refine sqt 1 rfl (pur 1 rfl (Z0 (sqt 3 rfl (pur 1 rfl (sp rfl (PE.lenSl ZT rfl) rfl (pur 1 rfl (Z3 ?_)))))))
 refine Zb (ι:={k:Nat // k≤xs.length∧∀ x∈xs.take k,p x=false}) (fun k=>⟨[(0,.slice a xs.length c),(1,.func (.func g) fst.toArray cap.toArray),(7,.int .i64 xs.length),(8,.int .i64 k.1)],H,R⟩) (fun k=>xs.length-k.1) ⟨0,by simp⟩ ?_ (fun k=>?_)
 exact Ze idH
 obtain ⟨k,hk,hn⟩:=k
 dsimp only
 refine sqt 1 rfl (pur 1 rfl (Z0 ?_))
 refine Z1 rfl ?_ ?_<;>intro hc0
 simp only [cS] at hc0
 obtain ⟨x,hx⟩:∃ x,xs[k]?=some x:=⟨_,List.getElem?_eq_getElem (by omega)⟩
 have hxm:=List.mem_of_getElem? hx
 refine Zi (a:=a) (sz:=1) (rows:=Z6 xs) (by cases xs<;>simp_all [Z6]) (fun b off he=>?_)
 subst he
 refine Z2 (Z0 (Z3 (sqt 2 rfl (pur 2 rfl (sqt 6 rfl (pur 3 rfl (sp rfl (PE.indexAddr Z0G rfl rfl (by omega) (by omega)) rfl (spL rfl rfl (lf0 sc3 (by simp [Z6,hx];rfl) rfl) rfl ?_))))))))
 refine Z3t rfl rfl (hg) rfl rfl (hp x hxm) ?_
 refine Z1 rfl ?_ ?_<;>intro hc1
 refine sqt 2 rfl (pur 2 rfl (Z5 ?_))
 first | (exact rtA rfl rfl rfl ⟨by rw [ZE hx hn hc1];rfl,rfl,rfl⟩ idH) | (exact rtA rfl rfl rfl ⟨by rw [Zv (by simpa using hn)];rfl,rfl,rfl⟩ idH)
 refine Z2 (sqr 2 rfl (sp rfl (PE.add rfl rfl (by omega)) rfl (pur 1 rfl ?_)))
 exact Z7 ⟨k+1,by omega,Z09 hx hn hc1⟩ idH
 simp only [cS] at hc0
 obtain rfl:k=xs.length:=by omega
 refine Z9 (Za (Za (Zh (sqt 1 rfl (pur 1 rfl (Z5 ?_))))))
 first | (exact rtA rfl rfl rfl ⟨by rw [ZE hx hn hc1];rfl,rfl,rfl⟩ idH) | (exact rtA rfl rfl rfl ⟨by rw [Zv (by simpa using hn)];rfl,rfl,rfl⟩ idH)
theorem Z46 (xs:List Int) (a:Option Addr) (c g:Nat) (fst cap:List Value) (p:Int→Bool) (hg:cal Tryz.prog g=true) (hl:xs.length≤9223372036854775807) (H:Z8) (R:Z4) [hR:MemRows a 1 (Z6 xs) R] (hp:∀ x,x∈xs→FnV Tryz.prog g (fst++[.int .i64 x]++cap) H R (.bool (p x))) :
    FnV Tryz.prog 148 [.slice a xs.length c,.func (.func g) fst.toArray cap.toArray] H R (.bool (xs.any p)):=by
 refine Zc Tryz.func148 rfl Tryz.ntmps148 rfl ?_
 refine sqt 1 rfl (pur 1 rfl (sqt 5 rfl (pur 2 rfl ?_)))
 refine clV rfl Zas rfl rfl (Z47 xs a c g fst cap p hg hl _ _ hp) ?_
 refine pur 2 rfl (Z5 ?_)
 exact rtA rfl rfl rfl ⟨by simp only [ZP];exact Z1j _ _,rfl,rfl⟩ drp
theorem Z9T (x:Int) (g bf:Nat) (fst cap:List Value) (p:Bool) (hg:cal Tryz.prog g=true) (H:Z8) (R:Z4) [hM:Mem1 bf (cel 100 [.func (.func g) fst.toArray cap.toArray]) H] (hp:FnV Tryz.prog g (fst++[.int .i64 x]++cap) H R (.bool p)) :
    FnV Tryz.prog 208 [.int .i64 x,.pointer (some ⟨bf,0,none⟩)] H R (.bool !p):=by
 refine Zc Tryz.func208 rfl Tryz.ntmps208 rfl ?_
 refine sqt 1 rfl (pur 1 rfl (sqt 5 rfl (spL rfl rfl (lh Z3k rfl rfl) rfl (pur 1 rfl ?_))))
 refine Z3t rfl rfl (hg) rfl rfl (hp) ?_
 refine pur 2 rfl (Z5 ?_)
 exact rtA rfl rfl rfl ⟨rfl,rfl,rfl⟩ drp
theorem Z76 (xs:List Int) (a:Option Addr) (c g:Nat) (fst cap:List Value) (p:Int→Bool) (hg:cal Tryz.prog g=true) (hl:xs.length≤9223372036854775807) (H:Z8) (R:Z4) [hR:MemRows a 1 (Z6 xs) R] (hp:∀ b x,x∈xs→FnV Tryz.prog g (fst++[.int .i64 x]++cap) ((b,cel 100 [.func (.func g) fst.toArray cap.toArray])::H) R (.bool (p x))) :
    FnV Tryz.prog 126 [.slice a xs.length c,.func (.func g) fst.toArray cap.toArray] H R (.bool (xs.all p)):=by
 refine Zc Tryz.func126 rfl Tryz.ntmps126 rfl ?_
 refine sqt 2 rfl (bx rfl rfl rfl (fun b3=>pur 1 rfl (sqt 5 rfl (pur 1 rfl (sp rfl (PE.makeFunc rfl rfl) rfl ?_)))))
 refine clV rfl Zal rfl rfl (Z46 xs a c 208 [] [_] (fun x=>!p x) Zha hl _ _ (hp:=fun x hx=>Z9T x g _ fst cap (p x) hg _ _ (hp:=hp _ x hx))) ?_
 refine pur 2 rfl (Z5 ?_)
 exact rtA rfl rfl rfl ⟨by simp only [ZP];rw [ZX],rfl,rfl⟩ drp
theorem Za8 (xs:List Gp) (a:Option Addr) (c g:Nat) (fst cap:List Value) (p:Gp→Bool) (hg:cal Tryz.prog g=true) (hl:xs.length≤9223372036854775807) (H:Z8) (R:Z4) [hR:MemRows a 2 (grows xs) R] (hp:∀ x,x∈xs→FnV Tryz.prog g (fst++[.agg (grow x).toArray]++cap) H R (.bool (p x))) :
    FnV Tryz.prog 261 [.slice a xs.length c,.func (.func g) fst.toArray cap.toArray] H R (.int .i64 (match xs.findIdx? p with | some k=>(k:Int) | none => -1)):=by
 refine Zc Tryz.func261 rfl Tryz.ntmps261 rfl ?_
 refine sqt 1 rfl (pur 1 rfl (Z0 (sqt 3 rfl (pur 1 rfl (sp rfl (PE.lenSl Z7n rfl) rfl (pur 1 rfl (Z3 ?_)))))))
 refine Zb (ι:={k:Nat // k≤xs.length∧∀ x∈xs.take k,p x=false}) (fun k=>⟨[(0,.slice a xs.length c),(1,.func (.func g) fst.toArray cap.toArray),(7,.int .i64 xs.length),(8,.int .i64 k.1)],H,R⟩) (fun k=>xs.length-k.1) ⟨0,by simp⟩ ?_ (fun k=>?_)
 exact Ze idH
 obtain ⟨k,hk,hn⟩:=k
 dsimp only
 refine sqt 1 rfl (pur 1 rfl (Z0 ?_))
 refine Z1 rfl ?_ ?_<;>intro hc0
 simp only [cS] at hc0
 obtain ⟨x,hx⟩:∃ x,xs[k]?=some x:=⟨_,List.getElem?_eq_getElem (by omega)⟩
 have hxm:=List.mem_of_getElem? hx
 refine Zi (a:=a) (sz:=2) (rows:=grows xs) (by cases xs<;>simp_all [grows]) (fun b off he=>?_)
 subst he
 refine Z2 (Z0 (Z3 (sqt 2 rfl (pur 2 rfl (sqt 6 rfl (pur 3 rfl (sp rfl (PE.indexAddr ZcN rfl rfl (by omega) (by omega)) rfl (spL rfl rfl (lfA Zcd (row:=grow x) (by simp [grows,hx]) rfl) rfl ?_))))))))
 refine Z3t rfl rfl (hg) rfl rfl (hp x hxm) ?_
 refine Z1 rfl ?_ ?_<;>intro hc1
 refine sqt 2 rfl (pur 2 rfl (Z5 ?_))
 first | (exact rtA rfl rfl rfl ⟨by rw [ZE hx hn hc1];rfl,rfl,rfl⟩ idH) | (exact rtA rfl rfl rfl ⟨by rw [Zv (by simpa using hn)];rfl,rfl,rfl⟩ idH)
 refine Z2 (sqr 2 rfl (sp rfl (PE.add rfl rfl (by omega)) rfl (pur 1 rfl ?_)))
 exact Z7 ⟨k+1,by omega,Z09 hx hn hc1⟩ idH
 simp only [cS] at hc0
 obtain rfl:k=xs.length:=by omega
 refine Z9 (Za (Za (Zh (sqt 1 rfl (pur 1 rfl (Z5 ?_))))))
 first | (exact rtA rfl rfl rfl ⟨by rw [ZE hx hn hc1];rfl,rfl,rfl⟩ idH) | (exact rtA rfl rfl rfl ⟨by rw [Zv (by simpa using hn)];rfl,rfl,rfl⟩ idH)
theorem Za1 (xs:List Gp) (a:Option Addr) (c g:Nat) (fst cap:List Value) (p:Gp→Bool) (hg:cal Tryz.prog g=true) (hl:xs.length≤9223372036854775807) (H:Z8) (R:Z4) [hR:MemRows a 2 (grows xs) R] (hp:∀ x,x∈xs→FnV Tryz.prog g (fst++[.agg (grow x).toArray]++cap) H R (.bool (p x))) :
    FnV Tryz.prog 206 [.slice a xs.length c,.func (.func g) fst.toArray cap.toArray] H R (.bool (xs.any p)):=by
 refine Zc Tryz.func206 rfl Tryz.ntmps206 rfl ?_
 refine sqt 1 rfl (pur 1 rfl (sqt 5 rfl (pur 2 rfl ?_)))
 refine clV rfl Zhw rfl rfl (Za8 xs a c g fst cap p hg hl _ _ hp) ?_
 refine pur 2 rfl (Z5 ?_)
 exact rtA rfl rfl rfl ⟨by simp only [ZP];exact Z1j _ _,rfl,rfl⟩ drp
theorem Z9S (x:Gp) (g bf:Nat) (fst cap:List Value) (p:Bool) (hg:cal Tryz.prog g=true) (H:Z8) (R:Z4) [hM:Mem1 bf (cel 245 [.func (.func g) fst.toArray cap.toArray]) H] (hp:∀ b,FnV Tryz.prog g (fst++[.agg (grow x).toArray]++cap) ((b,cel 97 (grow x))::H) R (.bool p)) :
    FnV Tryz.prog 207 [.agg (grow x).toArray,.pointer (some ⟨bf,0,none⟩)] H R (.bool !p):=by
 refine Zc Tryz.func207 rfl Tryz.ntmps207 rfl ?_
 refine sqt 2 rfl (bx rfl rfl rfl (fun b2=>pur 1 rfl (sqt 5 rfl (spL rfl rfl (lh ZjW rfl rfl) rfl (spL rfl rfl (lhA [_,_] Zcd rfl rfl rfl) rfl ?_)))))
 refine Z3t rfl rfl (hg) rfl rfl (hp _) ?_
 refine pur 2 rfl (Z5 ?_)
 exact rtA rfl rfl rfl ⟨rfl,rfl,rfl⟩ drp
theorem Z45 (xs:List Gp) (a:Option Addr) (c g:Nat) (fst cap:List Value) (p:Gp→Bool) (hg:cal Tryz.prog g=true) (hl:xs.length≤9223372036854775807) (H:Z8) (R:Z4) [hR:MemRows a 2 (grows xs) R] (hp:∀ b b2 x,x∈xs→FnV Tryz.prog g (fst++[.agg (grow x).toArray]++cap) ((b2,cel 97 (grow x))::(b,cel 245 [.func (.func g) fst.toArray cap.toArray])::H) R (.bool (p x))) :
    FnV Tryz.prog 122 [.slice a xs.length c,.func (.func g) fst.toArray cap.toArray] H R (.bool (xs.all p)):=by
 refine Zc Tryz.func122 rfl Tryz.ntmps122 rfl ?_
 refine sqt 2 rfl (bx rfl rfl rfl (fun b3=>pur 1 rfl (sqt 5 rfl (pur 1 rfl (sp rfl (PE.makeFunc rfl rfl) rfl ?_)))))
 refine clV rfl Zh8 rfl rfl (Za1 xs a c 207 [] [_] (fun x=>!p x) Zh9 hl _ _ (hp:=fun x hx=>Z9S x g _ fst cap (p x) hg _ _ (hp:=fun b=>hp _ _ x hx))) ?_
 refine pur 2 rfl (Z5 ?_)
 exact rtA rfl rfl rfl ⟨by simp only [ZP];rw [ZX],rfl,rfl⟩ drp
theorem Zac (xs:List Sgt) (a:Option Addr) (c g:Nat) (fst cap:List Value) (p:Sgt→Bool) (hg:cal Tryz.prog g=true) (hl:xs.length≤9223372036854775807) (H:Z8) (R:Z4) [hR:MemRows a 3 (srows xs) R] (hp:∀ x,x∈xs→FnV Tryz.prog g (fst++[.agg (Z6Y x).toArray]++cap) H R (.bool (p x))) :
    FnV Tryz.prog 260 [.slice a xs.length c,.func (.func g) fst.toArray cap.toArray] H R (.int .i64 (match xs.findIdx? p with | some k=>(k:Int) | none => -1)):=by
 refine Zc Tryz.func260 rfl Tryz.ntmps260 rfl ?_
 refine sqt 1 rfl (pur 1 rfl (Z0 (sqt 3 rfl (pur 1 rfl (sp rfl (PE.lenSl ZcV rfl) rfl (pur 1 rfl (Z3 ?_)))))))
 refine Zb (ι:={k:Nat // k≤xs.length∧∀ x∈xs.take k,p x=false}) (fun k=>⟨[(0,.slice a xs.length c),(1,.func (.func g) fst.toArray cap.toArray),(7,.int .i64 xs.length),(8,.int .i64 k.1)],H,R⟩) (fun k=>xs.length-k.1) ⟨0,by simp⟩ ?_ (fun k=>?_)
 exact Ze idH
 obtain ⟨k,hk,hn⟩:=k
 dsimp only
 refine sqt 1 rfl (pur 1 rfl (Z0 ?_))
 refine Z1 rfl ?_ ?_<;>intro hc0
 simp only [cS] at hc0
 obtain ⟨x,hx⟩:∃ x,xs[k]?=some x:=⟨_,List.getElem?_eq_getElem (by omega)⟩
 have hxm:=List.mem_of_getElem? hx
 refine Zi (a:=a) (sz:=3) (rows:=srows xs) (by cases xs<;>simp_all [srows]) (fun b off he=>?_)
 subst he
 refine Z2 (Z0 (Z3 (sqt 2 rfl (pur 2 rfl (sqt 6 rfl (pur 3 rfl (sp rfl (PE.indexAddr Zkk rfl rfl (by omega) (by omega)) rfl (spL rfl rfl (lfA Zet (row:=Z6Y x) (by simp [srows,hx]) rfl) rfl ?_))))))))
 refine Z3t rfl rfl (hg) rfl rfl (hp x hxm) ?_
 refine Z1 rfl ?_ ?_<;>intro hc1
 refine sqt 2 rfl (pur 2 rfl (Z5 ?_))
 first | (exact rtA rfl rfl rfl ⟨by rw [ZE hx hn hc1];rfl,rfl,rfl⟩ idH) | (exact rtA rfl rfl rfl ⟨by rw [Zv (by simpa using hn)];rfl,rfl,rfl⟩ idH)
 refine Z2 (sqr 2 rfl (sp rfl (PE.add rfl rfl (by omega)) rfl (pur 1 rfl ?_)))
 exact Z7 ⟨k+1,by omega,Z09 hx hn hc1⟩ idH
 simp only [cS] at hc0
 obtain rfl:k=xs.length:=by omega
 refine Z9 (Za (Za (Zh (sqt 1 rfl (pur 1 rfl (Z5 ?_))))))
 first | (exact rtA rfl rfl rfl ⟨by rw [ZE hx hn hc1];rfl,rfl,rfl⟩ idH) | (exact rtA rfl rfl rfl ⟨by rw [Zv (by simpa using hn)];rfl,rfl,rfl⟩ idH)
theorem Za5 (xs:List Sgt) (a:Option Addr) (c g:Nat) (fst cap:List Value) (p:Sgt→Bool) (hg:cal Tryz.prog g=true) (hl:xs.length≤9223372036854775807) (H:Z8) (R:Z4) [hR:MemRows a 3 (srows xs) R] (hp:∀ x,x∈xs→FnV Tryz.prog g (fst++[.agg (Z6Y x).toArray]++cap) H R (.bool (p x))) :
    FnV Tryz.prog 204 [.slice a xs.length c,.func (.func g) fst.toArray cap.toArray] H R (.bool (xs.any p)):=by
 refine Zc Tryz.func204 rfl Tryz.ntmps204 rfl ?_
 refine sqt 1 rfl (pur 1 rfl (sqt 5 rfl (pur 2 rfl ?_)))
 refine clV rfl Zhv rfl rfl (Zac xs a c g fst cap p hg hl _ _ hp) ?_
 refine pur 2 rfl (Z5 ?_)
 exact rtA rfl rfl rfl ⟨by simp only [ZP];exact Z1j _ _,rfl,rfl⟩ drp
theorem Z9X (x:Sgt) (g bf:Nat) (fst cap:List Value) (p:Bool) (hg:cal Tryz.prog g=true) (H:Z8) (R:Z4) [hM:Mem1 bf (cel 243 [.func (.func g) fst.toArray cap.toArray]) H] (hp:∀ b,FnV Tryz.prog g (fst++[.agg (Z6Y x).toArray]++cap) ((b,cel 242 (Z6Y x))::H) R (.bool p)) :
    FnV Tryz.prog 205 [.agg (Z6Y x).toArray,.pointer (some ⟨bf,0,none⟩)] H R (.bool !p):=by
 refine Zc Tryz.func205 rfl Tryz.ntmps205 rfl ?_
 refine sqt 2 rfl (bx rfl rfl rfl (fun b2=>pur 1 rfl (sqt 5 rfl (spL rfl rfl (lh ZjV rfl rfl) rfl (spL rfl rfl (lhA [_,_,_] Zet rfl rfl rfl) rfl ?_)))))
 refine Z3t rfl rfl (hg) rfl rfl (hp _) ?_
 refine pur 2 rfl (Z5 ?_)
 exact rtA rfl rfl rfl ⟨rfl,rfl,rfl⟩ drp
theorem Z0X (xs:List Sgt) (a:Option Addr) (c g:Nat) (fst cap:List Value) (p:Sgt→Bool) (hg:cal Tryz.prog g=true) (hl:xs.length≤9223372036854775807) (H:Z8) (R:Z4) [hR:MemRows a 3 (srows xs) R] (hp:∀ b b2 x,x∈xs→FnV Tryz.prog g (fst++[.agg (Z6Y x).toArray]++cap) ((b2,cel 242 (Z6Y x))::(b,cel 243 [.func (.func g) fst.toArray cap.toArray])::H) R (.bool (p x))) :
    FnV Tryz.prog 120 [.slice a xs.length c,.func (.func g) fst.toArray cap.toArray] H R (.bool (xs.all p)):=by
 refine Zc Tryz.func120 rfl Tryz.ntmps120 rfl ?_
 refine sqt 2 rfl (bx rfl rfl rfl (fun b3=>pur 1 rfl (sqt 5 rfl (pur 1 rfl (sp rfl (PE.makeFunc rfl rfl) rfl ?_)))))
 refine clV rfl Zh6 rfl rfl (Za5 xs a c 205 [] [_] (fun x=>!p x) Zh7 hl _ _ (hp:=fun x hx=>Z9X x g _ fst cap (p x) hg _ _ (hp:=fun b=>hp _ _ x hx))) ?_
 refine pur 2 rfl (Z5 ?_)
 exact rtA rfl rfl rfl ⟨by simp only [ZP];rw [ZX],rfl,rfl⟩ drp
theorem Z5l (h:Hse) (hb:1≤h.bins∧h.bins≤7) (sg ss:Value) (n:Int) (H:Z8) (R:Z4) :
    FnV Tryz.prog 63 [h.v sg ss,.int .i64 n] H R (.bool (inB n 0 (h.bins-1))):=by
 refine Zc Tryz.func63 rfl Tryz.ntmps63 rfl ?_
 refine sqt 2 rfl (bx rfl rfl rfl (fun b2=>pur 1 rfl (sqt 6 rfl (pur 1 rfl (sp rfl (PE.fA Z2r rfl) rfl (spL rfl rfl (lh sc3 rfl rfl) rfl (sp rfl (PE.sub rfl rfl (by omega)) rfl ?_)))))))
 refine clV rfl Z53 rfl rfl (ZdD _ _ _ _ _) ?_
 refine pur 1 rfl (Z5 ?_)
 exact rtA rfl rfl rfl ⟨rfl,rfl,rfl⟩ drp
theorem Zjf (h:Hse) (hlg:h.gaps.length≤1000000) (ag:Option Addr) (cg:Nat) (ss:Value) (n:Int) (H:Z8) (R:Z4) :
    FnV Tryz.prog 141 [h.v (h.sg ag cg) ss,.int .i64 n] H R (.bool (inB n 0 ((h.gaps.length:Int)-1))):=by
 refine Zc Tryz.func141 rfl Tryz.ntmps141 rfl ?_
 refine sqt 2 rfl (bx rfl rfl rfl (fun b2=>pur 1 rfl (sqt 7 rfl (pur 1 rfl (sp rfl (PE.fA Z10 rfl) rfl (spL rfl rfl (lh Z7B rfl rfl) rfl (sp rfl (PE.lenSl Z7n rfl) rfl (sp rfl (PE.sub rfl rfl (by omega)) rfl ?_))))))))
 refine clV rfl Z53 rfl rfl (ZdD _ _ _ _ _) ?_
 refine pur 1 rfl (Z5 ?_)
 exact rtA rfl rfl rfl ⟨rfl,rfl,rfl⟩ drp
theorem Zgg (x:Sgt) (H:Z8) (R:Z4) :
    FnV Tryz.prog 121 [.agg (Z6Y x).toArray] H R (.bool (inB x.week 0 9)):=by
 refine Zc Tryz.func121 rfl Tryz.ntmps121 rfl ?_
 refine sqt 2 rfl (bx rfl rfl rfl (fun b1=>pur 1 rfl (sqt 4 rfl (sp rfl (PE.fA Z7i rfl) rfl (spL rfl rfl (lh sc3 rfl rfl) rfl ?_)))))
 refine clV rfl Z53 rfl rfl (ZdD _ _ _ _ _) ?_
 refine pur 1 rfl (Z5 ?_)
 exact rtA rfl rfl rfl ⟨rfl,rfl,rfl⟩ drp
theorem Zgh (h:Hse) (hb:1≤h.bins∧h.bins≤7) (sg ss:Value) (bf:Nat) (x:Gp) (H:Z8) (R:Z4) [hM:Mem1 bf (cel 100 [.func (.func 63) #[h.v sg ss] #[]]) H] :
    FnV Tryz.prog 123 [.agg (grow x).toArray,.pointer (some ⟨bf,0,none⟩)] H R (.bool (inB x.a 0 (h.bins-1)&&inB x.b 0 (h.bins-1))):=by
 refine Zc Tryz.func123 rfl Tryz.ntmps123 rfl ?_
 refine sqt 2 rfl (bx rfl rfl rfl (fun b2=>pur 1 rfl (sqt 11 rfl (spL rfl rfl (lh Z3k rfl rfl) rfl (sp rfl (PE.fA Z19 rfl) rfl (spL rfl rfl (lh sc3 rfl rfl) rfl ?_))))))
 refine Z3t rfl rfl (Zav) rfl rfl (Z5l h hb sg ss _ _ _) ?_
 refine pur 1 rfl ?_
 refine Zw 8 rfl ?_ ?_<;>intro g8
 refine Z0U rfl rfl rfl rfl rfl (lh Z3k rfl rfl) rfl ?_
 refine spG rfl rfl rfl rfl (PE.fA Z1a rfl) rfl ?_
 refine Z0U rfl rfl rfl rfl rfl (lh sc3 rfl rfl) rfl ?_
 refine Z7a rfl rfl rfl rfl rfl (Zav) rfl rfl (Z5l h hb sg ss _ _ _) ?_
 refine pur 2 rfl (Z5 ?_)
 exact rtA rfl rfl rfl ⟨by simp_all only [ZP,Bool.true_and,Bool.false_and,cond_true,cond_false],rfl,rfl⟩ drp
 refine pur 6 rfl (Z5 ?_)
 exact rtA rfl rfl rfl ⟨by simp_all only [ZP,Bool.true_and,Bool.false_and,cond_true,cond_false],rfl,rfl⟩ drp
theorem Zgi (h:Hse) (hb:1≤h.bins∧h.bins≤7) (sg ss:Value) (bf:Nat) (x:Sgt) (H:Z8) (R:Z4) [hM:Mem1 bf (cel 100 [.func (.func 63) #[h.v sg ss] #[]]) H] :
    FnV Tryz.prog 124 [.agg (Z6Y x).toArray,.pointer (some ⟨bf,0,none⟩)] H R (.bool (inB x.bin 0 (h.bins-1))):=by
 refine Zc Tryz.func124 rfl Tryz.ntmps124 rfl ?_
 refine sqt 2 rfl (bx rfl rfl rfl (fun b2=>pur 1 rfl (sqt 5 rfl (spL rfl rfl (lh Z3k rfl rfl) rfl (sp rfl (PE.fA Z7j rfl) rfl (spL rfl rfl (lh sc3 rfl rfl) rfl ?_))))))
 refine Z3t rfl rfl (Zav) rfl rfl (Z5l h hb sg ss _ _ _) ?_
 refine pur 1 rfl (Z5 ?_)
 exact rtA rfl rfl rfl ⟨rfl,rfl,rfl⟩ drp
theorem Zgj (x:Gp) (H:Z8) (R:Z4) :
    FnV Tryz.prog 125 [.agg (grow x).toArray] H R (.bool (!decide (x=⟨x.b,x.a⟩))):=by
 refine Zc Tryz.func125 rfl Tryz.ntmps125 rfl ?_
 refine sqt 2 rfl (bx rfl rfl rfl (fun b1=>pur 1 rfl (sqt 8 rfl (spL rfl rfl (lhA (grow x) Zcd rfl rfl rfl) rfl (sp rfl (PE.fA Z1a rfl) rfl (spL rfl rfl (lh sc3 rfl rfl) rfl (sp rfl (PE.fA Z19 rfl) rfl (spL rfl rfl (lh sc3 rfl rfl) rfl (sp rfl (PE.build (out:=[_,_]) Zc7 Z6W rfl rfl) rfl (sp rfl (PE.neqAgg [x.a,x.b] [x.b,x.a] (Z2M 10000 97 true 2 ZjI) ZjK rfl rfl rfl rfl) rfl (pur 1 rfl (Z5 ?_))))))))))))
 exact rtA rfl rfl rfl ⟨by simp only [ZP];cases x;simp [Gp.mk.injEq],rfl,rfl⟩ drp
theorem Z1P (h:Hse) (ag as_:Option Addr) (cg cs:Nat) (hlg:h.gaps.length≤9223372036854775807) (hls:h.sights.length≤9223372036854775807) (H:Z8) (R:Z4) [hG:MemRows ag 2 (grows h.gaps) R] [hS:MemRows as_ 3 (srows h.sights) R] :
    FnV Tryz.prog 61 [h.v (h.sg ag cg) (h.ss as_ cs)] H R (.int .i64 h.check):=by
 refine Zc Tryz.func61 rfl Tryz.ntmps61 rfl ?_
 refine sqt 2 rfl (bx rfl rfl rfl (fun b1=>pur 1 rfl (sqt 4 rfl (spL rfl rfl (lhA (htl h (h.sg ag cg) (h.ss as_ cs)) Z2m rfl rfl rfl) rfl (sp rfl (PE.makeFunc rfl rfl) rfl (alc rfl Zdu rfl (fun b3=>?_)))))))
 refine sto rfl rfl rfl ZcE rfl rfl rfl rfl ?_
 refine Z0 (Z3 (sqt 17 rfl (sp rfl (PE.fA Z2r rfl) rfl (spL rfl rfl (lh sc3 rfl rfl) rfl ?_))))
 refine clV rfl Z53 rfl rfl (ZdD _ _ _ _ _) ?_
 refine pur 2 rfl ?_
 refine Zw 11 rfl ?_ ?_<;>intro g11
 refine pur 12 rfl ?_
 refine Z0S rfl ?_
 refine sqt 1 rfl (pur 1 rfl (Z5 ?_))
 exact rtA rfl rfl rfl ⟨congrArg (Value.int .i64) (by have e10:decide ((10:Int)<(h.gaps.length:Int))=decide (10<h.gaps.length):=decide_eq_decide.2 (by omega);have e8:decide ((8:Int)<(h.sights.length:Int))=decide (8<h.sights.length):=decide_eq_decide.2 (by omega);simp_all only [ZP,Hse.check,cond_true,cond_false,Bool.not_true,Bool.not_false,Bool.not_eq_true',Bool.not_eq_false',Bool.true_or,Bool.or_true,Bool.false_or,Bool.or_false]),rfl,rfl⟩ (fun w h=>by first | exact (h.del b3).del b1 | exact h.del b1)
 refine spG rfl rfl rfl rfl (PE.fA Z10 rfl) rfl ?_
 refine Z0U rfl rfl rfl rfl rfl (lh Z7B rfl rfl) rfl ?_
 refine spG rfl rfl rfl rfl (PE.lenSl Z7n rfl) rfl ?_
 refine pur 3 rfl ?_
 refine Zw 17 rfl ?_ ?_<;>intro g17
 refine pur 6 rfl ?_
 refine Z0S rfl ?_
 refine sqt 1 rfl (pur 1 rfl (Z5 ?_))
 exact rtA rfl rfl rfl ⟨congrArg (Value.int .i64) (by have e10:decide ((10:Int)<(h.gaps.length:Int))=decide (10<h.gaps.length):=decide_eq_decide.2 (by omega);have e8:decide ((8:Int)<(h.sights.length:Int))=decide (8<h.sights.length):=decide_eq_decide.2 (by omega);simp_all only [ZP,Hse.check,cond_true,cond_false,Bool.not_true,Bool.not_false,Bool.not_eq_true',Bool.not_eq_false',Bool.true_or,Bool.or_true,Bool.false_or,Bool.or_false]),rfl,rfl⟩ (fun w h=>by first | exact (h.del b3).del b1 | exact h.del b1)
 refine spG rfl rfl rfl rfl (PE.fA Z2N rfl) rfl ?_
 refine Z0U rfl rfl rfl rfl rfl (lh Zc8 rfl rfl) rfl ?_
 refine spG rfl rfl rfl rfl (PE.lenSl ZcV rfl) rfl ?_
 refine pur 3 rfl ?_
 refine Z1 rfl ?_ ?_<;>intro hc0
 refine sqt 1 rfl (pur 1 rfl (Z5 ?_))
 exact rtA rfl rfl rfl ⟨congrArg (Value.int .i64) (by have e10:decide ((10:Int)<(h.gaps.length:Int))=decide (10<h.gaps.length):=decide_eq_decide.2 (by omega);have e8:decide ((8:Int)<(h.sights.length:Int))=decide (8<h.sights.length):=decide_eq_decide.2 (by omega);simp_all only [ZP,Hse.check,cond_true,cond_false,Bool.not_true,Bool.not_false,Bool.not_eq_true',Bool.not_eq_false',Bool.true_or,Bool.or_true,Bool.false_or,Bool.or_false]),rfl,rfl⟩ (fun w h=>by first | exact (h.del b3).del b1 | exact h.del b1)
 refine sqt 5 rfl (sp rfl (PE.fA Z2N rfl) rfl (spL rfl rfl (lh Zc8 rfl rfl) rfl ?_))
 refine clV rfl Z6c rfl rfl (Z0X h.sights as_ cs 121 [] [] (fun s=>inB s.week 0 9) ZgC hls _ _ (fun _ _ x _=>Zgg x _ _)) ?_
 refine pur 2 rfl ?_
 refine Z1 rfl ?_ ?_<;>intro hc1
 refine sqt 1 rfl (pur 1 rfl (Z5 ?_))
 exact rtA rfl rfl rfl ⟨congrArg (Value.int .i64) (by have e10:decide ((10:Int)<(h.gaps.length:Int))=decide (10<h.gaps.length):=decide_eq_decide.2 (by omega);have e8:decide ((8:Int)<(h.sights.length:Int))=decide (8<h.sights.length):=decide_eq_decide.2 (by omega);simp_all only [ZP,Hse.check,cond_true,cond_false,Bool.not_true,Bool.not_false,Bool.not_eq_true',Bool.not_eq_false',Bool.true_or,Bool.or_true,Bool.false_or,Bool.or_false]),rfl,rfl⟩ (fun w h=>by first | exact (h.del b3).del b1 | exact h.del b1)
 refine sqt 13 rfl ?_
 have hb7:1≤h.bins∧h.bins≤7:=by
   have h9:inB h.bins 1 7=true:=by simp_all
   simp only [inB,Bool.and_eq_true,decide_eq_true_eq] at h9;exact h9
 refine sp rfl (PE.fA Z10 rfl) rfl (spL rfl rfl (lh Z7B rfl rfl) rfl (sp rfl (PE.makeFunc rfl rfl) rfl ?_))
 refine clV rfl ZdK rfl rfl (Z45 h.gaps ag cg 123 [] [_] (fun g=>inB g.a 0 (h.bins-1)&&inB g.b 0 (h.bins-1)) ZgD hlg _ _ (fun _ _ x _=>Zgh h hb7 (h.sg ag cg) (h.ss as_ cs) b3 x _ _)) ?_
 refine pur 2 rfl ?_
 refine Zw 34 rfl ?_ ?_<;>intro g34
 refine pur 7 rfl ?_
 refine Z0S rfl ?_
 refine sqt 1 rfl (pur 1 rfl (Z5 ?_))
 exact rtA rfl rfl rfl ⟨congrArg (Value.int .i64) (by have e10:decide ((10:Int)<(h.gaps.length:Int))=decide (10<h.gaps.length):=decide_eq_decide.2 (by omega);have e8:decide ((8:Int)<(h.sights.length:Int))=decide (8<h.sights.length):=decide_eq_decide.2 (by omega);simp_all only [ZP,Hse.check,cond_true,cond_false,Bool.not_true,Bool.not_false,Bool.not_eq_true',Bool.not_eq_false',Bool.true_or,Bool.or_true,Bool.false_or,Bool.or_false]),rfl,rfl⟩ (fun w h=>by first | exact (h.del b3).del b1 | exact h.del b1)
 refine spG rfl rfl rfl rfl (PE.fA Z2N rfl) rfl ?_
 refine Z0U rfl rfl rfl rfl rfl (lh Zc8 rfl rfl) rfl ?_
 refine spG rfl rfl rfl rfl (PE.makeFunc rfl rfl) rfl ?_
 refine Z9t rfl rfl rfl rfl Z6c rfl rfl (Z0X h.sights as_ cs 124 [] [_] (fun s=>inB s.bin 0 (h.bins-1)) ZgE hls _ _ (fun _ _ x _=>Zgi h hb7 (h.sg ag cg) (h.ss as_ cs) b3 x _ _)) ?_
 refine pur 3 rfl ?_
 refine Z1 rfl ?_ ?_<;>intro hc2
 refine sqt 1 rfl (pur 1 rfl (Z5 ?_))
 exact rtA rfl rfl rfl ⟨congrArg (Value.int .i64) (by have e10:decide ((10:Int)<(h.gaps.length:Int))=decide (10<h.gaps.length):=decide_eq_decide.2 (by omega);have e8:decide ((8:Int)<(h.sights.length:Int))=decide (8<h.sights.length):=decide_eq_decide.2 (by omega);simp_all only [ZP,Hse.check,cond_true,cond_false,Bool.not_true,Bool.not_false,Bool.not_eq_true',Bool.not_eq_false',Bool.true_or,Bool.or_true,Bool.false_or,Bool.or_false]),rfl,rfl⟩ (fun w h=>by first | exact (h.del b3).del b1 | exact h.del b1)
 refine sqt 5 rfl (sp rfl (PE.fA Z10 rfl) rfl (spL rfl rfl (lh Z7B rfl rfl) rfl ?_))
 refine clV rfl ZdK rfl rfl (Z45 h.gaps ag cg 125 [] [] (fun g=>!decide (g=⟨g.b,g.a⟩)) ZgF hlg _ _ (fun _ _ x _=>Zgj x _ _)) ?_
 refine pur 2 rfl ?_
 refine Z1 rfl ?_ ?_<;>intro hc3
 refine sqt 1 rfl (pur 1 rfl (Z5 ?_))
 exact rtA rfl rfl rfl ⟨congrArg (Value.int .i64) (by have e10:decide ((10:Int)<(h.gaps.length:Int))=decide (10<h.gaps.length):=decide_eq_decide.2 (by omega);have e8:decide ((8:Int)<(h.sights.length:Int))=decide (8<h.sights.length):=decide_eq_decide.2 (by omega);simp_all only [ZP,Hse.check,cond_true,cond_false,Bool.not_true,Bool.not_false,Bool.not_eq_true',Bool.not_eq_false',Bool.true_or,Bool.or_true,Bool.false_or,Bool.or_false]),rfl,rfl⟩ (fun w h=>by first | exact (h.del b3).del b1 | exact h.del b1)
 refine Z2 (sqt 1 rfl (pur 1 rfl (Z5 ?_)))
 exact rtA rfl rfl rfl ⟨congrArg (Value.int .i64) (by have e10:decide ((10:Int)<(h.gaps.length:Int))=decide (10<h.gaps.length):=decide_eq_decide.2 (by omega);have e8:decide ((8:Int)<(h.sights.length:Int))=decide (8<h.sights.length):=decide_eq_decide.2 (by omega);simp_all only [ZP,Hse.check,cond_true,cond_false,Bool.not_true,Bool.not_false,Bool.not_eq_true',Bool.not_eq_false',Bool.true_or,Bool.or_true,Bool.false_or,Bool.or_false]),rfl,rfl⟩ (fun w h=>by first | exact (h.del b3).del b1 | exact h.del b1)
theorem ZQ {l:List Int} {k:Nat} {x:Int} (h:l[k]?=some x):(Z6 l)[k]?=some [.int .i64 x]:=by simp [h]
theorem Z0I (l:List Int):(Z6 l).length=l.length:=List.length_map _
theorem Z78 (xs:List Int) (a:Option Addr) (c:Nat) (v:Int) (hl:xs.length≤9223372036854775807) (H:Z8) (R:Z4) [hR:MemRows a 1 (Z6 xs) R] :
    FnV Tryz.prog 45 [.slice a xs.length c,.int .i64 v] H R (.int .i64 (match xs.findIdx? (fun x=>decide (v=x)) with | some k=>(k:Int) | none => -1)):=by
 refine Zc Tryz.func45 rfl Tryz.ntmps45 rfl ?_
 refine sqt 1 rfl (pur 1 rfl (Z0 (sqt 3 rfl (pur 1 rfl (sp rfl (PE.lenSl ZT rfl) rfl (pur 1 rfl (Z3 ?_)))))))
 refine Zb (ι:={k:Nat // k≤xs.length∧∀ x∈xs.take k,decide (v=x)=false}) (fun k=>⟨[(0,.slice a xs.length c),(1,.int .i64 v),(7,.int .i64 xs.length),(8,.int .i64 k.1)],H,R⟩) (fun k=>xs.length-k.1) ⟨0,by simp⟩ ?_ (fun k=>?_)
 exact Ze idH
 obtain ⟨k,hk,hn⟩:=k
 dsimp only
 refine sqt 1 rfl (pur 1 rfl (Z0 ?_))
 refine Z1 rfl ?_ ?_<;>intro hc0<;>try simp only [cS] at hc0
 obtain ⟨x,hx⟩:∃ x,xs[k]?=some x:=⟨_,List.getElem?_eq_getElem (by omega)⟩
 refine Zi (a:=a) (sz:=1) (rows:=Z6 xs) (by cases xs<;>simp_all) (fun b off he=>?_)
 subst he
 refine Z2 (Z0 (Z3 (sqt 2 rfl (pur 2 rfl (sqt 6 rfl (pur 3 rfl (sp rfl (PE.indexAddr Z0G rfl rfl (by omega) (by omega)) rfl (spL rfl rfl (lf0 sc3 (ZQ hx) rfl) rfl (pur 1 rfl ?_)))))))))
 refine Z1 rfl ?_ ?_<;>intro hc1
 refine sqt 2 rfl (pur 2 rfl (Z5 ?_))
 first | (exact rtA rfl rfl rfl ⟨by rw [ZE hx hn hc1];rfl,rfl,rfl⟩ idH) | (exact rtA rfl rfl rfl ⟨by rw [Zv (by simpa using hn)];rfl,rfl,rfl⟩ idH)
 refine Z2 (sqr 2 rfl (sp rfl (PE.add rfl rfl (by omega)) rfl (pur 1 rfl ?_)))
 exact Z7 ⟨k+1,by omega,Z09 hx hn hc1⟩ idH
 obtain rfl:k=xs.length:=by omega
 refine Z9 (Za (Za (Zh (sqt 1 rfl (pur 1 rfl (Z5 ?_))))))
 first | (exact rtA rfl rfl rfl ⟨by rw [ZE hx hn hc1];rfl,rfl,rfl⟩ idH) | (exact rtA rfl rfl rfl ⟨by rw [Zv (by simpa using hn)];rfl,rfl,rfl⟩ idH)
theorem Z0g (xs:List Int) (a:Option Addr) (c:Nat) (v:Int) (hl:xs.length≤9223372036854775807) (H:Z8) (R:Z4) [hR:MemRows a 1 (Z6 xs) R] :
    FnV Tryz.prog 13 [.slice a xs.length c,.int .i64 v] H R (.bool (xs.any fun x=>decide (v=x))):=by
 refine Zc Tryz.func13 rfl Tryz.ntmps13 rfl ?_
 refine sqt 1 rfl (pur 1 rfl (sqt 5 rfl (pur 2 rfl ?_)))
 refine clV rfl Zjl rfl rfl (Z78 xs a c v hl _ _) ?_
 refine pur 2 rfl (Z5 ?_)
 exact rtA rfl rfl rfl ⟨by simp only [ZP];exact Z1j _ _,rfl,rfl⟩ drp
def Zea (p:Int→Bool) (l:List Int):Int:=bif !(l.all p) then 1 else bif (List.range l.length).any (Z7e l) then 5 else 0
theorem ZhR {l:List Int} {k:Nat} (h:∀ i<k,Z7e l i=false) (hk:k=l.length):(List.range l.length).any (Z7e l)=false:=by
 rw [List.any_eq_false];intro i hi;rw [h i (by have:=List.mem_range.1 hi;omega)];simp
theorem Zf9 {l:List Int} {k:Nat} (hk:k<l.length) (h:Z7e l k=true):(List.range l.length).any (Z7e l)=true:=List.any_eq_true.2 ⟨k,List.mem_range.2 hk,h⟩
theorem Z58 (l:List Int) (k:Nat):(Z6 l).take k=Z6 (l.take k):=(List.map_take).symm
theorem Z74 (xs:List Int) (n:Nat) (hn:xs.length=n) (a:Option Addr) (c:Nat) (v:Int) (hl:xs.length≤9223372036854775807) (H:Z8) (R:Z4) [hR:MemRows a 1 (Z6 xs) R]:FnV Tryz.prog 13 [.slice a n c,.int .i64 v] H R (.bool (Z5A xs v)):=by subst hn;exact Z0g xs a c v hl H R
set_option maxHeartbeats 400000 in
theorem Z5m (l:List Int) (a:Option Addr) (c g:Nat) (fst cap:List Value) (p:Int→Bool) (hg:cal Tryz.prog g=true) (hl:l.length≤9223372036854775807) (hlc:l.length≤c) (H:Z8) (R:Z4) [hR:MemRows a 1 (Z6 l) R] (hp:∀ b x,x∈l→FnV Tryz.prog g (fst++[.int .i64 x]++cap) ((b,cel 100 [.func (.func g) fst.toArray cap.toArray])::H) R (.bool (p x))) :
    FnV Tryz.prog 62 [.slice a l.length c,.func (.func g) fst.toArray cap.toArray] H R (.int .i64 (Zea p l)):=by
 refine Zc Tryz.func62 rfl Tryz.ntmps62 rfl ?_
 refine sqt 1 rfl (pur 1 rfl (Z0 (sqt 4 rfl (pur 2 rfl ?_))))
 refine clV rfl ZgG rfl rfl (Z76 l a c g fst cap p hg hl _ _ hp) ?_
 refine pur 1 rfl ?_
 refine Z1 rfl ?_ ?_<;>intro hc0<;>try simp only [cS] at hc0
 refine sqt 1 rfl (pur 1 rfl (Z5 ?_))
 exact rtA rfl rfl rfl ⟨by simp only [ZP];unfold Zea;rw [hc0];rfl,rfl,rfl⟩ drp
 have hall:l.all p=true:=by simpa using hc0
 refine Z2 (Z0 (sqt 3 rfl (pur 1 rfl (sp rfl (PE.lenSl ZT rfl) rfl (pur 1 rfl (Z3 ?_))))))
 refine Zb (ι:={k:Nat // k≤l.length∧∀ i<k,Z7e l i=false}) (fun k=>⟨[(0,.slice a l.length c),(11,.slice a l.length c),(12,.int .i64 l.length),(13,.int .i64 k.1)],H,R⟩) (fun k=>l.length-k.1) ⟨0,Nat.zero_le _,fun i hi=>absurd hi (Nat.not_lt_zero _)⟩ ?_ (fun k=>?_)
 exact Ze idH
 obtain ⟨k,hk,hd⟩:=k
 dsimp only at hk hd ⊢
 refine sqt 1 rfl (pur 1 rfl (Z0 ?_))
 refine Z1 rfl ?_ ?_<;>intro hc1<;>try simp only [cS] at hc1
 obtain ⟨x,hx⟩:∃ x,l[k]?=some x:=⟨_,List.getElem?_eq_getElem (by omega)⟩
 refine Zi (a:=a) (sz:=1) (rows:=Z6 l) (ne0 (by rw [Z0I];omega)) (fun ba oa he=>?_)
 subst he
 refine Z2 (Z0 (Z3 (sqt 5 rfl (pur 1 rfl (sp rfl (PE.indexAddr Z0G rfl rfl (by omega) (by omega)) rfl (spL rfl rfl (lf0 sc3 (ZQ hx) rfl) rfl (pur 2 rfl (sqt 5 rfl (pur 2 rfl (sp rfl (PE.slHi (h:=k) Z0F rfl rfl (by omega)) rfl ?_))))))))))
 refine Sy.heap (fun w h=>(Z58 l k▸St.rowsTake (a:=some ⟨ba,oa,none⟩) (sz:=1) (rows:=Z6 l) h k)) ?_
 refine pur 1 rfl ?_
 refine clV rfl Zai rfl rfl (Z74 (l.take k) k (by rw [List.length_take];omega) (some ⟨ba,oa,none⟩) c x (by rw [List.length_take];omega) _ _) ?_
 refine Z1 rfl ?_ ?_<;>intro hc2<;>try simp only [cS] at hc2
 have hdk:Z7e l k=true:=by unfold Z7e;rw [Z7t hx];exact hc2
 refine sqt 1 rfl (pur 1 rfl (Z5 ?_))
 exact rtA rfl rfl rfl ⟨by simp only [ZP];unfold Zea;rw [hall,Zf9 (by omega) hdk];rfl,rfl,rfl⟩ drp
 have hd2:∀ i<k+1,Z7e l i=false:=fun i hi=>by
   rcases Nat.lt_or_ge i k with h1 | h1
   · exact hd i h1
   · obtain rfl:i=k:=by omega
     unfold Z7e;rw [Z7t hx];exact hc2
 refine Z2 (sqr 2 rfl (sp rfl (PE.add rfl rfl (by omega)) rfl (pur 1 rfl ?_)))
 exact Z7 ⟨k+1,by omega,hd2⟩ (fun w h=>h.ftail)
 obtain rfl:k=l.length:=by omega
 refine Z9 (Za (Za (Zh (sqt 1 rfl (pur 1 rfl (Z5 ?_))))))
 exact rtA rfl rfl rfl ⟨by simp only [ZP];unfold Zea;rw [hall,ZhR hd rfl];rfl,rfl,rfl⟩ drp
theorem Z9C:Z2q Tryz.prog 172=some 7:=by kernel_rfl
theorem Z68:arN Tryz.prog 172=some (7,1):=by kernel_rfl
theorem ZgH:cal Tryz.prog 127=true:=by kernel_rfl
theorem Zah:cal Tryz.prog 128=true:=by kernel_rfl
theorem ZgI:cal Tryz.prog 129=true:=by kernel_rfl
theorem Zap:cal Tryz.prog 209=true:=by kernel_rfl
theorem ZcF:ZJ Tryz.prog 172=some 7:=by kernel_rfl
theorem cn3:ZJ Tryz.prog 3=some 1:=by kernel_rfl
theorem ZhO:ZJ Tryz.prog 97=some 2:=by kernel_rfl
theorem ZhV:eqB Tryz.prog 10000 172=some (true,7):=by kernel_rfl
theorem ZhW:Tryz.prog.eqGuardType Tryz.prog.depth 172=false:=by kernel_rfl
theorem Z1h:Z0m Tryz.prog 247 0=some 0:=by kernel_rfl
theorem ZaS:Z0m Tryz.prog 247 1=some 3:=by kernel_rfl
theorem ZjN:Z00 Tryz.prog 247=some [(0,3),(3,1)]:=by kernel_rfl
theorem Z4x:Z17 Tryz.prog 173=true:=by kernel_rfl
theorem Zc1:ZD Tryz.prog 172=some ([.int .i64 0,.int .i64 0,.int .i64 0,.int .i64 0,.int .i64 0,.int .i64 0,.int .i64 0]):=by kernel_rfl
theorem Zkc:ZD Tryz.prog 247=some ([.int .i64 0,.slice none 0 0,.slice none 0 0,.nilFunc]):=by kernel_rfl
theorem zl3:ZD Tryz.prog 3=some ([.int .i64 0]):=by kernel_rfl
structure Dk where
 h:Hse
 ag:Option Addr
 as_:Option Addr
 cg:Nat
 cs:Nat
 bd:Nat
 fo:Nat
 fst:List Value
 cap:List Value
 cl:Nat
 R0:Z4
def Dk.row (d:Dk):List Value:=[.int .i64 d.h.bins,d.h.sg d.ag d.cg,d.h.ss d.as_ d.cs,.func (.func d.fo) d.fst.toArray d.cap.toArray]
structure Dk.Ok (d:Dk):Prop where
 ok:d.h.ok
 cal:cal Tryz.prog d.fo=true
 op:∀ (i:Nat) (H:Z8) (R:Z4),i<d.h.gaps.length→(∀ g∈d.R0,g∈R)→FnV Tryz.prog d.fo (d.fst++[.int .i64 ((i:Nat):Int)]++d.cap) H R (.bool (!d.cl.testBit i))
structure RchI (gs:List Gp) (cl m:Nat) (w:List Int):Prop where
 len:w.length=7
 at_:∀ k<7,wk gs cl m k≤na w k∧na w k≤far∧(m.testBit k=true→na w k≤0)
theorem Z12 {l:List Int} {i j:Nat} {v:Int} (h:i<l.length):na (l.set i v) j=bif decide (i=j) then v else na l j:=by
 unfold na
 rw [List.getD_eq_getElem?_getD,List.getD_eq_getElem?_getD,List.getElem?_set]
 by_cases e:i=j
 · subst e;rw [if_pos rfl,if_pos h];simp
 · rw [if_neg e,decide_eq_false e];rfl
theorem Z4y {w:List Int} {i k:Nat} {v:Int} (hk:k<w.length) (e:i=k):spl (Zp w) i [.int .i64 v]=Zp (w.set k v):=by
 subst e
 unfold spl Zp
 apply List.ext_getElem?
 intro j
 rw [List.getElem?_map,List.getElem?_set]
 simp only [List.length_singleton]
 rcases Nat.lt_trichotomy j i with h | h | h
 · rw [List.getElem?_append_left (by simp;omega),List.getElem?_append_left (by simp;omega),List.getElem?_take,if_pos h,if_neg (by omega),List.getElem?_map]
 · subst h
   rw [List.getElem?_append_left (by simp;omega),List.getElem?_append_right (by simp;omega),if_pos rfl,if_pos hk]
   simp [show min j w.length=j by omega]
 · rw [List.getElem?_append_right (by simp;omega),if_neg (by omega),List.getElem?_drop,List.getElem?_map]
   congr 2
   simp;omega
theorem RchI.relax {gs:List Gp} {cl m:Nat} {w:List Int} (h:RchI gs cl m w) (hw:Wth gs 7) (hm:m<2 ^ 7) {u v:Nat} (hu:u<7) (hv:v<7) (ha:Adj gs cl u v):RchI gs cl m (w.set v (min (na w v) (na w u+1)))∧(∀ k<7,na (w.set v (min (na w v) (na w u+1))) k≤na w k)∧na (w.set v (min (na w v) (na w u+1))) v≤na w u+1:=by
 have hl:=h.len
 have h1:=h.at_ u hu
 have h2:=h.at_ v hv
 have h3:=ZbW hw hm ha
 refine ⟨⟨by rw [List.length_set];exact hl,fun k hk=>?_⟩,fun k hk=>?_,?_⟩
 · rw [Z12 (by omega)]
   have h4:=h.at_ k hk
   by_cases e:v=k
   · subst e
     rw [decide_eq_true rfl,cond_true]
     refine ⟨by omega,by omega,fun h5=>by have:=h4.2.2 h5;omega⟩
   · rw [decide_eq_false e];exact h4
 · rw [Z12 (by omega)]
   by_cases e:v=k
   · subst e;rw [decide_eq_true rfl,cond_true];omega
   · rw [decide_eq_false e];exact Int.le_refl _
 · rw [Z12 (by omega),decide_eq_true rfl,cond_true];omega
def Rlx (gs:List Gp) (cl:Nat) (w0 w:List Int) (k i:Nat):Prop:=(∀ j<7,na w j≤na w0 j)∧(∀ u v,u<k→u<7→v<7→Adj gs cl u v→na w v≤na w0 u+1)∧∀ (q:Nat) (g:Gp) (v:Nat),q<i→gs[q]?=some g→cl.testBit q=false→v<7→((g.a.toNat=k∧g.b.toNat=v)∨(g.b.toNat=k∧g.a.toNat=v))→na w v≤na w0 k+1
theorem Rlx.start (gs:List Gp) (cl:Nat) (w:List Int):Rlx gs cl w w 0 0:=⟨fun _ _=>Int.le_refl _,fun u _ h=>absurd h (Nat.not_lt_zero _),fun q _ _ h=>absurd h (Nat.not_lt_zero _)⟩
theorem Rlx.bin {gs:List Gp} {cl:Nat} {w0 w:List Int} {k:Nat} (h:Rlx gs cl w0 w k gs.length):Rlx gs cl w0 w (k+1) 0:=by
 refine ⟨h.1,fun u v hu hu7 hv ha=>?_,fun q _ _ h=>absurd h (Nat.not_lt_zero _)⟩
 rcases Nat.lt_or_ge u k with h1 | h1
 · exact h.2.1 u v h1 hu7 hv ha
 · obtain rfl:u=k:=by omega
   obtain ⟨q,g,h2,h3,h4⟩:=ha
   exact h.2.2 q g v (List.getElem?_eq_some_iff.1 h2).1 h2 h3 hv h4
theorem Rlx.skip {gs:List Gp} {cl:Nat} {w0 w:List Int} {k i:Nat} (h:Rlx gs cl w0 w k i) {g:Gp} (hg:gs[i]?=some g) (hn:cl.testBit i=true∨(g.a.toNat≠k∧g.b.toNat≠k)):Rlx gs cl w0 w k (i+1):=by
 refine ⟨h.1,h.2.1,fun q g' v hq hg' ho hv he=>?_⟩
 rcases Nat.lt_or_ge q i with h1 | h1
 · exact h.2.2 q g' v h1 hg' ho hv he
 · obtain rfl:q=i:=by omega
   rw [hg] at hg'
   obtain rfl:=Option.some.inj hg'
   rcases hn with h2 | h2
   · rw [ho] at h2;cases h2
   · omega
theorem Rlx.step {gs:List Gp} {cl:Nat} {w0 w w':List Int} {k i:Nat} (h:Rlx gs cl w0 w k i) {g:Gp} (hg:gs[i]?=some g) {v:Nat} (hv:∀ v',((g.a.toNat=k∧g.b.toNat=v')∨(g.b.toNat=k∧g.a.toNat=v'))→v'=v) (hle:∀ j<7,na w' j≤na w j) (hk:k<7) (hs:na w' v≤na w k+1):Rlx gs cl w0 w' k (i+1):=by
 refine ⟨fun j hj=>Int.le_trans (hle j hj) (h.1 j hj),fun u v hu hu7 hv' ha=>Int.le_trans (hle v hv') (h.2.1 u v hu hu7 hv' ha),fun q g' v' hq hg' ho hv' he=>?_⟩
 rcases Nat.lt_or_ge q i with h1 | h1
 · exact Int.le_trans (hle v' hv') (h.2.2 q g' v' h1 hg' ho hv' he)
 · obtain rfl:q=i:=by omega
   rw [hg] at hg'
   obtain rfl:=Option.some.inj hg'
   obtain rfl:=hv v' he
   have:=h.1 k hk
   omega
theorem Rlx.done {gs:List Gp} {cl m:Nat} {w:List Int} {n:Nat} (hn:Wth gs n) (hw:Wth gs 7) (hm:m<2 ^ 7) (hr:RchI gs cl m w) (h:Rlx gs cl w w n 0):w=wks gs cl m:=by
 have h1:=ZbY (gs:=gs) (cl:=cl) (m:=m) (w:=na w) (fun k hk=>(hr.at_ k hk).1) (fun k hk hb=>(hr.at_ k hk).2.2 hb) (fun u v hu hv ha=>h.2.1 u v (ha.lt hn).1 hu hv ha) (fun k hk=>(hr.at_ k hk).2.1) hw hm
 apply List.ext_getElem?
 intro k
 rcases Nat.lt_or_ge k 7 with hk | hk
 · rw [ZR (by rw [hr.len];exact hk),ZR (by rw [Z0b];exact hk),Z2G hk,h1 k hk]
 · rw [List.getElem?_eq_none (by rw [hr.len];exact hk),List.getElem?_eq_none (by rw [Z0b];exact hk)]
def ZiT (w:List Int):Nat:=(w.map Int.toNat).foldl (· + ·) 0
theorem Zi4 {w:List Int} (h:w.length=7):w=[na w 0,na w 1,na w 2,na w 3,na w 4,na w 5,na w 6]:=by
 match w,h with
 | [a,b,c,d,e,f,g],_=>rfl
theorem Z4C {a b:Int} (h:b≤a) (q:0≤b):b.toNat≤a.toNat∧(b.toNat=a.toNat→b=a):=by omega
theorem ZfP {gs:List Gp} {cl m:Nat} {w w':List Int} (h:RchI gs cl m w) (h':RchI gs cl m w') (hle:∀ j<7,na w' j≤na w j) (hne:w'≠w):ZiT w'<ZiT w:=by
 have q:∀ k<7,0≤na w' k:=fun k hk=>by have:=(h'.at_ k hk).1;have:=(Z9n gs cl m k).1;omega
 obtain ⟨a0,a1,a2,a3,a4,a5,a6,rfl⟩:∃ a0 a1 a2 a3 a4 a5 a6:Int,w=[a0,a1,a2,a3,a4,a5,a6]:=⟨_,_,_,_,_,_,_,Zi4 h.len⟩
 obtain ⟨b0,b1,b2,b3,b4,b5,b6,rfl⟩:∃ b0 b1 b2 b3 b4 b5 b6:Int,w'=[b0,b1,b2,b3,b4,b5,b6]:=⟨_,_,_,_,_,_,_,Zi4 h'.len⟩
 have h0:b0≤a0:=hle 0 (by decide)
 have h1:b1≤a1:=hle 1 (by decide)
 have h2:b2≤a2:=hle 2 (by decide)
 have h3:b3≤a3:=hle 3 (by decide)
 have h4:b4≤a4:=hle 4 (by decide)
 have h5:b5≤a5:=hle 5 (by decide)
 have h6:b6≤a6:=hle 6 (by decide)
 have q0:0≤b0:=q 0 (by decide)
 have q1:0≤b1:=q 1 (by decide)
 have q2:0≤b2:=q 2 (by decide)
 have q3:0≤b3:=q 3 (by decide)
 have q4:0≤b4:=q 4 (by decide)
 have q5:0≤b5:=q 5 (by decide)
 have q6:0≤b6:=q 6 (by decide)
 clear q hle h h'
 apply Classical.byContradiction
 intro hc
 apply hne
 unfold ZiT at hc
 simp only [List.map_cons,List.map_nil,List.foldl_cons,List.foldl_nil] at hc
 have s0:=Z4C h0 q0
 have s1:=Z4C h1 q1
 have s2:=Z4C h2 q2
 have s3:=Z4C h3 q3
 have s4:=Z4C h4 q4
 have s5:=Z4C h5 q5
 have s6:=Z4C h6 q6
 clear h0 q0
 clear h1 q1
 clear h2 q2
 clear h3 q3
 clear h4 q4
 clear h5 q5
 clear h6 q6
 have:b0.toNat=a0.toNat∧b1.toNat=a1.toNat∧b2.toNat=a2.toNat∧b3.toNat=a3.toNat∧b4.toNat=a4.toNat∧b5.toNat=a5.toNat∧b6.toNat=a6.toNat:=by
   have u0:=s0.1;have u1:=s1.1;have u2:=s2.1;have u3:=s3.1;have u4:=s4.1;have u5:=s5.1;have u6:=s6.1
   clear s0 s1 s2 s3 s4 s5 s6 hne
   generalize b0.toNat=m0 at *
   generalize a0.toNat=n0 at *
   generalize b1.toNat=m1 at *
   generalize a1.toNat=n1 at *
   generalize b2.toNat=m2 at *
   generalize a2.toNat=n2 at *
   generalize b3.toNat=m3 at *
   generalize a3.toNat=n3 at *
   generalize b4.toNat=m4 at *
   generalize a4.toNat=n4 at *
   generalize b5.toNat=m5 at *
   generalize a5.toNat=n5 at *
   generalize b6.toNat=m6 at *
   generalize a6.toNat=n6 at *
   exact ⟨by omega,by omega,by omega,by omega,by omega,by omega,by omega⟩
 rw [s0.2 this.1,s1.2 this.2.1,s2.2 this.2.2.1,s3.2 this.2.2.2.1,s4.2 this.2.2.2.2.1,s5.2 this.2.2.2.2.2.1,s6.2 this.2.2.2.2.2.2]
def w00 (m k:Nat):List Int:=(List.range 7).map fun j=>bif decide (j<k) then (bif m.testBit j then 0 else far) else 0
theorem Z1l (m k:Nat):(w00 m k).length=7:=by simp [w00]
theorem ZbT {m k j:Nat} (hj:j<7):na (w00 m k) j=bif decide (j<k) then (bif m.testBit j then 0 else far) else 0:=by
 unfold na w00
 rw [List.getD_eq_getElem?_getD,List.getElem?_map,List.getElem?_range hj];rfl
theorem ZbU {m k:Nat} (hk:k<7):(w00 m k).set k (bif m.testBit k then 0 else far)=w00 m (k+1):=by
 apply List.ext_getElem?
 intro j
 rcases Nat.lt_or_ge j 7 with hj | hj
 · rw [ZR (l:=(w00 m k).set k _) (by rw [List.length_set,Z1l];exact hj),ZR (by rw [Z1l];exact hj),Z12 (by rw [Z1l];exact hk),ZbT hj,ZbT hj]
   by_cases e:k=j
   · subst e;rw [decide_eq_true rfl,decide_eq_true (Nat.lt_succ_self k)];rfl
   · rw [decide_eq_false e,show decide (j<k+1)=decide (j<k) from decide_eq_decide.2 (by omega)];rfl
 · rw [List.getElem?_eq_none (by rw [List.length_set,Z1l];exact hj),List.getElem?_eq_none (by rw [Z1l];exact hj)]
theorem Zdj (l:List Int) (k:Nat) (x y:Int):(l.set k x).set k y=l.set k y:=by simp
theorem ZiB (gs:List Gp) (cl m:Nat):RchI gs cl m (w00 m 7):=⟨Z1l _ _,fun k hk=>by
 rw [ZbT hk,decide_eq_true hk,cond_true]
 have:=Z9n gs cl m k
 cases hb:m.testBit k with
 | true=>rw [ZbX hb];unfold far;simp
 | false=>exact ⟨this.2.1,Int.le_refl _,(fun h=>by cases h)⟩⟩
abbrev dkA (h:Hse) (ag as_:Option Addr) (cg cs:Nat) (bd:Nat):Dk:=⟨h,ag,as_,cg,cs,bd,127,[],[],0,[]⟩
theorem Zge (n:Int) (H:Z8) (R:Z4) :
    FnV Tryz.prog 127 [.int .i64 n] H R (.bool true):=by
 refine Zc Tryz.func127 rfl Tryz.ntmps127 rfl ?_
 refine sqt 1 rfl (pur 1 rfl (sqt 1 rfl (pur 1 rfl (Z5 ?_))))
 exact rtA rfl rfl rfl ⟨rfl,rfl,rfl⟩ drp
theorem Z1m (h:Hse) (ag as_:Option Addr) (cg cs:Nat) (hok:h.ok) (bd:Nat):(dkA h ag as_ cg cs bd).Ok:=⟨hok,ZgH,fun i H R _ _=>by
 have e:(!(dkA h ag as_ cg cs bd).cl.testBit i)=true:=by show (!(Nat.testBit 0 i))=true;rw [Nat.zero_testBit];rfl
 rw [e];exact Zge _ H R⟩
theorem Z92 (h:Hse) (ag as_:Option Addr) (cg cs:Nat) (H:Z8) (R:Z4) :
    Fn Tryz.prog 64 [h.v (h.sg ag cg) (h.ss as_ cs)] H R (fun v H' R'=>∃ bd,v = .pointer (some ⟨bd,0,none⟩)∧H'=H∧R'=RowsA (some ⟨bd,0,none⟩) 4 [(dkA h ag as_ cg cs bd).row]::R):=by
 refine Zc Tryz.func64 rfl Tryz.ntmps64 rfl ?_
 refine sqt 2 rfl (bx rfl rfl rfl (fun b1=>pur 1 rfl (sqt 4 rfl (spL rfl rfl (lhA (htl h (h.sg ag cg) (h.ss as_ cs)) Z2m rfl rfl rfl) rfl (sp rfl (PE.build (out:=[_,_,_,_]) ZjN Zkc rfl rfl) rfl (bx rfl rfl rfl (fun b5=>pur 1 rfl (Z5 ?_))))))))
 refine Sy.heap (fun w h9=>St.rows (sz:=4) (rows:=[(dkA h ag as_ cg cs b5).row]) (rest:=[]) (h9.pull b5) (by simp [Dk.row])) ?_
 exact rtA rfl rfl rfl ⟨b5,rfl,rfl,rfl⟩ (fun w h9=>h9.del b1)
theorem ZeV (bd:Nat) (n:Int) (H:Z8) (R:Z4) :
    Fn Tryz.prog 128 [.pointer (some ⟨bd,0,none⟩),.int .i64 n] H R (fun v H' R'=>∃ xd xb,v = .func (.func 209) #[] #[.pointer (some ⟨xd,0,none⟩),.pointer (some ⟨xb,0,none⟩)]∧H'=H∧R'=RowsA (some ⟨xb,0,none⟩) 1 [[.int .i64 n]]::RowsA (some ⟨xd,0,none⟩) 1 [[.pointer (some ⟨bd,0,none⟩)]]::R):=by
 refine Zc Tryz.func128 rfl Tryz.ntmps128 rfl ?_
 refine sqt 3 rfl (bx rfl rfl rfl (fun b2=>bx rfl rfl rfl (fun b3=>pur 1 rfl (sqt 2 rfl (sp rfl (PE.makeFunc rfl rfl) rfl (pur 1 rfl (Z5 ?_)))))))
 refine Sy.heap (fun w h9=>St.rows (sz:=1) (rows:=[[.pointer (some ⟨bd,0,none⟩)]]) (rest:=[]) (h9.pull b2) (by simp)) ?_
 refine Sy.heap (fun w h9=>St.rows (sz:=1) (rows:=[[.int .i64 n]]) (rest:=[]) (h9.pull b3) (by simp)) ?_
 exact rtA rfl rfl rfl ⟨b2,b3,rfl,rfl,rfl⟩ idH
set_option maxHeartbeats 400000 in
theorem Zae (d:Dk) (hd:d.Ok) (n:Int) (hn:0≤n∧n<7) (xd xb lp:Nat) (I:Nat→Z8→Z4→Prop) (E:Z8→Z4→Prop) (hI:∀ k H R,I k H R→RowsA (some ⟨d.bd,0,none⟩) 4 [d.row]∈R∧RowsA d.ag 2 (grows d.h.gaps)∈R∧RowsA (some ⟨xd,0,none⟩) 1 [[.pointer (some ⟨d.bd,0,none⟩)]]∈R∧RowsA (some ⟨xb,0,none⟩) 1 [[.int .i64 n]]∈R∧∀ g∈d.R0,g∈R)
    (hsk:∀ k g H R,d.h.gaps[k]?=some g→(d.cl.testBit k=true∨(g.a≠n∧g.b≠n))→I k H R→I (k+1) H R)
    (hy:∀ k g q o H R,d.h.gaps[k]?=some g→d.cl.testBit k=false→(g.a=n∨g.b=n)→I k H R→Yd Tryz.prog lp [.int .i64 k,.int .i64 (g.a+g.b-n)] ((q,o)::H) R (fun v H' R'=>(v = .bool true∧∃ H2,H'=(q,o)::H2∧I (k+1) H2 R')∨(v = .bool false∧∃ H2,H'=(q,o)::H2∧E H2 R'))) (H:Z8) (R:Z4) (h0:I 0 H R) :
    Fn Tryz.prog 209 [yv lp,.pointer (some ⟨xd,0,none⟩),.pointer (some ⟨xb,0,none⟩)] H R (fun _ H' R'=>I d.h.gaps.length H' R'∨E H' R'):=by
 obtain ⟨h,ag,as_,cg,cs,bd,fo,fst,cap,cl,R0⟩:=d
 obtain ⟨hok,hcal,hop⟩:=hd
 dsimp only at *
 have hgl:=hok.gl
 obtain ⟨hF1,hF2,hF3,hF4,hF5⟩:=hI _ _ _ h0
 haveI:MemRows (some ⟨bd,0,none⟩) 4 [(Dk.mk h ag as_ cg cs bd fo fst cap cl R0).row] R:=⟨hF1⟩
 haveI:MemRows ag 2 (grows h.gaps) R:=⟨hF2⟩
 haveI:MemRows (some ⟨xd,0,none⟩) 1 [[.pointer (some ⟨bd,0,none⟩)]] R:=⟨hF3⟩
 haveI:MemRows (some ⟨xb,0,none⟩) 1 [[.int .i64 n]] R:=⟨hF4⟩
 refine Zc Tryz.func209 rfl Tryz.ntmps209 rfl ?_
 refine sqt 7 rfl (spL rfl rfl (lfB (sz:=1) Z4x rfl) rfl (sp rfl (PE.nilCheck rfl) rfl (sp rfl (PE.fA Z1h rfl) rfl (sp rfl (PE.fA Z10 rfl) rfl (spL rfl rfl (lfB (sz:=4) Z7B rfl) rfl (sp rfl (PE.lenSl Z7n rfl) rfl (pur 1 rfl (Z3 ?_))))))))
 refine Zb (ι:={x:Nat×Z8×Z4 // x.1≤h.gaps.length∧I x.1 x.2.1 x.2.2}) (fun x=>⟨[(0,yv lp),(1,.pointer (some ⟨xd,0,none⟩)),(2,.pointer (some ⟨xb,0,none⟩)),(10,.slice ag h.gaps.length cg),(11,.int .i64 h.gaps.length),(12,.int .i64 x.1.1)],x.1.2.1,x.1.2.2⟩) (fun x=>h.gaps.length-x.1.1) ⟨(0,H,R),Nat.zero_le _,h0⟩ ?_ (fun x=>?_)
 exact Ze idH
 obtain ⟨⟨k,H0,Q0⟩,hk,hI0⟩:=x
 dsimp only at hk hI0 ⊢
 obtain ⟨hF1,hF2,hF3,hF4,hF5⟩:=hI _ _ _ hI0
 haveI:MemRows (some ⟨bd,0,none⟩) 4 [(Dk.mk h ag as_ cg cs bd fo fst cap cl R0).row] Q0:=⟨hF1⟩
 haveI:MemRows ag 2 (grows h.gaps) Q0:=⟨hF2⟩
 haveI:MemRows (some ⟨xd,0,none⟩) 1 [[.pointer (some ⟨bd,0,none⟩)]] Q0:=⟨hF3⟩
 haveI:MemRows (some ⟨xb,0,none⟩) 1 [[.int .i64 n]] Q0:=⟨hF4⟩
 refine sqt 1 rfl (pur 1 rfl (Z0 ?_))
 refine Z1 rfl ?_ ?_<;>intro hc0<;>try simp only [cS] at hc0
 obtain ⟨g,hg⟩:∃ g,h.gaps[k]?=some g:=⟨_,List.getElem?_eq_getElem (by omega)⟩
 have hgo:=hok.gaps g (List.mem_of_getElem? hg)
 have hbn:=hok.bins
 refine Zi (a:=ag) (sz:=2) (rows:=grows h.gaps) (ne0 (by rw [Z4k];omega)) (fun bg og he=>?_)
 subst he
 refine Z2 (Z0 (Z3 (sqt 6 rfl (pur 1 rfl (sp rfl (PE.indexAddr ZcN rfl rfl (by omega) (by omega)) rfl (spL rfl rfl (lfA Zcd (row:=grow g) (Z2O hg) rfl) rfl (alc rfl Z6W rfl (fun b5=>pur 1 rfl ?_))))))))
 refine ZB (l':=grow g) rfl rfl rfl ZhO rfl rfl rfl rfl (nl rfl) ?_
 refine Z0 (sqt 19 rfl (spL rfl rfl (lfB (sz:=1) Z4x rfl) rfl (sp rfl (PE.nilCheck rfl) rfl (sp rfl (PE.fA ZaS rfl) rfl (spL rfl rfl (lfB (sz:=4) Z3k rfl) rfl (pur 1 rfl ?_))))))
 refine Z3t rfl rfl (hcal) rfl rfl (hop k _ _ (by omega) hF5) ?_
 refine pur 2 rfl ?_
 refine Zw 24 rfl ?_ ?_<;>intro g24
 refine pur 5 rfl ?_
 repeat refine spU rfl rfl rfl rfl rfl rfl rfl ?_
 refine pur 2 rfl ?_
 refine Z0S rfl ?_
 refine Z9 (Za (Zh (sqr 2 rfl (sp rfl (PE.add rfl rfl (by omega)) rfl (pur 1 rfl ?_)))))
 exact Z7 ⟨(k+1,H0,Q0),by dsimp only;omega,hsk k g _ _ hg (.inl (by simpa using g24)) hI0⟩ (fun w h9=>h9.tail)
 have hop0:cl.testBit k=false:=by simpa using g24
 refine spG rfl rfl rfl rfl (PE.fA Z19 rfl) rfl ?_
 refine Z0U rfl rfl rfl rfl rfl (lh sc3 rfl rfl) rfl (Z0U rfl rfl rfl rfl rfl (lfB (sz:=1) sc3 rfl) rfl (pur 2 rfl ?_))
 refine Zw 29 rfl ?_ ?_<;>intro g29
 try simp only [cS] at g29
 refine spG rfl rfl rfl rfl (PE.fA Z1a rfl) rfl ?_
 refine Z0U rfl rfl rfl rfl rfl (lh sc3 rfl rfl) rfl (Z0U rfl rfl rfl rfl rfl (lfB (sz:=1) sc3 rfl) rfl (pur 3 rfl ?_))
 refine Z1 rfl ?_ ?_<;>intro hc1<;>try simp only [cS] at hc1
 refine Z9 (Za (Zh (sqr 2 rfl (sp rfl (PE.add rfl rfl (by omega)) rfl (pur 1 rfl ?_)))))
 exact Z7 ⟨(k+1,H0,Q0),by dsimp only;omega,hsk k g _ _ hg (.inr ⟨g29,hc1⟩) hI0⟩ (fun w h9=>h9.tail)
 have hinc:g.a=n∨g.b=n:=.inr (by omega)
 refine Z2 (sqt 11 rfl (pur 2 rfl (sp rfl (PE.fA Z19 rfl) rfl (spL rfl rfl (lh sc3 rfl rfl) rfl (sp rfl (PE.fA Z1a rfl) rfl (spL rfl rfl (lh sc3 rfl rfl) rfl (sp rfl (PE.add rfl rfl (by omega)) rfl (spL rfl rfl (lfB (sz:=1) sc3 rfl) rfl (sp rfl (PE.sub rfl rfl (by omega)) rfl ?_)))))))))
 refine clY rfl rfl rfl rfl (hy k g b5 _ _ _ hg hop0 hinc hI0) ?_
 rintro v H3 R3 (⟨rfl,H2,rfl,hI3⟩ | ⟨rfl,H2,rfl,hE3⟩)
 refine pur 1 rfl ?_
 refine ZG rfl ?_
 refine Z2 (sqr 2 rfl (sp rfl (PE.add rfl rfl (by omega)) rfl (pur 1 rfl ?_)))
 exact Z7 ⟨(k+1,H2,R3),by dsimp only;omega,hI3⟩ (fun w h9=>h9.tail)
 refine pur 1 rfl ?_
 refine Z0S rfl ?_
 refine Z5 ?_
 exact Zr (vs:=[]) rfl .nil rfl (.inr hE3) (fun _ h=>h.tail)
 try simp only [cS] at g29
 have hinc:g.a=n∨g.b=n:=.inl (by omega)
 refine pur 6 rfl ?_
 refine ZG rfl ?_
 refine Z2 (sqt 11 rfl (pur 2 rfl (sp rfl (PE.fA Z19 rfl) rfl (spL rfl rfl (lh sc3 rfl rfl) rfl (sp rfl (PE.fA Z1a rfl) rfl (spL rfl rfl (lh sc3 rfl rfl) rfl (sp rfl (PE.add rfl rfl (by omega)) rfl (spL rfl rfl (lfB (sz:=1) sc3 rfl) rfl (sp rfl (PE.sub rfl rfl (by omega)) rfl ?_)))))))))
 refine clY rfl rfl rfl rfl (hy k g b5 _ _ _ hg hop0 hinc hI0) ?_
 rintro v H3 R3 (⟨rfl,H2,rfl,hI3⟩ | ⟨rfl,H2,rfl,hE3⟩)
 refine pur 1 rfl ?_
 refine ZG rfl ?_
 refine Z2 (sqr 2 rfl (sp rfl (PE.add rfl rfl (by omega)) rfl (pur 1 rfl ?_)))
 exact Z7 ⟨(k+1,H2,R3),by dsimp only;omega,hI3⟩ (fun w h9=>h9.tail)
 refine pur 1 rfl ?_
 refine Z0S rfl ?_
 refine Z5 ?_
 exact Zr (vs:=[]) rfl .nil rfl (.inr hE3) (fun _ h=>h.tail)
 obtain rfl:k=h.gaps.length:=by omega
 refine Z9 (Za (Za (Zh ?_)))
 exact Z4H (vs:=[]) rfl .nil rfl (.inl hI0) idH
theorem Z0u {w:List Int} {k i:Nat} (hk:k<w.length) (e:i=k):(Zp w)[i]?=some (.int .i64 (na w k)):=by
 subst e;exact Z2Q (ZR hk)
theorem ZaK {gs:List Gp} {cl i:Nat} {g:Gp} (hg:gs[i]?=some g) (ho:cl.testBit i=false) {k:Nat} (ha:(0≤g.a∧g.a<7)∧(0≤g.b∧g.b<7)∧g.a≠g.b) (h:g.a=k∨g.b=k):∃ v:Nat,g.a+g.b-k=v∧v<7∧Adj gs cl k v∧(∀ v',((g.a.toNat=k∧g.b.toNat=v')∨(g.b.toNat=k∧g.a.toNat=v'))→v'=v)∧((g.a.toNat=k∧g.b.toNat=v)∨(g.b.toNat=k∧g.a.toNat=v)):=by
 rcases h with h | h
 · exact ⟨g.b.toNat,by omega,by omega,⟨i,g,hg,ho,.inl ⟨by omega,rfl⟩⟩,fun v' hv=>by omega,.inl ⟨by omega,rfl⟩⟩
 · exact ⟨g.a.toNat,by omega,by omega,⟨i,g,hg,ho,.inr ⟨by omega,rfl⟩⟩,fun v' hv=>by omega,.inr ⟨by omega,rfl⟩⟩
set_option maxHeartbeats 1000000 in
theorem Z49 (d:Dk) (hd:d.Ok) (l:List Int) (a:Option Addr) (c:Nat) (hl:l.length≤9223372036854775807) (hx:∀ x∈l,0≤x∧x<7) (H:Z8) (R:Z4) [hD:MemRows (some ⟨d.bd,0,none⟩) 4 [d.row] R] [hG:MemRows d.ag 2 (grows d.h.gaps) R] [hS:MemRows d.as_ 3 (srows d.h.sights) R] [sR:SubF d.R0 R] [hR:MemRows a 1 (Z6 l) R] :
    FnV Tryz.prog 65 [.pointer (some ⟨d.bd,0,none⟩),.slice a l.length c] H R (.agg (Zp (wks d.h.gaps d.cl (msk l))).toArray):=by
 refine Z8e Tryz.func65 rfl Tryz.ntmps65 rfl ?_
 refine sqt 1 rfl (alc rfl Zc1 rfl (fun b4=>sqt 1 rfl (alc rfl Zc1 rfl (fun b5=>Z0 (sqt 1 rfl (pur 1 rfl (Z3 ?_)))))))
 refine Zb (ι:={k:Nat // k≤7}) (fun k=>⟨[(0,.pointer (some ⟨d.bd,0,none⟩)),(1,.slice a l.length c),(4,.pointer (some ⟨b4,0,none⟩)),(5,.pointer (some ⟨b5,0,none⟩)),(11,.int .i64 k.1)],(b5,cel 172 (Zp (w00 (msk l) k.1)))::(b4,cel 172 [.int .i64 0,.int .i64 0,.int .i64 0,.int .i64 0,.int .i64 0,.int .i64 0,.int .i64 0])::H,R⟩) (fun k=>7-k.1) ⟨0,Nat.zero_le _⟩ ?_ (fun k=>?_)
 exact Ze idH
 ·
  obtain ⟨k,hk⟩:=k
  dsimp only at hk ⊢
  refine sqt 1 rfl (pur 1 rfl (Z0 ?_))
  refine Z1 rfl ?_ ?_<;>intro hc0<;>try simp only [cS] at hc0
  refine Z2 (Z0 (Z3 (sqt 2 rfl (pur 2 rfl (sqt 3 rfl (pur 1 rfl (sp rfl (PE.indexArr Z68 rfl rfl (by omega) (by omega)) rfl ?_)))))))
  refine ZB (l':=Zp ((w00 (msk l) k).set k far)) rfl rfl rfl cn3 rfl rfl rfl (Z4y (v:=far) (by rw [Z1l];omega) (by show 0+((k:Nat):Int).toNat*1=k;omega)) (by rw [Zj,Z1l];show 0+((k:Nat):Int).toNat*1+1≤7;omega) ?_
  refine sqt 3 rfl (pur 2 rfl ?_)
  refine clV rfl Zai rfl rfl (Z0g l a c k hl _ _) ?_
  refine Z1 rfl ?_ ?_<;>intro hc1
  have hb:(msk l).testBit k=true:=(ZN (fun x h9=>(hx x h9).1) k).2 (hasI_iff.1 hc1)
  refine sqr 3 rfl (pur 1 rfl (sp rfl (PE.indexArr Z68 rfl rfl (by omega) (by omega)) rfl ?_))
  refine ZB (l':=Zp (w00 (msk l) (k+1))) rfl rfl rfl cn3 rfl rfl rfl ((Z4y (k:=k) (v:=0) (by rw [List.length_set,Z1l];omega) (by show 0+((k:Nat):Int).toNat*1=k;omega)).trans (by rw [Zdj,← ZbU (by omega),hb];rfl)) (by rw [Zj,List.length_set,Z1l];show 0+((k:Nat):Int).toNat*1+1≤7;omega) ?_
  refine sqr 2 rfl (sp rfl (PE.add rfl rfl (by omega)) rfl (pur 1 rfl ?_))
  exact Z7 ⟨k+1,by omega⟩ idH
  have hb:(msk l).testBit k=false:=by
    cases hb:(msk l).testBit k with
    | false=>rfl
    | true=>have:=hasI_iff.2 ((ZN (fun x h9=>(hx x h9).1) k).1 hb);rw [show Z5A l k=false from hc1] at this;cases this
  refine Z2 (sqr 2 rfl (sp rfl (PE.add rfl rfl (by omega)) rfl (pur 1 rfl ?_)))
  exact Z7 ⟨k+1,by omega⟩ (fun w h9=>by dsimp only;rw [← ZbU (by omega),hb];exact h9)
  ·
   obtain rfl:k=7:=by omega
   refine Z9 (Za (Za (Zh (Z3 ?_))))
   have hok:=hd.ok
   have hbn:=hok.bins
   have hw7:=hok.wth
   have hm7:(msk l)<2 ^ 7:=msk_lt hx
   refine Z1G (ι:={y:List Int×List Nat // RchI d.h.gaps d.cl (msk l) y.1}) (fun y=>⟨[(0,.pointer (some ⟨d.bd,0,none⟩)),(1,.slice a l.length c),(4,.pointer (some ⟨b4,0,none⟩)),(5,.pointer (some ⟨b5,0,none⟩))],mks y.1.2,(b5,cel 172 (Zp y.1.1))::(b4,cel 172 [.int .i64 0,.int .i64 0,.int .i64 0,.int .i64 0,.int .i64 0,.int .i64 0,.int .i64 0])::(mkh y.1.2++H),R⟩) (fun y=>ZiT y.1.1) ⟨(w00 (msk l) 7,[]),ZiB _ _ _⟩ ?_ (fun y=>?_)
   exact Z4F sbA rfl idH
   ·
    obtain ⟨⟨w,mk⟩,hri⟩:=y
    dsimp only at hri ⊢
    refine Z3 (sqt 3 rfl (spL rfl rfl (lhI w Z9C rfl rfl (hri.len)) rfl (alc rfl Zc1 rfl (fun b7=>?_))))
    refine Zg4 rfl rfl rfl ZcF rfl (by rw [Zj];exact hri.len) rfl (Z29 _) ?_
    refine Z0 (sqt 6 rfl (pur 1 rfl (sp rfl (PE.nilCheck rfl) rfl (sp rfl (PE.fA Z1h rfl) rfl (sp rfl (PE.fA Z2r rfl) rfl (spL rfl rfl (lfB (sz:=4) sc3 rfl) rfl (pur 1 rfl (Z3 ?_))))))))
    refine Z1G (ι:={y:Nat×List Int×List Nat // y.1≤d.h.bins.toNat∧RchI d.h.gaps d.cl (msk l) y.2.1∧Rlx d.h.gaps d.cl w y.2.1 y.1 0}) (fun y=>⟨[(0,.pointer (some ⟨d.bd,0,none⟩)),(1,.slice a l.length c),(4,.pointer (some ⟨b4,0,none⟩)),(5,.pointer (some ⟨b5,0,none⟩)),(7,.pointer (some ⟨b7,0,none⟩)),(27,.int .i64 d.h.bins),(28,.int .i64 y.1.1)],mks y.1.2.2,(b7,cel 172 (Zp w))::(b5,cel 172 (Zp y.1.2.1))::(b4,cel 172 [.int .i64 0,.int .i64 0,.int .i64 0,.int .i64 0,.int .i64 0,.int .i64 0,.int .i64 0])::(mkh y.1.2.2++H),R⟩) (fun y=>d.h.bins.toNat-y.1.1) ⟨(0,w,mk),Nat.zero_le _,hri,Rlx.start _ _ _⟩ ?_ (fun y=>?_)
    exact Z4F sbA rfl idH
    ·
     obtain ⟨⟨k,w',mk2⟩,hk,hri2,hrl⟩:=y
     dsimp only at hk hri2 hrl ⊢
     refine sqt 1 rfl (pur 1 rfl (Z0 ?_))
     refine Z1 rfl ?_ ?_<;>intro hc2<;>try simp only [cS] at hc2
     ·
      refine Z2 (Z0 (Z3 (sqt 3 rfl (pur 1 rfl (alc rfl zl3 rfl (fun b8=>?_))))))
      refine sto rfl rfl rfl cn3 rfl rfl rfl rfl ?_
      refine sqt 3 rfl (pur 1 rfl (spL rfl rfl (lh sc3 rfl rfl) rfl ?_))
      refine cl rfl Zah rfl rfl (ZeV d.bd k _ _) ?_
      rintro _ _ _ ⟨xd,xb,rfl,rfl,rfl⟩
      refine Z3 ?_
      refine Z3W rfl Zap (fun c0 bl0 bd0 hcp0 hca0 hcb0 hck0=>?_)
      refine ⟨fun st pend T R'=>st = .ready∧pend=none∧∃ w2,(RchI d.h.gaps d.cl (msk l) w2∧Rlx d.h.gaps d.cl w w2 k d.h.gaps.length)∧T=(bd0,.deferred (some []))::(b8,cel 3 [.int .i64 ((k:Nat):Int)])::(b7,cel 172 (Zp w))::(b5,cel 172 (Zp w2))::(b4,cel 172 [.int .i64 0,.int .i64 0,.int .i64 0,.int .i64 0,.int .i64 0,.int .i64 0,.int .i64 0])::(mkh mk2++H)∧R'=RowsA (some ⟨xb,0,none⟩) 1 [[.int .i64 ((k:Nat):Int)]]::RowsA (some ⟨xd,0,none⟩) 1 [[.pointer (some ⟨d.bd,0,none⟩)]]::R,
        Fn.mono (Zae d hd k ⟨by omega,by omega⟩ xd xb bl0 (fun i H' R'=>∃ w2,(RchI d.h.gaps d.cl (msk l) w2∧Rlx d.h.gaps d.cl w w2 k i)∧H'=(bl0,lob c0 .ready none)::(bd0,.deferred (some []))::(b8,cel 3 [.int .i64 ((k:Nat):Int)])::(b7,cel 172 (Zp w))::(b5,cel 172 (Zp w2))::(b4,cel 172 [.int .i64 0,.int .i64 0,.int .i64 0,.int .i64 0,.int .i64 0,.int .i64 0,.int .i64 0])::(mkh mk2++H)∧R'=RowsA (some ⟨xb,0,none⟩) 1 [[.int .i64 ((k:Nat):Int)]]::RowsA (some ⟨xd,0,none⟩) 1 [[.pointer (some ⟨d.bd,0,none⟩)]]::R) (fun _ _=>False)
          (fun i H' R' h9=>by obtain ⟨_,_,_,_,rfl⟩:=h9;exact ⟨List.mem_cons_of_mem _ (List.mem_cons_of_mem _ hD.mem),List.mem_cons_of_mem _ (List.mem_cons_of_mem _ hG.mem),by simp,by simp,fun g hg=>List.mem_cons_of_mem _ (List.mem_cons_of_mem _ (sR.sub g hg))⟩)
          (fun i g H' R' hg hn h9=>by obtain ⟨w2,⟨h1,h2⟩,rfl,rfl⟩:=h9;exact ⟨w2,⟨h1,h2.skip hg (hn.imp id fun h3=>by have:=hok.gaps g (List.mem_of_getElem? hg);omega)⟩,rfl,rfl⟩)
          (fun i g q oo H' R' hg hop hinc hI=>?_) _ _ ⟨w',⟨hri2,hrl⟩,rfl,rfl⟩) (fun v H' R' h9=>?_),?_⟩
      rotate_left
      · rcases h9 with ⟨w2,h1,rfl,rfl⟩ | h9
        · exact ⟨.ready,none,_,by simp,.refl _,rfl,rfl,w2,h1,rfl,rfl⟩
        · exact h9.elim
      rotate_left
      obtain ⟨w2,⟨h1,h2⟩,rfl,rfl⟩:=hI
      have hgo:=hok.gaps g (List.mem_of_getElem? hg)
      obtain ⟨v,hv,hv7,hadj,huq,_⟩:=ZaK hg hop ⟨by omega,by omega,hgo.2.2⟩ hinc
      rw [hv]
      have hk7:k<7:=by omega
      have hrx:=h1.relax hw7 hm7 hk7 hv7 hadj
      have hak:=h1.at_ k hk7
      have hnn:=Z9n d.h.gaps d.cl (msk l) k
      have hfar:far=1048576:=rfl
      have hl7:=h1.len
      refine Zc0 hcp0 hca0 hcb0 hck0 rfl rfl ?_
      refine sqr 1 rfl (pur 1 rfl ?_)
      refine Z0R ?_
      refine Z3 ?_
      refine Zd [0,0,2,6,0,16,48,112,240,510,1023,2047] (tks 0 3 (.ld 3 (.ld 4 (.tk 5 (.ld 6 (.tk 7 (.big 8 (.big 9 (.tk 10 (.big 11 .done)))))))))) Zt (by kernel_rfl) ?_
      refine Zm 2 rfl (tk rfl (PE.indexArr Z68 rfl rfl (by omega) (by omega)) rfl (ld rfl rfl (lh sc3 rfl (Z0u (w:=w2) (k:=v) (by omega) (by show 0+((v:Nat):Int).toNat*1=v;omega))) rfl (ld rfl rfl (lh sc3 rfl rfl) rfl (tk rfl (PE.indexArr Z68 rfl rfl (by omega) (by omega)) rfl (ld rfl rfl (lh sc3 rfl (Z0u (w:=w2) (k:=k) (by omega) (by show 0+((k:Nat):Int).toNat*1=k;omega))) rfl (tk rfl (PE.add rfl rfl (by omega)) rfl ?_))))))
      refine bsl (out:=[_]) rfl Z0F zl3 rfl rfl rfl rfl rfl rfl (fun b44=>?_)
      refine bg (fun w hs=>⟨trivial,trivial,(lh sc3 rfl (Z0u (w:=w2) (k:=v) (by omega) (by show 0+((v:Nat):Int).toNat*1=v;omega))) w hs,trivial⟩) ?_
      refine Sy.heap (fun w h9=>St.rows (sz:=1) (rows:=[[.int .i64 (na w2 k+1)]]) (rest:=[]) (h9.pull b44) (by simp)) ?_
      refine clV rfl ZgI rfl rfl (Zcs (na w2 v) (na w2 k+1) (some ⟨b44,0,none⟩) 1 _ _) ?_
      refine bgT (tk rfl (PE.indexArr Z68 rfl rfl (by omega) (by omega)) rfl ?_)
      refine ZB (l':=Zp (w2.set v (min (na w2 v) (na w2 k+1)))) rfl rfl rfl cn3 rfl rfl rfl (Z4y (by omega) (by show 0+((v:Nat):Int).toNat*1=v;omega)) (by rw [Zj,hl7];show 0+((v:Nat):Int).toNat*1+1≤7;omega) ?_
      refine bgT ?_
      exact Z0d (.inl ⟨rfl,_,rfl,_,⟨hrx.1,h2.step hg huq hrx.2.1 hk7 hrx.2.2⟩,rfl,rfl⟩) (fun _ h9=>h9.ftail)
      rintro _ _ _ _ ⟨rfl,rfl,w2,⟨h1,h2⟩,rfl,rfl⟩
      refine Zdp ?_
      refine sqr 2 rfl (sp rfl (PE.add rfl rfl (by omega)) rfl (pur 1 rfl ?_))
      exact Z2i ⟨(k+1,w2,bd0::mk2),by dsimp only;omega,h1,h2.bin⟩ (by dsimp only;omega) sbA rfl (fun w h9=>St.sub ((h9.del b8).perm (Zo [_] [_,_,_] _)))
     obtain rfl:k=d.h.bins.toNat:=by omega
     refine Z9 (Za (Za (Zh (sqt 3 rfl (spL rfl rfl (lhI w' Z9C rfl rfl (hri2.len)) rfl (spL rfl rfl (lhI w Z9C rfl rfl (hri.len)) rfl (sp rfl (PE.eqlAgg w' w (Z2M 10000 172 true 7 ZhV) ZhW rfl rfl hri2.len hri.len) rfl ?_)))))))
     refine Z1 rfl ?_ ?_<;>intro hc3<;>try simp only [cS] at hc3
     subst hc3
     have hdone:=Rlx.done (n:=d.h.bins.toNat) (fun g hg=>by have:=hok.gaps g hg;omega) hw7 hm7 hri hrl
     refine sqt 2 rfl (spL rfl rfl (lhI w' Z9C rfl rfl (hri2.len)) rfl ?_)
     refine Zg4 rfl rfl rfl ZcF rfl (by rw [Zj];exact hri2.len) rfl (Z29 _) ?_
     refine Z5 ?_
     exact Z0V mk2 (H:=(b4,cel 172 (Zp w'))::H) (fun w h9=>((h9.del b7).del b5).perm (List.perm_middle (l₁:=mkh mk2)).symm) rfl (.cons (RV.cell rfl (lhI w' Z9C rfl rfl (hri2.len))) .nil) rfl ⟨by rw [← hdone];rfl,rfl,rfl⟩ (fun w h9=>h9.del b4)
     refine Z2 ?_
     exact Z2i ⟨(w',mk2),hri2⟩ (ZfP hri hri2 hrl.1 hc3) sbA rfl (fun w h9=>h9.del b7)
theorem Z37:apT Tryz.prog 23=some (3,1,8):=by kernel_rfl
theorem Zak:cal Tryz.prog 135=true:=by kernel_rfl
theorem ZdN:cal Tryz.prog 136=true:=by kernel_rfl
theorem ZdO:cal Tryz.prog 138=true:=by kernel_rfl
theorem Zhb:cal Tryz.prog 212=true:=by kernel_rfl
theorem ZdT:cal Tryz.prog 213=true:=by kernel_rfl
theorem Zau:cal Tryz.prog 61=true:=by kernel_rfl
theorem Z94:cal Tryz.prog 64=true:=by kernel_rfl
theorem Zf0:cal Tryz.prog 65=true:=by kernel_rfl
theorem ZaR:Z0m Tryz.prog 242 2=some 2:=by kernel_rfl
theorem sc4:Z17 Tryz.prog 4=true:=by kernel_rfl
theorem ub4:Tryz.prog.underlying 4=some .bool:=by kernel_rfl
def clK (h:Hse) (ss:List Sgt) (but week:Int) (k:Nat):List Int:=((List.range k).filter (Z66 h.gaps ss but week)).map fun (k:Nat)=>(k:Int)
theorem ZcC (h:Hse) (ss:List Sgt) (but week:Int) (k:Nat):clK h ss but week (k+1)=clK h ss but week k++(bif Z66 h.gaps ss but week k then [(k:Int)] else []):=by
 unfold clK
 rw [List.range_succ,List.filter_append,List.map_append,List.filter_cons]
 cases Z66 h.gaps ss but week k<;>rfl
theorem ZaC (h:Hse) (ss:List Sgt) (but week:Int) (k:Nat):(clK h ss but week k).length≤k:=by
 unfold clK
 rw [List.length_map]
 exact Nat.le_trans (List.length_filter_le _ _) (by simp)
theorem ZaD (h:Hse) (ss:List Sgt) (but week:Int):(h.clr ss but week).length≤h.bins.toNat:=ZaC h ss but week _
theorem Zfu (k:Nat):msk [(k:Int)]=2 ^ k:=by unfold msk;rw [List.foldl_cons,List.foldl_nil];unfold bit;rw [Nat.zero_or,Int.toNat_natCast]
def wkR (w:List Int):List Int:=w.map fun n=>bif decide (far≤n) then -1 else n
theorem Z8W {w:List Int} {k:Nat} (hk:k<w.length):wkR (w.take (k+1))=wkR (w.take k)++[bif decide (far≤na w k) then -1 else na w k]:=by
 unfold wkR
 rw [List.take_add_one,ZR hk,List.map_append];rfl
def Hse.weeksV (h:Hse) (l:List Int):List Int:=(wkR (wks h.gaps 0 (msk l))).take h.bins.toNat
def Hse.lsE (h:Hse) (l:List Int):Int:=bif decide (h.check≠0) then h.check else Z0y h.bins l
theorem Z2c {n:Int} {l:List Int} (h:Z0y n l=0):(∀ x∈l,0≤x∧x<n)∧l.Nodup:=by
 unfold Z0y at h
 cases h1:l.all fun k=>inB k 0 (n-1) with
 | false=>rw [h1] at h;cases h
 | true =>
   rw [h1] at h
   cases h2:(List.range l.length).any (Z7e l) with
   | true=>rw [h2] at h;cases h
   | false =>
     refine ⟨fun x hx=>?_,?_⟩
     · have:=List.all_eq_true.1 h1 x hx
       simp only [inB,Bool.and_eq_true,decide_eq_true_eq] at this;omega
     · rw [List.nodup_iff_pairwise_ne]
       rw [List.pairwise_iff_getElem]
       intro i j hi hj hij e
       have h3:=List.any_eq_false.1 h2 j (List.mem_range.2 hj)
       apply h3
       unfold Z7e
       rw [hasI_iff,Z7t (List.getElem?_eq_getElem hj),← e]
       exact List.mem_of_getElem? (by rw [List.getElem?_take,if_pos hij,List.getElem?_eq_getElem hi])
theorem ZeO (gs:List Gp) (m bw:Nat) (x:Sgt) (hx:0≤x.bin∧x.bin<7) (H:Z8) (R:Z4) [hM:Mem1 bw (cel 172 (Zp (wks gs 0 m))) H] :
    FnV Tryz.prog 212 [.agg (Z6Y x).toArray,.pointer (some ⟨bw,0,none⟩)] H R (.bool (exS gs m x)):=by
 refine Zc Tryz.func212 rfl Tryz.ntmps212 rfl ?_
 refine sqt 2 rfl (bx rfl rfl rfl (fun b2=>pur 1 rfl (Z0 ?_)))
 refine Zd [0,1,3,7,0,16,63,0,128,511,1023] (.tk 0 (.ld 1 (.tk 2 (.ld 3 (.tk 4 (.ld 5 (.tk 6 (.tk 7 (.ld 8 (.tk 9 (.tk 10 .done))))))))))) Zt (by kernel_rfl) ?_
 refine tk rfl (PE.fA Z7j rfl) rfl (ld rfl rfl (lh sc3 rfl rfl) rfl (tk rfl (PE.indexArr Z68 rfl rfl (by omega) (by omega)) rfl (ld rfl rfl (lh sc3 rfl (Z0u (w:=wks gs 0 m) (k:=x.bin.toNat) (by rw [Z0b];omega) (by show 0+x.bin.toNat*1=x.bin.toNat;omega))) rfl (tk rfl (PE.fA Z7i rfl) rfl (ld rfl rfl (lh sc3 rfl rfl) rfl (Zm 1 rfl (tk rfl (PE.fA ZaR rfl) rfl (ld rfl rfl (lh sc4 rfl rfl) rfl (tk rfl (PE.eqlBool ub4 rfl rfl) rfl (Zm 1 rfl (Z5 ?_)))))))))))
 exact rtA rfl rfl rfl ⟨by simp only [ZP];unfold exS;rw [Z2G (by omega)],rfl,rfl⟩ drp
theorem Z38 (d:Dk) (hd:d.Ok) (hcl:d.cl=0) (l:List Int) (a:Option Addr) (c:Nat) (hl:l.length≤9223372036854775807) (hx:∀ x∈l,0≤x∧x<7) (ss:List Sgt) (ax:Option Addr) (cx:Nat) (hsl:ss.length≤9223372036854775807) (hss:SOk d.h ss) (H:Z8) (R:Z4) [hD:MemRows (some ⟨d.bd,0,none⟩) 4 [d.row] R] [hG:MemRows d.ag 2 (grows d.h.gaps) R] [hS:MemRows d.as_ 3 (srows d.h.sights) R] [sR:SubF d.R0 R] [hR:MemRows a 1 (Z6 l) R] [hQ:MemRows ax 3 (srows ss) R] :
    FnV Tryz.prog 135 [.pointer (some ⟨d.bd,0,none⟩),.slice a l.length c,.slice ax ss.length cx] H R (.bool (Z6n d.h.gaps (msk l) ss)):=by
 refine Zc Tryz.func135 rfl Tryz.ntmps135 rfl ?_
 refine sqt 1 rfl (pur 1 rfl (sqt 5 rfl (pur 2 rfl ?_)))
 refine clV rfl Zf0 rfl rfl (Z49 d hd l a c hl hx _ _) ?_
 rw [hcl]
 refine alc rfl Zc1 rfl (fun b7=>?_)
 refine Zg4 rfl rfl rfl ZcF rfl (by rw [Zj,Z0b]) rfl (Z29 _) ?_
 refine sqt 4 rfl (pur 1 rfl (sp rfl (PE.makeFunc rfl rfl) rfl ?_))
 refine clV rfl Z6c rfl rfl (Z0X ss ax cx 212 [] [_] (exS d.h.gaps (msk l)) Zhb hsl _ _ (fun _ _ x hx9=>ZeO d.h.gaps (msk l) b7 x (by have:=(hss x hx9).2;have:=hd.ok.bins;omega) _ _)) ?_
 refine pur 1 rfl (Z5 ?_)
 exact rtA rfl rfl rfl ⟨rfl,rfl,rfl⟩ drp
theorem ZdC (gs:List Gp) (k bw:Nat) (x:Sgt) (hx:0≤x.bin∧x.bin<7) (H:Z8) (R:Z4) [hM:Mem1 bw (cel 172 (Zp (wks gs 0 (2 ^ k)))) H] :
    FnV Tryz.prog 213 [.agg (Z6Y x).toArray,.pointer (some ⟨bw,0,none⟩)] H R (.bool (x.seen||decide (x.week<wk gs 0 (2 ^ k) x.bin.toNat))):=by
 refine Zc Tryz.func213 rfl Tryz.ntmps213 rfl ?_
 refine sqt 2 rfl (bx rfl rfl rfl (fun b2=>pur 1 rfl (Z0 ?_)))
 refine Zd [0,1,3,7,15,31,63,7,135,511,1023,2047] (.tk 0 (.ld 1 (.tk 2 (.tk 3 (.ld 4 (.tk 5 (.ld 6 (.tk 7 (.ld 8 (tks 9 3 .done)))))))))) Zt (by kernel_rfl) ?_
 refine tk rfl (PE.fA ZaR rfl) rfl (ld rfl rfl (lh sc4 rfl rfl) rfl (Zm 1 rfl ?_))
 refine Zw 6 rfl ?_ ?_<;>intro g6
 refine Zm 1 rfl ?_
 refine ldN rfl rfl rfl rfl rfl rfl rfl rfl ?_
 refine Zm 1 rfl ?_
 refine ldN rfl rfl rfl rfl rfl rfl rfl rfl ?_
 refine Zm 1 rfl ?_
 refine ldN rfl rfl rfl rfl rfl rfl rfl rfl ?_
 refine Zm 3 rfl (Z5 ?_)
 exact rtA rfl rfl rfl ⟨by first | (simp only [ZP];rw [g6];rfl) | (simp only [ZP];rw [g6,← Z2G (k:=x.bin.toNat) (by omega)];rfl),rfl,rfl⟩ drp
 refine tkG rfl rfl rfl rfl (PE.fA Z7j rfl) rfl ?_
 refine ldG rfl rfl rfl rfl rfl (lh sc3 rfl rfl) rfl ?_
 refine tkG rfl rfl rfl rfl (PE.indexArr Z68 rfl rfl (by omega) (by omega)) rfl ?_
 refine ldG rfl rfl rfl rfl rfl (lh sc3 rfl (Z0u (w:=wks gs 0 (2 ^ k)) (k:=x.bin.toNat) (by rw [Z0b];omega) (by show 0+x.bin.toNat*1=x.bin.toNat;omega))) rfl ?_
 refine tkG rfl rfl rfl rfl (PE.fA Z7i rfl) rfl ?_
 refine ldG rfl rfl rfl rfl rfl (lh sc3 rfl rfl) rfl (Zm 3 rfl (Z5 ?_))
 exact rtA rfl rfl rfl ⟨by first | (simp only [ZP];rw [g6];rfl) | (simp only [ZP];rw [g6,← Z2G (k:=x.bin.toNat) (by omega)];rfl),rfl,rfl⟩ drp
set_option maxHeartbeats 1000000 in
theorem Z9P (d:Dk) (hd:d.Ok) (hcl:d.cl=0) (ss:List Sgt) (ax:Option Addr) (cx:Nat) (hsl:ss.length≤9223372036854775807) (hss:SOk d.h ss) (but week:Int) (hbut:but<7 ∧ -1≤but) (H:Z8) (R:Z4) [hD:MemRows (some ⟨d.bd,0,none⟩) 4 [d.row] R] [hG:MemRows d.ag 2 (grows d.h.gaps) R] [hS:MemRows d.as_ 3 (srows d.h.sights) R] [sR:SubF d.R0 R] [hQ:MemRows ax 3 (srows ss) R] :
    Fn Tryz.prog 136 [.pointer (some ⟨d.bd,0,none⟩),.slice ax ss.length cx,.int .i64 but,.int .i64 week] H R (fun v H' R'=>∃ (a:Option Addr) (c:Nat),v = .slice a (d.h.clr ss but week).length c∧H'=H∧R'=RowsA a 1 (Z6 (d.h.clr ss but week))::R):=by
 refine Zc Tryz.func136 rfl Tryz.ntmps136 rfl ?_
 refine sqt 1 rfl (pur 1 rfl (sqt 1 rfl (pur 1 rfl (Z0 (sqt 6 rfl (pur 1 rfl (sp rfl (PE.nilCheck rfl) rfl (sp rfl (PE.fA Z1h rfl) rfl (sp rfl (PE.fA Z2r rfl) rfl (spL rfl rfl (lfB (sz:=4) sc3 rfl) rfl (pur 1 rfl (Z3 ?_))))))))))))
 have hok:=hd.ok
 have hbn:=hok.bins
 refine Zb (ι:=(k:{k:Nat // k≤d.h.bins.toNat})×OSl 3 1 (Z6 (clK d.h ss but week k.1))) (fun y=>⟨[(0,.pointer (some ⟨d.bd,0,none⟩)),(1,.slice ax ss.length cx),(2,.int .i64 but),(3,.int .i64 week),(16,.int .i64 d.h.bins),(9,y.2.fs),(17,.int .i64 y.1.1)],y.2.G++H,R⟩) (fun y=>d.h.bins.toNat-y.1.1) ⟨⟨0,Nat.zero_le _⟩,OSl.nil _ _⟩ ?_ (fun y=>?_)
 exact Ze idH
 obtain ⟨⟨k,hk⟩,o⟩:=y
 dsimp only at hk o ⊢
 have hcs:=ZcC d.h ss but week k
 have hcn:=ZaC d.h ss but week k
 refine sqt 1 rfl (pur 1 rfl (Z0 ?_))
 refine Z1 rfl ?_ ?_<;>intro hc0<;>try simp only [cS] at hc0
 have hk7:k<7:=by omega
 refine Z2 (Z0 (Z3 (sqt 2 rfl (pur 2 rfl (sqt 6 rfl (pur 2 rfl ?_))))))
 refine bsl (out:=[_]) rfl Z0F zl3 rfl rfl rfl rfl rfl rfl (fun b22=>?_)
 refine Sy.heap (fun w h9=>St.rows (sz:=1) (rows:=Z6 [((k:Nat):Int)]) (rest:=[]) (h9.pull b22) (by simp)) ?_
 refine clV rfl Zf0 rfl rfl (Z49 d hd [(k:Int)] (some ⟨b22,0,none⟩) 1 (by simp) (by simp;omega) _ _) ?_
 rw [hcl,Zfu]
 refine alc rfl Zc1 rfl (fun b11=>?_)
 refine Zg4 rfl rfl rfl ZcF rfl (by rw [Zj,Z0b]) rfl (Z29 _) ?_
 refine Z0 (sqt 9 rfl (pur 3 rfl ?_))
 refine Zw 26 rfl ?_ ?_<;>intro g26
 try simp only [cS] at g26
 refine pur 1 rfl ?_
 refine spG rfl rfl rfl rfl (PE.indexArr Z68 rfl rfl (by omega) (by omega)) rfl ?_
 refine Z0U rfl rfl rfl rfl rfl (lh sc3 rfl (Z0u (w:=wks d.h.gaps 0 (2 ^ k)) (k:=but.toNat) (by rw [Z0b];omega) (by show 0+but.toNat*1=but.toNat;omega))) rfl (pur 3 rfl ?_)
 refine Z1 rfl ?_ ?_<;>intro hc1<;>try simp only [cS] at hc1
 rw [Z2G (by omega)] at hc1
 have hb1:Z66 d.h.gaps ss but week k=false:=by unfold Z66;rw [decide_eq_true g26,dT hc1];rfl
 rw [hb1,cond_false,List.append_nil] at hcs
 refine Z9 (Za (Zh (sqr 2 rfl (sp rfl (PE.add rfl rfl (by omega)) rfl (pur 1 rfl ?_)))))
 exact Z7 ⟨⟨k+1,by omega⟩,o.cast (by rw [hcs])⟩ (fun w h9=>(h9.del b11).ftail)
 rw [Z2G (by omega)] at hc1
 have hb0:Z66 d.h.gaps ss but week k=Z99 d.h.gaps ss k:=by unfold Z66;rw [decide_eq_true g26,dF (by omega)];rfl
 refine Z2 (sqt 3 rfl (pur 1 rfl (sp rfl (PE.makeFunc rfl rfl) rfl ?_)))
 refine clV rfl Z6c rfl rfl (Z0X ss ax cx 213 [] [_] (fun s=>s.seen||decide (s.week<wk d.h.gaps 0 (2 ^ k) s.bin.toNat)) ZdT hsl _ _ (fun _ _ x hx9=>ZdC d.h.gaps k b11 x (by have:=(hss x hx9).2;omega) _ _)) ?_
 refine Z1 rfl ?_ ?_<;>intro hc2
 have hb2:Z66 d.h.gaps ss but week k=true:=hb0.trans hc2
 rw [hb2,cond_true] at hcs
 refine sqr 5 rfl (pur 2 rfl ?_)
 refine bsl (out:=[_]) rfl Z0F zl3 rfl rfl rfl rfl rfl rfl (fun b38=>?_)
 refine apO (o) rfl Z37 rfl rfl (ZU (row:=[.int .i64 k]) rfl) rfl rfl ((by rw [Z0I];simp only [List.length_singleton];omega)) rfl (fun o39=>?_)
 refine pur 1 rfl (sqr 2 rfl (sp rfl (PE.add rfl rfl (by omega)) rfl (pur 1 rfl ?_)))
 exact Z7 ⟨⟨k+1,by omega⟩,o39.cast (by rw [hcs];simp [Z6])⟩ (fun w h9=>((h9.del b38).del b11).ftail)
 have hb2:Z66 d.h.gaps ss but week k=false:=hb0.trans hc2
 rw [hb2,cond_false,List.append_nil] at hcs
 refine Z2 (sqr 2 rfl (sp rfl (PE.add rfl rfl (by omega)) rfl (pur 1 rfl ?_)))
 exact Z7 ⟨⟨k+1,by omega⟩,o.cast (by rw [hcs])⟩ (fun w h9=>(h9.del b11).ftail)
 try simp only [cS] at g26
 have hb0:Z66 d.h.gaps ss but week k=Z99 d.h.gaps ss k:=by unfold Z66;rw [dF (by omega)];rfl
 refine pur 6 rfl ?_
 refine ZG rfl ?_
 refine Z2 (sqt 3 rfl (pur 1 rfl (sp rfl (PE.makeFunc rfl rfl) rfl ?_)))
 refine clV rfl Z6c rfl rfl (Z0X ss ax cx 213 [] [_] (fun s=>s.seen||decide (s.week<wk d.h.gaps 0 (2 ^ k) s.bin.toNat)) ZdT hsl _ _ (fun _ _ x hx9=>ZdC d.h.gaps k b11 x (by have:=(hss x hx9).2;omega) _ _)) ?_
 refine Z1 rfl ?_ ?_<;>intro hc2
 have hb2:Z66 d.h.gaps ss but week k=true:=hb0.trans hc2
 rw [hb2,cond_true] at hcs
 refine sqr 5 rfl (pur 2 rfl ?_)
 refine bsl (out:=[_]) rfl Z0F zl3 rfl rfl rfl rfl rfl rfl (fun b38=>?_)
 refine apO (o) rfl Z37 rfl rfl (ZU (row:=[.int .i64 k]) rfl) rfl rfl ((by rw [Z0I];simp only [List.length_singleton];omega)) rfl (fun o39=>?_)
 refine pur 1 rfl (sqr 2 rfl (sp rfl (PE.add rfl rfl (by omega)) rfl (pur 1 rfl ?_)))
 exact Z7 ⟨⟨k+1,by omega⟩,o39.cast (by rw [hcs];simp [Z6])⟩ (fun w h9=>((h9.del b38).del b11).ftail)
 have hb2:Z66 d.h.gaps ss but week k=false:=hb0.trans hc2
 rw [hb2,cond_false,List.append_nil] at hcs
 refine Z2 (sqr 2 rfl (sp rfl (PE.add rfl rfl (by omega)) rfl (pur 1 rfl ?_)))
 exact Z7 ⟨⟨k+1,by omega⟩,o.cast (by rw [hcs])⟩ (fun w h9=>(h9.del b11).ftail)
 obtain rfl:k=d.h.bins.toNat:=by omega
 obtain ⟨ac,cc,he,hf⟩:=o.freeze
 rw [he,Z0I]
 refine Sy.heap (fun w h9=>hf h9) ?_
 refine Z9 (Za (Za (Zh (sqt 2 rfl (pur 2 rfl (Z5 ?_))))))
 exact rtA rfl rfl rfl ⟨ac,cc,rfl,rfl,rfl⟩ idH
theorem Z9N (d:Dk) (hd:d.Ok) (hcl:d.cl=0) (ss:List Sgt) (ax:Option Addr) (cx:Nat) (hsl:ss.length≤9223372036854775807) (hss:SOk d.h ss) (H:Z8) (R:Z4) [hD:MemRows (some ⟨d.bd,0,none⟩) 4 [d.row] R] [hG:MemRows d.ag 2 (grows d.h.gaps) R] [hS:MemRows d.as_ 3 (srows d.h.sights) R] [sR:SubF d.R0 R] [hQ:MemRows ax 3 (srows ss) R] :
    FnV Tryz.prog 138 [.pointer (some ⟨d.bd,0,none⟩),.slice ax ss.length cx] H R (.bool (d.h.agr ss)):=by
 refine Zc Tryz.func138 rfl Tryz.ntmps138 rfl ?_
 refine sqt 1 rfl (pur 1 rfl (sqt 7 rfl (pur 3 rfl ?_)))
 refine cl rfl ZdN rfl rfl (Z9P d hd hcl ss ax cx hsl hss (-1) 0 (by decide) _ _) ?_
 rintro _ _ _ ⟨ac,cc,rfl,rfl,rfl⟩
 refine pur 1 rfl ?_
 refine clV rfl Zak rfl rfl (Z38 d hd hcl (d.h.clr ss (-1) 0) ac cc (by have:=ZaD d.h ss (-1) 0;have:=hd.ok.bins;omega) (fun x hx=>by have:=Z83 x hx;have:=hd.ok.bins;omega) ss ax cx hsl hss _ _) ?_
 refine pur 1 rfl (Z5 ?_)
 exact rtA rfl rfl rfl ⟨rfl,rfl,rfl⟩ (fun w h9=>h9.ftail)
theorem Z3P (h:Hse) (ag as_:Option Addr) (cg cs:Nat) (hlg:h.gaps.length≤9223372036854775807) (hls:h.sights.length≤9223372036854775807) (H:Z8) (R:Z4) [hG:MemRows ag 2 (grows h.gaps) R] [hS:MemRows as_ 3 (srows h.sights) R] :
    Fn Tryz.prog 132 [h.v (h.sg ag cg) (h.ss as_ cs)] H R (fun v H' R'=>H'=H∧((h.check≠0∧v = .tuple #[.pointer none,.int .i64 h.check]∧R'=R)∨(h.check=0∧h.agr h.sights=false∧v = .tuple #[.pointer none,.int .i64 7]∧R'=R)∨(h.check=0∧h.agr h.sights=true∧∃ bd,v = .tuple #[.pointer (some ⟨bd,0,none⟩),.int .i64 0]∧R'=RowsA (some ⟨bd,0,none⟩) 4 [(dkA h ag as_ cg cs bd).row]::R))):=by
 refine Zc Tryz.func132 rfl Tryz.ntmps132 rfl ?_
 refine sqt 3 rfl (bx rfl rfl rfl (fun b1=>pur 2 rfl (Z0 (sqt 3 rfl (spL rfl rfl (lhA (htl h (h.sg ag cg) (h.ss as_ cs)) Z2m rfl rfl rfl) rfl ?_)))))
 refine clV rfl Zau rfl rfl (Z1P h ag as_ cg cs hlg hls _ _) ?_
 refine pur 1 rfl (sqt 2 rfl (pur 2 rfl ?_))
 refine Z1 rfl ?_ ?_<;>intro hc0
 have hck:h.check≠0:=of_decide_eq_true hc0
 refine sqt 3 rfl (pur 3 rfl (Z5 ?_))
 exact rtB rfl rfl rfl rfl ⟨rfl,.inl ⟨hck,rfl,rfl⟩⟩ drp
 have hck:h.check=0:=Classical.byContradiction fun e=>by rw [decide_eq_true e] at hc0;cases hc0
 have hok:=hse_ok.1 hck
 refine Z2 (sqt 3 rfl (spL rfl rfl (lhA (htl h (h.sg ag cg) (h.ss as_ cs)) Z2m rfl rfl rfl) rfl ?_))
 refine cl rfl Z94 rfl rfl (Z92 h ag as_ cg cs _ _) ?_
 rintro _ _ _ ⟨bd,rfl,rfl,rfl⟩
 refine pur 1 rfl (Z0 (sqt 5 rfl (pur 1 rfl (sp rfl (PE.fA Z2N rfl) rfl (spL rfl rfl (lh Zc8 rfl rfl) rfl ?_)))))
 refine clV rfl ZdO rfl rfl (Z9N (dkA h ag as_ cg cs bd) (Z1m h ag as_ cg cs hok bd) rfl h.sights as_ cs hls hok.sights _ _) ?_
 refine pur 1 rfl ?_
 refine Z1 rfl ?_ ?_<;>intro hc1<;>try simp only [cS] at hc1
 refine sqt 2 rfl (pur 2 rfl (Z5 ?_))
 exact rtB rfl rfl rfl rfl ⟨rfl,.inr (.inl ⟨hck,hc1,rfl,rfl⟩)⟩ drp
 have hc9:(!h.agr h.sights)=false:=hc1
 have hc1:h.agr h.sights=true:=by simpa using hc9
 refine Z2 (sqt 3 rfl (pur 3 rfl (Z5 ?_)))
 exact rtB rfl rfl rfl rfl ⟨rfl,.inr (.inr ⟨hck,hc1,bd,rfl,rfl⟩)⟩ drp
theorem Zku:apT Tryz.prog 93=some (242,3,24):=by kernel_rfl
theorem ZdL:cal Tryz.prog 132=true:=by kernel_rfl
theorem ZdM:cal Tryz.prog 133=true:=by kernel_rfl
theorem ZgK:cal Tryz.prog 134=true:=by kernel_rfl
theorem ZgL:cal Tryz.prog 137=true:=by kernel_rfl
theorem Zaq:cal Tryz.prog 210=true:=by kernel_rfl
theorem Zar:cal Tryz.prog 211=true:=by kernel_rfl
theorem ZcG:ZJ Tryz.prog 173=some 1:=by kernel_rfl
theorem Z6g:ZJ Tryz.prog 23=some 1:=by kernel_rfl
theorem Zkz:ZJ Tryz.prog 52=some 1:=by kernel_rfl
theorem Z0x:Z17 Tryz.prog 23=true:=by kernel_rfl
theorem Zim:Z17 Tryz.prog 257=true:=by kernel_rfl
theorem Zei:Z17 Tryz.prog 52=true:=by kernel_rfl
theorem Zk4:slE Tryz.prog 93=some (242,3):=by kernel_rfl
theorem Zdv:ZD Tryz.prog 173=some ([.pointer none]):=by kernel_rfl
theorem Zc2:ZD Tryz.prog 23=some ([.slice none 0 0]):=by kernel_rfl
theorem Zc3:ZD Tryz.prog 242=some ([.int .i64 0,.int .i64 0,.bool false]):=by kernel_rfl
theorem ZkF:ZD Tryz.prog 52=some ([.nilFunc]):=by kernel_rfl
theorem Zdg {a:Option Addr} {sz:Nat} {rows:List (List Value)} {w:World} (h:RowsA a sz rows w) (ha:a.isNone=true):rows=[]:=by
 false_or_by_contra
 rename_i h0
 obtain ⟨b,off,e⟩:=Z1Y h h0
 rw [e] at ha;cases ha
theorem St.norows {sz:Nat} {H:Z8} {R:Z4} {w:World} (h:St H R w):St H (RowsA none sz []::R) w:=St.also h (fun _ _ i row hi=>by simp at hi)
theorem Z8w {ag:List Int→Bool} {n r fr i:Nat} {l x:List Int} (h1:∀ j,fr≤j→j<i→ZZ ag n r (l++[(j:Int)]) (j+1)=none) (hi:fr≤i∧i<n) (h:ZZ ag n r (l++[(i:Int)]) (i+1)=some x):ZZ ag n (r+1) l fr=some x:=by
 unfold ZZ
 obtain ⟨d,rfl⟩:∃ d,i=fr+d:=⟨i-fr,by omega⟩
 have key:∀ (m fr:Nat) (d:Nat),d<m→(∀ j,fr≤j→j<fr+d→ZZ ag n r (l++[(j:Int)]) (j+1)=none)→ZZ ag n r (l++[((fr+d:Nat):Int)]) (fr+d+1)=some x→(List.range' fr m).findSome? (fun (i:Nat)=>ZZ ag n r (l++[((i:Nat):Int)]) (i+1))=some x:=by
   intro m
   induction m with
   | zero=>intro fr d hd;omega
   | succ m ih =>
     intro fr d hd hn hs
     rw [List.range'_succ,List.findSome?_cons]
     cases d with
     | zero=>rw [show ZZ ag n r (l++[((fr:Nat):Int)]) (fr+1)=some x from hs]
     | succ d =>
       rw [hn fr (Nat.le_refl _) (by omega)]
       exact ih (fr+1) d (by omega) (fun j h1 h2=>hn j (by omega) (by omega)) (by rw [show fr+1+d=fr+(d+1) from by omega];exact hs)
 exact key (n-fr) fr d (by omega) h1 h
theorem Zbk {ag:List Int→Bool} {n r fr:Nat} {l:List Int} (h1:∀ j,fr≤j→j<n→ZZ ag n r (l++[(j:Int)]) (j+1)=none):ZZ ag n (r+1) l fr=none:=by
 unfold ZZ
 rw [List.findSome?_eq_none_iff]
 intro i hi
 rw [List.mem_range'_1] at hi
 exact h1 i hi.1 (by omega)
theorem Z8J {has:List Int→Bool} {n:Nat} (h:∀ k,k≤n→ZZ (fun l=>!has l) n k [] 0=none):Z3C has n=none:=by
 unfold Z3C
 rw [List.findSome?_eq_none_iff]
 intro i hi
 rw [List.mem_range'_1] at hi
 exact h i (by omega)
theorem Zdk {has:List Int→Bool} {n k:Nat} {x:List Int} (h1:∀ j,j<k→ZZ (fun l=>!has l) n j [] 0=none) (hk:k≤n) (h:ZZ (fun l=>!has l) n k [] 0=some x):Z3C has n=some x:=by
 have key:∀ (m fr:Nat) (d:Nat),d<m→(∀ j,fr≤j→j<fr+d→ZZ (fun l=>!has l) n j [] 0=none)→ZZ (fun l=>!has l) n (fr+d) [] 0=some x→(List.range' fr m).findSome? (fun k=>ZZ (fun l=>!has l) n k [] 0)=some x:=by
   intro m
   induction m with
   | zero=>intro fr d hd;omega
   | succ m ih =>
     intro fr d hd hn hs
     rw [List.range'_succ,List.findSome?_cons]
     cases d with
     | zero=>rw [show ZZ (fun l=>!has l) n fr [] 0=some x from hs]
     | succ d =>
       rw [hn fr (Nat.le_refl _) (by omega)]
       exact ih (fr+1) d (by omega) (fun j h1 h2=>hn j (by omega) (by omega)) (by rw [show fr+1+d=fr+(d+1) from by omega];exact hs)
 exact key (n+1) 0 k (by omega) (fun j _ h2=>h1 j (by omega)) (by rw [Nat.zero_add];exact h)
instance (priority:=low) MemF.ofRows (a:Option Addr) (sz:Nat) (rows:List (List Value)) (R:Z4) [m:MemRows a sz rows R]:MemF (RowsA a sz rows) R:=⟨m.mem⟩
def ClQ (c8:Nat) (H:Z8) (R:Z4):Option (List Int)→Value→Z8→Z4→Prop
 | none,v,H',R'=>v = .bool false∧∃ ov,H'=(c8,cel 23 [ov])::H∧R'=R
 | some x,v,H',R'=>v = .bool true∧∃ a c,x.length≤c∧H'=(c8,cel 23 [.slice a x.length c])::H∧R'=RowsA a 1 (Z6 x)::R
theorem ClQ.bool {c8:Nat} {H H':Z8} {R R':Z4} {o:Option (List Int)} {v:Value} (h:ClQ c8 H R o v H' R'):∃ b,v = .bool b:=by
 cases o with
 | none=>exact ⟨_,h.1⟩
 | some x=>exact ⟨_,h.1⟩
def Zg6 (g:Nat) (cap:List Value) (has:List Int→Bool) (n:Nat) (R0:Z4):Prop:=cal Tryz.prog g=true∧∀ (l:List Int) (a:Option Addr) (c:Nat) (H:Z8) (R:Z4),(∀ f∈R0,f∈R)→RowsA a 1 (Z6 l)∈R→(∀ x∈l,0≤x∧x<n)→l.length≤n→FnV Tryz.prog g ([]++[.slice a l.length c]++cap) H R (.bool (has l))
def Hse.orgR (h:Hse):List Int×Int:=bif decide (h.check≠0) then ([],h.check) else bif !h.agr h.sights then ([],7) else ((Z3C (fun l=>Z6n h.gaps (msk l) h.sights) h.bins.toNat).getD [],0)
def Z6X (p:Nat→Bool) (k:Nat):List Int:=((List.range k).filter p).map fun (k:Nat)=>(k:Int)
theorem Z6s (p:Nat→Bool) (k:Nat):Z6X p (k+1)=Z6X p k++(bif p k then [(k:Int)] else []):=by
 unfold Z6X
 rw [List.range_succ,List.filter_append,List.map_append,List.filter_cons]
 cases p k<;>rfl
theorem Z8a (p:Nat→Bool) (k:Nat):(Z6X p k).length≤k:=by
 unfold Z6X
 rw [List.length_map]
 exact Nat.le_trans (List.length_filter_le _ _) (by simp)
theorem ZaL {p:Nat→Bool} {k:Nat} (h:p k=true):Z6X p (k+1)=Z6X p k++[(k:Int)]:=by rw [Z6s,h];rfl
theorem Z5x {p:Nat→Bool} {k:Nat} (h:p k=false):Z6X p (k+1)=Z6X p k:=by rw [Z6s,h];exact List.append_nil _
def Hse.surB (h:Hse) (week:Int) (k:Nat):Bool:=!Z6n h.gaps (msk (h.clr h.sights k week)) h.sights
def Hse.wkE (h:Hse) (week:Int):Int:=bif decide (h.check≠0) then h.check else bif !inB week 0 9 then 3 else bif !h.agr h.sights then 7 else 0
def Hse.surR (h:Hse) (week:Int):List Int×Int:=(bif decide (h.wkE week=0) then Z6X (h.surB week) h.bins.toNat else [],h.wkE week)
theorem ZiD {h:Hse} {week:Int} (hk:h.check≠0):h.wkE week=h.check:=by unfold Hse.wkE;rw [decide_eq_true hk];rfl
theorem ZiE {h:Hse} {week:Int} (hk:h.check=0) (hi:(!inB week 0 9)=true):h.wkE week=3:=by unfold Hse.wkE;rw [decide_eq_false (fun e=>e hk),hi];rfl
theorem ZiC {h:Hse} {week:Int} (hk:h.check=0) (hi:(!inB week 0 9)=false) (ha:h.agr h.sights=false):h.wkE week=7:=by unfold Hse.wkE;rw [decide_eq_false (fun e=>e hk),hi,ha];rfl
theorem ZiF {h:Hse} {week:Int} (hk:h.check=0) (hi:(!inB week 0 9)=false) (ha:h.agr h.sights=true):h.wkE week=0:=by unfold Hse.wkE;rw [decide_eq_false (fun e=>e hk),hi,ha];rfl
theorem Z7G {h:Hse} {week e:Int} (h1:h.wkE week=e) (h2:e≠0):h.surR week=([],e):=by unfold Hse.surR;rw [h1,decide_eq_false h2];rfl
theorem ZfQ {h:Hse} {week:Int} (h1:h.wkE week=0):h.surR week=(Z6X (h.surB week) h.bins.toNat,0):=by unfold Hse.surR;rw [h1];rfl
theorem Zbr {ss:List Sgt} {l:List Int} {k:Nat} {i:Int} {s:Sgt} (hi:l[k]?=some i) (hs:ss[i.toNat]?=some s):Z1s ss (l.take (k+1))=Z1s ss (l.take k)++[s]:=by
 unfold Z1s
 rw [List.take_add_one,hi,List.filterMap_append,Option.toList_some,List.filterMap_cons,hs];rfl
theorem Z8E (ss:List Sgt) (l:List Int):(Z1s ss l).length≤l.length:=List.length_filterMap_le _ _
theorem ZfD {h:Hse} {ss:List Sgt} (hs:SOk h ss) (l:List Int):SOk h (Z1s ss l):=fun s h1=>by
 obtain ⟨i,_,h2⟩:=List.mem_filterMap.1 h1
 exact hs s (List.mem_of_getElem? h2)
def Hse.claR (h:Hse):List Int×Int:=bif decide (h.check≠0) then ([],h.check) else match h.claS with | some x=>(x,0) | none=>([],6)
theorem Z2w (xs:List Int) (a:Option Addr) (c:Nat) (hl:xs.length≤1000000) (H:Z8) (R:Z4) [hR:MemRows a 1 (Z6 xs) R] :
    Fn Tryz.prog 211 [.slice a xs.length c] H R (fun v H' R'=>∃ o:OSl 3 1 (Z6 xs),v=o.fs∧H'=o.G++H∧R'=R∧(a.isSome=true→o.here)):=by
 refine Zc Tryz.func211 rfl Tryz.ntmps211 rfl ?_
 refine sqt 1 rfl (pur 1 rfl (Z0 (sqt 2 rfl (pur 1 rfl (sp rfl (PE.eqlNil ZT rfl rfl) rfl ?_)))))
 refine Z1 rfl ?_ ?_<;>intro hc0
 refine Sy.pre (fun w h=>Zdg (h.now hR.mem) hc0) (fun hnil=>?_)
 obtain rfl:xs=[]:=by simpa [Z6] using hnil
 refine sqt 1 rfl (pur 1 rfl (Z5 ?_))
 first
   | exact rtA rfl rfl rfl ⟨o2.cast (by simp),rfl,rfl,rfl,fun _=>ho2⟩ idH
   | exact rtA rfl rfl rfl ⟨OSl.nil _ _,rfl,rfl,rfl,fun h=>by cases a<;>simp_all⟩ idH
 refine Z2 (sqt 4 rfl ?_)
 refine Zj4 rfl Z0F rfl (fun o5 ho5=>?_)
 refine pur 1 rfl ?_
 refine Zkv (news:=Z6 xs) o5 rfl Z37 rfl rfl (Zil) (by simp [Z6]) (by simp [Z0E,Z6,Value.oneCell']) ⟨by simp [Z6];omega,by simp [Z6];omega⟩ rfl ho5 (fun o2 ho2=>?_)
 refine pur 1 rfl (Z5 ?_)
 first
   | exact rtA rfl rfl rfl ⟨o2.cast (by simp),rfl,rfl,rfl,fun _=>ho2⟩ idH
   | exact rtA rfl rfl rfl ⟨OSl.nil _ _,rfl,rfl,rfl,fun h=>by cases a<;>simp_all⟩ idH
def ShC (g:Nat) (cap:List Value) (has:List Int→Bool) (n:Nat) (R0:Z4) (many bm bo bk bn bf r:Nat):Prop:=∀ (l:List Int) (al:Option Addr) (cq fr:Nat) (ov:Value) (H:Z8) (R:Z4) [m1:MemRows (some ⟨bm,0,none⟩) 1 [[.int .i64 (many:Int)]] R] [m2:MemRows (some ⟨bk,0,none⟩) 1 [[.func (.func g) #[] cap.toArray]] R] [m3:MemRows (some ⟨bn,0,none⟩) 1 [[.int .i64 (n:Int)]] R] [m4:MemRows (some ⟨bf,0,none⟩) 1 [[(.func (.func 210) #[] #[.pointer (some ⟨bm,0,none⟩),.pointer (some ⟨bo,0,none⟩),.pointer (some ⟨bk,0,none⟩),.pointer (some ⟨bn,0,none⟩),.pointer (some ⟨bf,0,none⟩)])]] R] [sR:SubF R0 R] [hL:MemRows al 1 (Z6 l) R],l.length+r=many→l.length≤cq→(∀ x∈l,0≤x∧x<n) →
 Fn Tryz.prog 210 [.slice al l.length cq,.int .i64 fr,.pointer (some ⟨bm,0,none⟩),.pointer (some ⟨bo,0,none⟩),.pointer (some ⟨bk,0,none⟩),.pointer (some ⟨bn,0,none⟩),.pointer (some ⟨bf,0,none⟩)] ((bo,cel 23 [ov])::H) R (ClQ bo H R (ZZ (fun l=>!has l) n r l fr))
theorem Z3q (g:Nat) (cap:List Value) (has:List Int→Bool) (n:Nat) (R0:Z4) (hp:Zg6 g cap has n R0) (hn:n≤1000) (many bm bo bk bn bf r:Nat) (hmn:many≤n) (ih:∀ q,r=q+1→ShC g cap has n R0 many bm bo bk bn bf q) :
    ShC g cap has n R0 many bm bo bk bn bf r:=by
 intro l al cq fr ov H R m1 m2 m3 m4 sR hL hlr hlq hlx
 refine Zc Tryz.func210 rfl Tryz.ntmps210 rfl ?_
 refine sqt 1 rfl (pur 1 rfl (Z0 (sqt 4 rfl (pur 1 rfl (sp rfl (PE.lenSl ZT rfl) rfl (spL rfl rfl (lfB (sz:=1) sc3 rfl) rfl (pur 1 rfl ?_)))))))
 refine Z1 rfl ?_ ?_<;>intro hc0<;>try simp only [cS] at hc0
 obtain rfl:r=0:=by omega
 refine sqt 2 rfl (pur 1 rfl ?_)
 refine sto rfl rfl rfl Z6g rfl rfl rfl rfl ?_
 refine sqt 4 rfl (spL rfl rfl (lfB (sz:=1) Zim rfl) rfl (pur 1 rfl ?_))
 refine Z3t rfl rfl (hp.1) rfl rfl (hp.2 l al cq _ _ sR.sub hL.mem hlx (by omega)) ?_
 refine pur 1 rfl (Z5 ?_)
 first
   | exact rtA rfl rfl rfl (show ClQ bo H R (ZZ (fun l=>!has l) n (q+1) l fr) _ _ _ by rw [hmr];exact ⟨rfl,ov,rfl,rfl⟩) drp
   | (rcases hag:has l with _ | _
      · exact rtA rfl rfl rfl (show ClQ bo H _ (ZZ (fun l=>!has l) n 0 l fr) _ _ _ by rw [ZZ,show (!has l)=true from by rw [hag];rfl];exact ⟨rfl,_,rfl,rfl⟩) idH
      · exact rtA rfl rfl rfl (show ClQ bo H _ (ZZ (fun l=>!has l) n 0 l fr) _ _ (RowsA al 1 (Z6 l)::_) by rw [ZZ,show (!has l)=false from by rw [hag];rfl];exact ⟨rfl,al,cq,hlq,rfl,rfl⟩) (fun w h=>St.also h (fun w' hg=>hg _ hL.mem)))
 obtain ⟨q,rfl⟩:∃ q,r=q+1:=⟨r-1,by omega⟩
 refine Z2 (Z0 (sqt 2 rfl (pur 2 rfl (Z3 ?_))))
 refine Zb (ι:={x:Nat×Value // fr≤x.1∧∀ j,fr≤j→j<x.1→j<n→ZZ (fun l=>!has l) n q (l++[(j:Int)]) (j+1)=none}) (fun x=>⟨[(0,.slice al l.length cq),(2,.pointer (some ⟨bm,0,none⟩)),(3,.pointer (some ⟨bo,0,none⟩)),(4,.pointer (some ⟨bk,0,none⟩)),(5,.pointer (some ⟨bn,0,none⟩)),(6,.pointer (some ⟨bf,0,none⟩)),(10,.int .i64 x.1.1)],(bo,cel 23 [x.1.2])::H,R⟩) (fun x=>n-x.1.1) ⟨(fr,ov),Nat.le_refl _,fun j h1 h2=>by dsimp only at h2;omega⟩ ?_ (fun x=>?_)
 exact Ze idH
 obtain ⟨⟨i,ov⟩,hfi,hno⟩:=x
 dsimp only at hfi hno ⊢
 refine Z0 (sqt 3 rfl (pur 1 rfl (spL rfl rfl (lfB (sz:=1) sc3 rfl) rfl (pur 1 rfl ?_))))
 refine Z1 rfl ?_ ?_<;>intro hc1<;>try simp only [cS] at hc1
 refine Z2 (Z0 (Z3 (Z0 ?_)))
 refine Zd [0,0,2,0,8,30,0,64,255] (.ld 0 (.tk 1 (.tk 3 (.tk 6 (.tk 7 (.any (.alt 2 (.big 4 (.big 5 (.big 8 .done))) (.alt 4 (.big 2 (.big 5 (.big 8 .done))) .stop)))))))) Zt (by kernel_rfl) ?_
 refine ld rfl rfl (lfB (sz:=1) Zei rfl) rfl (Zm 3 rfl (tk rfl (PE.add rfl rfl (by omega)) rfl ?_))
 refine ZI ?_ ?_
 refine cl rfl Zar rfl rfl (Z2w l al cq (by omega) _ _) ?_
 rintro _ _ R1 ⟨o,rfl,rfl,hR1,_⟩
 obtain rfl:=hR1.symm
 clear hR1
 refine bg (fun w hs=>⟨(lfB (sz:=1) Zei rfl) w hs,trivial⟩) ?_
 refine bsl (out:=[_]) rfl Z0F zl3 rfl rfl rfl rfl rfl rfl (fun b29=>?_)
 refine bg (fun w hs=>⟨(lfB (sz:=1) Zei rfl) w hs,trivial⟩) ?_
 refine apO (o) rfl Z37 rfl rfl (ZU (row:=[.int .i64 i]) rfl) rfl rfl ((by simp only [Z6,List.length_map,List.length_singleton];omega)) rfl (fun o30=>?_)
 refine bg (fun w hs=>⟨(lfB (sz:=1) Zei rfl) w hs,trivial⟩) ?_
 have e34:Z6 l++[[.int .i64 (i:Int)]]=Z6 (l++[(i:Int)]):=by simp [Z6]
 obtain ⟨an,cn,he,hcn9,hf⟩:=(o30.cast e34).freezeC
 rw [show o30.fs=_ from he]
 refine Sy.heap (fun w h=>hf (h.pullG o30.G)) ?_
 refine Sy.heap (fun w h=>h.del b29) ?_
 rw [show (Z6 (l++[(i:Int)])).length=(l++[(i:Int)]).length from List.length_map _] at hcn9 ⊢
 clear he hf
 refine clF rfl rfl (Zaq) rfl rfl (ih q rfl (l++[(i:Int)]) an cn (i+1) ov _ _ (by rw [List.length_append];simp only [List.length_singleton];omega) hcn9 (fun x hx=>(List.mem_append.1 hx).elim (hlx x) (fun h=>by have:=List.mem_singleton.1 h;omega))) ?_
 rintro v H2 R2 hQ
 obtain ⟨bv,rfl⟩:=hQ.bool
 rcases hsr:ZZ (fun l=>!has l) n q (l++[(i:Int)]) (i+1) with _ | d
 refine bgT ?_
 refine Z1 rfl ?_ ?_<;>intro hc2
 rw [hsr] at hQ
 obtain ⟨hv,_⟩:=hQ
 cases hv
 exact absurd hc2 (by simp)
 rw [hsr] at hQ
 obtain ⟨hv,ov2,rfl,hR2⟩:=hQ
 cases hv
 obtain rfl:=hR2.symm
 clear hR2
 refine Z2 (sqr 3 rfl (pur 1 rfl (sp rfl (PE.add rfl rfl (by omega)) rfl (pur 1 rfl ?_))))
 exact Z7 ⟨(i+1,ov2),by dsimp only;omega,fun j h1 h2 h3=>(Nat.lt_succ_iff_lt_or_eq.1 h2).elim (fun h=>hno j h1 h h3) (fun e=>by subst e;exact hsr)⟩ (fun w h=>h.ftail)
 refine bgT ?_
 refine Z1 rfl ?_ ?_<;>intro hc2
 rw [hsr] at hQ
 obtain ⟨hv,a9,c99,hc99,rfl,rfl⟩:=hQ
 cases hv
 have hmr:=Z8w (ag:=(fun l=>!has l)) (fun j h1 h2=>hno j h1 h2 (by omega)) ⟨hfi,by omega⟩ hsr
 refine sqt 1 rfl (pur 1 rfl (Z5 ?_))
 exact rtA rfl rfl rfl (show ClQ bo H R (ZZ (fun l=>!has l) n (q+1) l fr) _ _ _ by rw [hmr];exact ⟨rfl,a9,c99,hc99,rfl,rfl⟩) drp
 rw [hsr] at hQ
 obtain ⟨hv,_⟩:=hQ
 cases hv
 exact absurd hc2 (by simp)
 refine ZI ?_ ?_
 refine bsl (out:=[_]) rfl Z0F zl3 rfl rfl rfl rfl rfl rfl (fun b29=>?_)
 refine bg (fun w hs=>⟨(lfB (sz:=1) Zei rfl) w hs,trivial⟩) ?_
 refine cl rfl Zar rfl rfl (Z2w l al cq (by omega) _ _) ?_
 rintro _ _ R1 ⟨o,rfl,rfl,hR1,_⟩
 obtain rfl:=hR1.symm
 clear hR1
 refine bg (fun w hs=>⟨(lfB (sz:=1) Zei rfl) w hs,trivial⟩) ?_
 refine apO (o) rfl Z37 rfl rfl (ZU (row:=[.int .i64 i]) rfl) rfl rfl ((by simp only [Z6,List.length_map,List.length_singleton];omega)) rfl (fun o30=>?_)
 refine bg (fun w hs=>⟨(lfB (sz:=1) Zei rfl) w hs,trivial⟩) ?_
 have e34:Z6 l++[[.int .i64 (i:Int)]]=Z6 (l++[(i:Int)]):=by simp [Z6]
 obtain ⟨an,cn,he,hcn9,hf⟩:=(o30.cast e34).freezeC
 rw [show o30.fs=_ from he]
 refine Sy.heap (fun w h=>hf (h.pullG o30.G)) ?_
 refine Sy.heap (fun w h=>h.del b29) ?_
 rw [show (Z6 (l++[(i:Int)])).length=(l++[(i:Int)]).length from List.length_map _] at hcn9 ⊢
 clear he hf
 refine clF rfl rfl (Zaq) rfl rfl (ih q rfl (l++[(i:Int)]) an cn (i+1) ov _ _ (by rw [List.length_append];simp only [List.length_singleton];omega) hcn9 (fun x hx=>(List.mem_append.1 hx).elim (hlx x) (fun h=>by have:=List.mem_singleton.1 h;omega))) ?_
 rintro v H2 R2 hQ
 obtain ⟨bv,rfl⟩:=hQ.bool
 rcases hsr:ZZ (fun l=>!has l) n q (l++[(i:Int)]) (i+1) with _ | d
 refine bgT ?_
 refine Z1 rfl ?_ ?_<;>intro hc2
 rw [hsr] at hQ
 obtain ⟨hv,_⟩:=hQ
 cases hv
 exact absurd hc2 (by simp)
 rw [hsr] at hQ
 obtain ⟨hv,ov2,rfl,hR2⟩:=hQ
 cases hv
 obtain rfl:=hR2.symm
 clear hR2
 refine Z2 (sqr 3 rfl (pur 1 rfl (sp rfl (PE.add rfl rfl (by omega)) rfl (pur 1 rfl ?_))))
 exact Z7 ⟨(i+1,ov2),by dsimp only;omega,fun j h1 h2 h3=>(Nat.lt_succ_iff_lt_or_eq.1 h2).elim (fun h=>hno j h1 h h3) (fun e=>by subst e;exact hsr)⟩ (fun w h=>h.ftail)
 refine bgT ?_
 refine Z1 rfl ?_ ?_<;>intro hc2
 rw [hsr] at hQ
 obtain ⟨hv,a9,c99,hc99,rfl,rfl⟩:=hQ
 cases hv
 have hmr:=Z8w (ag:=(fun l=>!has l)) (fun j h1 h2=>hno j h1 h2 (by omega)) ⟨hfi,by omega⟩ hsr
 refine sqt 1 rfl (pur 1 rfl (Z5 ?_))
 exact rtA rfl rfl rfl (show ClQ bo H R (ZZ (fun l=>!has l) n (q+1) l fr) _ _ _ by rw [hmr];exact ⟨rfl,a9,c99,hc99,rfl,rfl⟩) drp
 rw [hsr] at hQ
 obtain ⟨hv,_⟩:=hQ
 cases hv
 exact absurd hc2 (by simp)
 exact Z0f
 have hmr:=Zbk (ag:=(fun l=>!has l)) (n:=n) (r:=q) (l:=l) (fr:=fr) (fun j h1 h2=>hno j h1 (by omega) h2)
 refine Z9 (Za (Za (Zh (sqt 1 rfl (pur 1 rfl (Z5 ?_))))))
 first
   | exact rtA rfl rfl rfl (show ClQ bo H R (ZZ (fun l=>!has l) n (q+1) l fr) _ _ _ by rw [hmr];exact ⟨rfl,ov,rfl,rfl⟩) drp
   | (rcases hag:has l with _ | _
      · exact rtA rfl rfl rfl (show ClQ bo H _ (ZZ (fun l=>!has l) n 0 l fr) _ _ _ by rw [ZZ,show (!has l)=true from by rw [hag];rfl];exact ⟨rfl,_,rfl,rfl⟩) idH
      · exact rtA rfl rfl rfl (show ClQ bo H _ (ZZ (fun l=>!has l) n 0 l fr) _ _ (RowsA al 1 (Z6 l)::_) by rw [ZZ,show (!has l)=false from by rw [hag];rfl];exact ⟨rfl,al,cq,hlq,rfl,rfl⟩) (fun w h=>St.also h (fun w' hg=>hg _ hL.mem)))
theorem Zaf (g:Nat) (cap:List Value) (has:List Int→Bool) (n:Nat) (R0:Z4) (hp:Zg6 g cap has n R0) (hn:n≤1000) (many bm bo bk bn bf:Nat) (hmn:many≤n):∀ r,ShC g cap has n R0 many bm bo bk bn bf r
 | 0=>Z3q g cap has n R0 hp hn many bm bo bk bn bf 0 hmn (fun _ h=>by cases h)
 | r + 1 => Z3q g cap has n R0 hp hn many bm bo bk bn bf (r + 1) hmn (fun q h => by
     obtain rfl:r=q:=Nat.succ.inj h
     exact Zaf g cap has n R0 hp hn many bm bo bk bn bf hmn r)
set_option maxHeartbeats 600000 in
theorem Z52 (g:Nat) (cap:List Value) (has:List Int→Bool) (n:Nat) (R0:Z4) (hp:Zg6 g cap has n R0) (hn:n≤1000) (H:Z8) (R:Z4) [sR:SubF R0 R] :
    Fn Tryz.prog 133 [.int .i64 (n:Int),.func (.func g) #[] cap.toArray] H R (fun v H' R'=>H'=H∧((Z3C has n=none∧v = .tuple #[.slice none 0 0,.bool false]∧R'=R)∨∃ x a c,Z3C has n=some x∧x.length≤c∧v = .tuple #[.slice a x.length c,.bool true]∧R'=RowsA a 1 (Z6 x)::R)):=by
 refine Zc Tryz.func133 rfl Tryz.ntmps133 rfl ?_
 refine sqt 4 rfl (bx rfl rfl rfl (fun b2=>bx rfl rfl rfl (fun b3=>pur 2 rfl (Z0 (sqt 3 rfl (spL rfl rfl (lh sc3 rfl rfl) rfl (sp rfl (PE.add rfl rfl (by omega)) rfl (pur 1 rfl (Z3 ?_)))))))))
 refine Sy.heap (fun w h9=>St.rows (sz:=1) (rows:=[[.int .i64 (n:Int)]]) (rest:=[]) (h9.pull b2) (by simp)) ?_
 refine Sy.heap (fun w h9=>St.rows (sz:=1) (rows:=[[.func (.func g) #[] cap.toArray]]) (rest:=[]) (h9.pull b3) (by simp)) ?_
 refine Zb (ι:={k:Nat // k≤n+1∧∀ j,j<k→ZZ (fun l=>!has l) n j [] 0=none}) (fun k=>⟨[(2,.pointer (some ⟨b2,0,none⟩)),(3,.pointer (some ⟨b3,0,none⟩)),(10,.int .i64 (n+1:Nat)),(11,.int .i64 k.1)],H,RowsA (some ⟨b3,0,none⟩) 1 [[.func (.func g) #[] cap.toArray]]::RowsA (some ⟨b2,0,none⟩) 1 [[.int .i64 (n:Int)]]::R⟩) (fun k=>n+1-k.1) ⟨0,by omega,fun j h2=>by omega⟩ ?_ (fun k=>?_)
 exact Ze idH
 obtain ⟨k,hk,hno⟩:=k
 dsimp only at hk hno ⊢
 refine sqt 1 rfl (pur 1 rfl (Z0 ?_))
 refine Z1 rfl ?_ ?_<;>intro hc0<;>try simp only [cS] at hc0
 have hk1:k≤n:=by omega
 refine Z2 (Z0 (Z3 (sqt 3 rfl (pur 1 rfl (alc rfl zl3 rfl (fun b6=>?_))))))
 refine sto rfl rfl rfl cn3 rfl rfl rfl rfl ?_
 refine sqt 1 rfl (alc rfl Zc2 rfl (fun b7=>sqt 1 rfl (alc rfl ZkF rfl (fun b8=>sqt 2 rfl (sp rfl (PE.makeFunc rfl rfl) rfl ?_)))))
 refine sto rfl rfl rfl Zkz rfl rfl rfl rfl ?_
 refine sqt 2 rfl ?_
 refine Sy.heap (fun w h9=>St.rows (sz:=1) (rows:=[[(.func (.func 210) #[] #[.pointer (some ⟨b6,0,none⟩),.pointer (some ⟨b7,0,none⟩),.pointer (some ⟨b3,0,none⟩),.pointer (some ⟨b2,0,none⟩),.pointer (some ⟨b8,0,none⟩)])]]) (rest:=[]) (h9.pull b8) (by simp)) ?_
 refine Sy.heap (fun w h9=>St.rows (sz:=1) (rows:=[[.int .i64 (k:Int)]]) (rest:=[]) (h9.pull b6) (by simp)) ?_
 refine ZH b7 ?_
 refine Sy.heap (fun w h=>St.norows (sz:=1) h) ?_
 refine spL rfl rfl (lfB (sz:=1) Zei rfl) rfl ?_
 refine clF rfl rfl (Zaq) rfl rfl ((Zaf g cap has n R0 hp hn k b6 b7 b3 b2 b8 hk1 k) [] none 0 0 (.slice none 0 0) _ _ (hL:=(inferInstance:MemRows none 1 [] _)) (by simp) (by simp) (fun x hx=>by cases hx)) ?_
 rintro v H2 R2 hQ
 obtain ⟨bv,rfl⟩:=hQ.bool
 rcases hsr:ZZ (fun l=>!has l) n k [] 0 with _ | d
 refine Z1 rfl ?_ ?_<;>intro hc1
 rw [hsr] at hQ
 obtain ⟨hv,_⟩:=hQ
 cases hv
 exact absurd hc1 (by simp)
 rw [hsr] at hQ
 obtain ⟨hv,ov2,rfl,rfl⟩:=hQ
 cases hv
 refine Z2 (sqr 2 rfl (sp rfl (PE.add rfl rfl (by omega)) rfl (pur 1 rfl ?_)))
 exact Z7 ⟨k+1,by omega,fun j h2=>(Nat.lt_or_eq_of_le (Nat.le_of_lt_succ h2)).elim (hno j) (fun h=>by subst h;exact hsr)⟩ drp
 refine Z1 rfl ?_ ?_<;>intro hc1
 rw [hsr] at hQ
 obtain ⟨hv,a9,c99,hc99,rfl,rfl⟩:=hQ
 cases hv
 have hsh:=Zdk hno hk1 hsr
 refine sqt 3 rfl (spL rfl rfl (lh Z0x rfl rfl) rfl (pur 2 rfl (Z5 ?_)))
 first
   | exact rtB rfl rfl rfl rfl ⟨rfl,.inr ⟨d,a9,c99,hsh,hc99,rfl,rfl⟩⟩ drp
   | exact rtB rfl rfl rfl rfl ⟨rfl,.inl ⟨Z8J fun j h=>hno j (by omega),rfl,rfl⟩⟩ drp
 rw [hsr] at hQ
 obtain ⟨hv,_⟩:=hQ
 cases hv
 exact absurd hc1 (by simp)
 obtain rfl:k=n+1:=by omega
 refine Z9 (Za (Za (Zh (sqt 2 rfl (pur 2 rfl (Z5 ?_))))))
 first
   | exact rtB rfl rfl rfl rfl ⟨rfl,.inr ⟨d,a9,c99,hsh,hc99,rfl,rfl⟩⟩ drp
   | exact rtB rfl rfl rfl rfl ⟨rfl,.inl ⟨Z8J fun j h=>hno j (by omega),rfl,rfl⟩⟩ drp
theorem ZeU (h:Hse) (ag as_:Option Addr) (cg cs:Nat) (hok:h.ok) (hlg:h.gaps.length≤9223372036854775807) (hls:h.sights.length≤9223372036854775807) (bd bx b1:Nat) (l:List Int) (a:Option Addr) (c:Nat) (hl:l.length≤9223372036854775807) (hx:∀ x∈l,0≤x∧x<7) (H:Z8) (R:Z4) [hG:MemRows ag 2 (grows h.gaps) R] [hS:MemRows as_ 3 (srows h.sights) R] [mD:MemRows (some ⟨bd,0,none⟩) 4 [(dkA h ag as_ cg cs bd).row] R] [mB:MemRows (some ⟨b1,0,none⟩) 3 [htl h (h.sg ag cg) (h.ss as_ cs)] R] [mX:MemRows (some ⟨bx,0,none⟩) 1 [[.pointer (some ⟨bd,0,none⟩)]] R] [hR:MemRows a 1 (Z6 l) R] :
    FnV Tryz.prog 134 [.slice a l.length c,.pointer (some ⟨bx,0,none⟩),.pointer (some ⟨b1,0,none⟩)] H R (.bool (Z6n h.gaps (msk l) h.sights)):=by
 refine Zc Tryz.func134 rfl Tryz.ntmps134 rfl ?_
 refine sqt 1 rfl (pur 1 rfl (sqt 6 rfl (spL rfl rfl (lfB (sz:=1) Z4x rfl) rfl (pur 1 rfl (sp rfl (PE.fA Z2N rfl) rfl (spL rfl rfl (lfB (sz:=3) Zc8 rfl) rfl ?_))))))
 refine clV rfl Zak rfl rfl (Z38 (dkA h ag as_ cg cs bd) (Z1m h ag as_ cg cs hok bd) rfl l a c hl hx h.sights as_ cs hls hok.sights _ _) ?_
 refine pur 1 rfl (Z5 ?_)
 exact rtA rfl rfl rfl ⟨rfl,rfl,rfl⟩ drp
set_option maxHeartbeats 400000 in
theorem Z9K (h:Hse) (ag as_:Option Addr) (cg cs:Nat) (hlg:h.gaps.length≤9223372036854775807) (hls:h.sights.length≤9223372036854775807) (H:Z8) (R:Z4) [hG:MemRows ag 2 (grows h.gaps) R] [hS:MemRows as_ 3 (srows h.sights) R] :
    Fn Tryz.prog 70 [h.v (h.sg ag cg) (h.ss as_ cs)] H R (fun v H' R'=>∃ a c',(h.orgR).1.length≤c'∧v = .tuple #[.slice a (h.orgR).1.length c',.int .i64 (h.orgR).2]∧H'=H∧R'=RowsA a 1 (Z6 (h.orgR).1)::R):=by
 refine Zc Tryz.func70 rfl Tryz.ntmps70 rfl ?_
 refine sqt 3 rfl (bx rfl rfl rfl (fun b1=>pur 2 rfl (sqt 8 rfl (spL rfl rfl (lhA (htl h (h.sg ag cg) (h.ss as_ cs)) Z2m rfl rfl rfl) rfl ?_))))
 refine cl rfl ZdL rfl rfl (Z3P h ag as_ cg cs hlg hls _ _) ?_
 rintro _ _ _ ⟨rfl,ho⟩
 rcases ho with ⟨hck,rfl,rfl⟩ | ⟨hck,hag,rfl,rfl⟩ | ⟨hck,hag,bd,rfl,rfl⟩
 refine pur 3 rfl (alc rfl Zdv rfl (fun b4=>?_))
 refine sto rfl rfl rfl ZcG rfl rfl rfl rfl ?_
 refine pur 1 rfl (Z0 (sqt 2 rfl (pur 2 rfl ?_)))
 refine Z1 rfl ?_ ?_<;>intro hc0
 have e:h.orgR=([],h.check):=by unfold Hse.orgR;rw [dT hck];rfl
 refine sqt 3 rfl (pur 3 rfl (Z5 ?_))
 rw [show h.check=(h.orgR).2 from by rw [e]]
 exact rtB rfl rfl rfl rfl ⟨none,0,by rw [e]<;>exact Nat.le_refl _,by rw [e]<;>rfl,rfl,by rw [e]<;>rfl⟩ (fun w h9=>St.norows ((h9.del b4).del b1))
 exact absurd hc0 (by simp [hck])
 refine pur 3 rfl (alc rfl Zdv rfl (fun b4=>?_))
 refine sto rfl rfl rfl ZcG rfl rfl rfl rfl ?_
 refine pur 1 rfl (Z0 (sqt 2 rfl (pur 2 rfl ?_)))
 refine Z1 rfl ?_ ?_<;>intro hc0
 have e:h.orgR=([],7):=by unfold Hse.orgR;rw [dF (by simp [hck]),hag];rfl
 refine sqt 3 rfl (pur 3 rfl (Z5 ?_))
 exact rtB rfl rfl rfl rfl ⟨none,0,by rw [e]<;>exact Nat.le_refl _,by rw [e]<;>rfl,rfl,by rw [e]<;>rfl⟩ (fun w h9=>St.norows ((h9.del b4).del b1))
 exact absurd hc0 (by simp)
 refine pur 3 rfl (alc rfl Zdv rfl (fun b4=>?_))
 refine sto rfl rfl rfl ZcG rfl rfl rfl rfl ?_
 refine pur 1 rfl (Z0 (sqt 2 rfl (pur 2 rfl ?_)))
 refine Z1 rfl ?_ ?_<;>intro hc0
 exact absurd hc0 (by simp)
 have hok:=hse_ok.1 hck
 have hbn:=hok.bins
 have e:h.orgR=((Z3C (fun l=>Z6n h.gaps (msk l) h.sights) h.bins.toNat).getD [],0):=by unfold Hse.orgR;rw [dF (by simp [hck]),hag];rfl
 refine Sy.heap (fun w h9=>St.rows (sz:=1) (rows:=[[.pointer (some ⟨bd,0,none⟩)]]) (rest:=[]) (h9.pull b4) (by simp)) ?_
 refine Z2 (sqt 9 rfl (sp rfl (PE.fA Z2r rfl) rfl (spL rfl rfl (lh sc3 rfl rfl) rfl ?_)))
 refine Sy.heap (fun w h9=>St.rows (sz:=3) (rows:=[htl h (h.sg ag cg) (h.ss as_ cs)]) (rest:=[]) (h9.pull b1) (by simp [htl])) ?_
 have hask:Zg6 134 [.pointer (some ⟨b4,0,none⟩),.pointer (some ⟨b1,0,none⟩)] (fun l=>Z6n h.gaps (msk l) h.sights) h.bins.toNat [RowsA (some ⟨bd,0,none⟩) 4 [(dkA h ag as_ cg cs bd).row],RowsA (some ⟨b1,0,none⟩) 3 [htl h (h.sg ag cg) (h.ss as_ cs)],RowsA (some ⟨b4,0,none⟩) 1 [[.pointer (some ⟨bd,0,none⟩)]],RowsA ag 2 (grows h.gaps),RowsA as_ 3 (srows h.sights)]:=⟨ZgK,fun l a c H R hf hr hx hl=>by
   haveI:MemRows (some ⟨bd,0,none⟩) 4 [(dkA h ag as_ cg cs bd).row] R:=⟨hf _ (by simp)⟩
   haveI:MemRows (some ⟨b1,0,none⟩) 3 [htl h (h.sg ag cg) (h.ss as_ cs)] R:=⟨hf _ (by simp)⟩
   haveI:MemRows (some ⟨b4,0,none⟩) 1 [[.pointer (some ⟨bd,0,none⟩)]] R:=⟨hf _ (by simp)⟩
   haveI:MemRows ag 2 (grows h.gaps) R:=⟨hf _ (by simp)⟩
   haveI:MemRows as_ 3 (srows h.sights) R:=⟨hf _ (by simp)⟩
   haveI:MemRows a 1 (Z6 l) R:=⟨hr⟩
   exact ZeU h ag as_ cg cs hok hlg hls bd b4 b1 l a c (by omega) (fun x h9=>by have:=hx x h9;omega) _ _⟩
 rw [show h.bins=((h.bins.toNat:Nat):Int) from by omega]
 refine sp rfl (PE.makeFunc rfl rfl) rfl ?_
 refine cl rfl ZdM rfl rfl (Z52 134 [.pointer (some ⟨b4,0,none⟩),.pointer (some ⟨b1,0,none⟩)] (fun l=>Z6n h.gaps (msk l) h.sights) h.bins.toNat [RowsA (some ⟨bd,0,none⟩) 4 [(dkA h ag as_ cg cs bd).row],RowsA (some ⟨b1,0,none⟩) 3 [htl h (h.sg ag cg) (h.ss as_ cs)],RowsA (some ⟨b4,0,none⟩) 1 [[.pointer (some ⟨bd,0,none⟩)]],RowsA ag 2 (grows h.gaps),RowsA as_ 3 (srows h.sights)] hask (by omega) _ _) ?_
 rintro _ _ _ ⟨rfl,ho⟩
 rcases ho with ⟨hs,rfl,rfl⟩ | ⟨x,a,c,hs,hxc,rfl,rfl⟩
 refine pur 5 rfl (sqt 3 rfl (pur 3 rfl (Z5 ?_)))
 have e2:h.orgR=([],0):=by rw [e,hs];rfl
 exact rtB rfl rfl rfl rfl ⟨none,0,by rw [e2]<;>exact Nat.le_refl _,by rw [e2]<;>rfl,rfl,show RowsA none 1 []::_=RowsA none 1 (Z6 (h.orgR).1)::_ from by rw [e2]<;>rfl⟩ (fun w h9=>drp w (St.norows (sz:=1) h9))
 refine pur 5 rfl (sqt 3 rfl (pur 3 rfl (Z5 ?_)))
 have e2:h.orgR=(x,0):=by rw [e,hs];rfl
 exact rtB rfl rfl rfl rfl ⟨a,c,by rw [e2];exact hxc,by rw [e2]<;>rfl,rfl,show RowsA a 1 (Z6 x)::_=_ from by rw [e2]<;>rfl⟩ drp
set_option maxHeartbeats 600000 in
theorem Zck (h:Hse) (ag as_:Option Addr) (cg cs:Nat) (hlg:h.gaps.length≤9223372036854775807) (hls:h.sights.length≤9223372036854775807) (week:Int) (H:Z8) (R:Z4) [hG:MemRows ag 2 (grows h.gaps) R] [hS:MemRows as_ 3 (srows h.sights) R] :
    Fn Tryz.prog 71 [h.v (h.sg ag cg) (h.ss as_ cs),.int .i64 week] H R (fun v H' R'=>∃ a c',(h.surR week).1.length≤c'∧v = .tuple #[.slice a (h.surR week).1.length c',.int .i64 (h.surR week).2]∧H'=H∧R'=RowsA a 1 (Z6 (h.surR week).1)::R):=by
 refine Zc Tryz.func71 rfl Tryz.ntmps71 rfl ?_
 refine sqt 3 rfl (bx rfl rfl rfl (fun b2=>pur 2 rfl (Z0 (sqt 3 rfl (spL rfl rfl (lhA (htl h (h.sg ag cg) (h.ss as_ cs)) Z2m rfl rfl rfl) rfl ?_)))))
 refine clV rfl Zau rfl rfl (Z1P h ag as_ cg cs hlg hls _ _) ?_
 refine pur 1 rfl (sqt 2 rfl (pur 2 rfl ?_))
 refine Z1 rfl ?_ ?_<;>intro hc0
 have hck:h.check≠0:=of_decide_eq_true hc0
 have e:=Z7G (ZiD (week:=week) hck) hck
 refine sqt 3 rfl (pur 3 rfl (Z5 ?_))
 rw [show h.check=(h.surR week).2 from by rw [e]]
 exact rtB rfl rfl rfl rfl ⟨none,0,by rw [e]<;>exact Nat.le_refl _,by rw [e]<;>rfl,rfl,by rw [e]<;>rfl⟩ (fun w h9=>St.norows (h9.del b2))
 have hck:h.check=0:=Classical.byContradiction fun e=>by rw [decide_eq_true e] at hc0;cases hc0
 have hok:=hse_ok.1 hck
 have hbn:=hok.bins
 refine Z2 (Z0 (sqt 3 rfl (pur 1 rfl ?_)))
 refine clV rfl Z53 rfl rfl (ZdD _ _ _ _ _) ?_
 refine pur 1 rfl ?_
 refine Z1 rfl ?_ ?_<;>intro hc1
 have e:=Z7G (ZiE hck hc1) (by decide)
 refine sqt 2 rfl (pur 2 rfl (Z5 ?_))
 exact rtB rfl rfl rfl rfl ⟨none,0,by rw [e]<;>exact Nat.le_refl _,by rw [e]<;>rfl,rfl,by rw [e]<;>rfl⟩ (fun w h9=>St.norows (h9.del b2))
 have hwk:0≤week∧week≤9:=by simpa [inB] using hc1
 refine Z2 (sqt 7 rfl (spL rfl rfl (lhA (htl h (h.sg ag cg) (h.ss as_ cs)) Z2m rfl rfl rfl) rfl ?_))
 refine cl rfl ZdL rfl rfl (Z3P h ag as_ cg cs hlg hls _ _) ?_
 rintro _ _ _ ⟨rfl,ho⟩
 rcases ho with ⟨hck9,rfl,rfl⟩ | ⟨hck9,hag,rfl,rfl⟩ | ⟨hck9,hag,bd,rfl,rfl⟩
 · exact absurd hck hck9
 refine pur 5 rfl (Z0 (sqt 2 rfl (pur 2 rfl ?_)))
 refine Z1 rfl ?_ ?_<;>intro hc2
 have e:=Z7G (ZiC hck hc1 hag) (by decide)
 refine sqt 3 rfl (pur 3 rfl (Z5 ?_))
 exact rtB rfl rfl rfl rfl ⟨none,0,by rw [e]<;>exact Nat.le_refl _,by rw [e]<;>rfl,rfl,by rw [e]<;>rfl⟩ (fun w h9=>St.norows (h9.del b2))
 exact absurd hc2 (by simp)
 refine pur 5 rfl (Z0 (sqt 2 rfl (pur 2 rfl ?_)))
 refine Z1 rfl ?_ ?_<;>intro hc2
 exact absurd hc2 (by simp)
 have e:=ZfQ (ZiF hck hc1 hag)
 refine Z2 (sqt 1 rfl (pur 1 rfl (Z0 (sqt 3 rfl (sp rfl (PE.fA Z2r rfl) rfl (spL rfl rfl (lh sc3 rfl rfl) rfl (pur 1 rfl (Z3 ?_))))))))
 refine Zb (ι:=(k:{k:Nat // k≤h.bins.toNat})×OSl 3 1 (Z6 (Z6X (h.surB week) k.1))) (fun y=>⟨[(1,.int .i64 week),(2,.pointer (some ⟨b2,0,none⟩)),(7,.pointer (some ⟨bd,0,none⟩)),(9,y.2.fs),(28,.int .i64 h.bins),(29,.int .i64 y.1.1)],y.2.G++(b2,cel 95 (htl h (h.sg ag cg) (h.ss as_ cs)))::H,RowsA (some ⟨bd,0,none⟩) 4 [(dkA h ag as_ cg cs bd).row]::R⟩) (fun y=>h.bins.toNat-y.1.1) ⟨⟨0,Nat.zero_le _⟩,OSl.nil _ _⟩ ?_ (fun y=>?_)
 exact Ze idH
 obtain ⟨⟨k,hk⟩,o⟩:=y
 dsimp only at hk o ⊢
 have hcn:=Z8a (h.surB week) k
 refine sqt 1 rfl (pur 1 rfl (Z0 ?_))
 refine Z1 rfl ?_ ?_<;>intro hc3<;>try simp only [cS] at hc3
 have hk7:k<7:=by omega
 refine Z2 (Z0 (Z3 (sqt 2 rfl (pur 2 rfl (Z0 ?_)))))
 refine Zd [0,0,0,4,0,0,62,0,128,511,1023] (tks 0 3 (.ld 3 (.tk 4 (.tk 5 (.tk 7 (.ld 8 (.big 6 (.big 9 (.tk 10 .done))))))))) Zt (by kernel_rfl) ?_
 refine Zm 2 rfl (tk rfl (PE.fA Z2N rfl) rfl (ld rfl rfl (lh Zc8 rfl rfl) rfl (Zm 2 rfl (tk rfl (PE.fA Z2N rfl) rfl (ld rfl rfl (lh Zc8 rfl rfl) rfl ?_)))))
 refine cl rfl ZdN rfl rfl (Z9P (dkA h ag as_ cg cs bd) (Z1m h ag as_ cg cs hok bd) rfl h.sights as_ cs hls hok.sights k week ⟨by omega,by omega⟩ _ _) ?_
 rintro _ _ _ ⟨ac,cc,rfl,rfl,rfl⟩
 refine bg (fun w hs=>⟨(lh Zc8 rfl rfl) w hs,trivial,trivial⟩) ?_
 refine clV rfl Zak rfl rfl (Z38 (dkA h ag as_ cg cs bd) (Z1m h ag as_ cg cs hok bd) rfl (h.clr h.sights k week) ac cc (by have:=ZaD h h.sights k week;omega) (fun x hx=>by have:=Z83 x hx;omega) h.sights as_ cs hls hok.sights _ _) ?_
 refine bgT (Zm 1 rfl ?_)
 refine Z1 rfl ?_ ?_<;>intro hc4
 have hb2:=ZaL (p:=h.surB week) (k:=k) hc4
 refine sqr 5 rfl (pur 2 rfl ?_)
 refine bsl (out:=[_]) rfl Z0F zl3 rfl rfl rfl rfl rfl rfl (fun b45=>?_)
 refine apO (o) rfl Z37 rfl rfl (ZU (row:=[.int .i64 k]) rfl) rfl rfl ((by rw [Z0I];simp only [List.length_singleton];omega)) rfl (fun o46=>?_)
 refine pur 1 rfl (sqr 2 rfl (sp rfl (PE.add rfl rfl (by omega)) rfl (pur 1 rfl ?_)))
 exact Z7 ⟨⟨k+1,by omega⟩,o46.cast (by rw [hb2];simp [Z6])⟩ (fun w h9=>(h9.del b45).ftail)
 have hb2:=Z5x (p:=h.surB week) (k:=k) hc4
 refine Z2 (sqr 2 rfl (sp rfl (PE.add rfl rfl (by omega)) rfl (pur 1 rfl ?_)))
 exact Z7 ⟨⟨k+1,by omega⟩,o.cast (by rw [hb2])⟩ (fun w h9=>h9.ftail)
 obtain rfl:k=h.bins.toNat:=by omega
 obtain ⟨ac,cc,he,hcc9,hf⟩:=o.freezeC
 rw [Z0I] at hcc9
 rw [he,Z0I]
 refine Sy.heap (fun w h9=>hf h9) ?_
 refine Z9 (Za (Za (Zh (sqt 3 rfl (pur 3 rfl (Z5 ?_))))))
 exact rtB rfl rfl rfl rfl ⟨ac,cc,by rw [e];exact hcc9,by rw [e]<;>rfl,rfl,show RowsA ac 1 (Z6 (Z6X (h.surB week) h.bins.toNat))::_=_ from by rw [e]<;>rfl⟩ drp
set_option maxHeartbeats 400000 in
theorem Zcn (h:Hse) (ag as_:Option Addr) (cg cs:Nat) (hok:h.ok) (hlg:h.gaps.length≤9223372036854775807) (hls:h.sights.length≤9223372036854775807) (bd bx b1:Nat) (l:List Int) (a:Option Addr) (c:Nat) (hl:l.length≤1000) (hx:∀ x∈l,0≤x∧x<h.sights.length) (H:Z8) (R:Z4) [hG:MemRows ag 2 (grows h.gaps) R] [hS:MemRows as_ 3 (srows h.sights) R] [mD:MemRows (some ⟨bd,0,none⟩) 4 [(dkA h ag as_ cg cs bd).row] R] [mB:MemRows (some ⟨b1,0,none⟩) 3 [htl h (h.sg ag cg) (h.ss as_ cs)] R] [mX:MemRows (some ⟨bx,0,none⟩) 1 [[.pointer (some ⟨bd,0,none⟩)]] R] [hR:MemRows a 1 (Z6 l) R] :
    FnV Tryz.prog 137 [.slice a l.length c,.pointer (some ⟨b1,0,none⟩),.pointer (some ⟨bx,0,none⟩)] H R (.bool (!h.agr (Z1s h.sights l))):=by
 refine Zc Tryz.func137 rfl Tryz.ntmps137 rfl ?_
 refine sqt 1 rfl (pur 1 rfl (sqt 1 rfl (pur 1 rfl (Z0 (sqt 3 rfl (pur 1 rfl (sp rfl (PE.lenSl ZT rfl) rfl (pur 1 rfl (Z3 ?_)))))))))
 refine Zb (ι:=(k:{k:Nat // k≤l.length})×OSl 242 3 (srows (Z1s h.sights (l.take k.1)))) (fun y=>⟨[(1,.pointer (some ⟨b1,0,none⟩)),(2,.pointer (some ⟨bx,0,none⟩)),(5,y.2.fs),(8,.slice a l.length c),(9,.int .i64 l.length),(10,.int .i64 y.1.1)],y.2.G++H,R⟩) (fun y=>l.length-y.1.1) ⟨⟨0,Nat.zero_le _⟩,OSl.nil _ _⟩ ?_ (fun y=>?_)
 exact Ze idH
 obtain ⟨⟨k,hk⟩,o⟩:=y
 dsimp only at hk o ⊢
 refine sqt 1 rfl (pur 1 rfl (Z0 ?_))
 refine Z1 rfl ?_ ?_<;>intro hc0<;>try simp only [cS] at hc0
 obtain ⟨x,hxk⟩:∃ x,l[k]?=some x:=⟨_,List.getElem?_eq_getElem (by omega)⟩
 have hxx:=hx x (List.mem_of_getElem? hxk)
 obtain ⟨s,hsk⟩:∃ s,h.sights[x.toNat]?=some s:=⟨_,List.getElem?_eq_getElem (by omega)⟩
 have hpt:=Zbr hxk hsk
 have hpl:=Z8E h.sights (l.take k)
 rw [List.length_take] at hpl
 refine Zi (a:=a) (sz:=1) (rows:=Z6 l) (ne0 (by rw [Z0I];omega)) (fun ba oa he=>?_)
 subst he
 refine Zi (a:=as_) (sz:=3) (rows:=srows h.sights) (ne0 (by rw [ZbI];omega)) (fun bs os he=>?_)
 subst he
 refine Z2 (Z0 (Z3 (sqt 3 rfl (sp rfl (PE.indexAddr Z0G rfl rfl (by omega) (by omega)) rfl (spL rfl rfl (lf0 sc3 (ZQ hxk) rfl) rfl (pur 1 rfl (sqr 9 rfl (pur 1 rfl (sp rfl (PE.fA Z2N rfl) rfl (spL rfl rfl (lfB (sz:=3) Zc8 rfl) rfl (pur 1 rfl (sp rfl (PE.indexAddr Zkk rfl rfl (by omega) (by omega)) rfl (spL rfl rfl (lfA Zet (row:=Z6Y s) (Ziw hsk) rfl) rfl ?_)))))))))))))
 refine bsl (out:=[_,_,_]) rfl Zk4 Zc3 rfl rfl rfl rfl rfl rfl (fun b20=>?_)
 refine apO (o) rfl Zku rfl rfl (ZU (row:=Z6Y s) rfl) rfl rfl ((by rw [ZbI];simp only [List.length_singleton];omega)) rfl (fun o21=>?_)
 refine pur 1 rfl (sqr 2 rfl (sp rfl (PE.add rfl rfl (by omega)) rfl (pur 1 rfl ?_)))
 exact Z7 ⟨⟨k+1,by omega⟩,o21.cast (by rw [hpt];simp [srows])⟩ (fun w h9=>h9.del b20)
 obtain rfl:k=l.length:=by omega
 obtain ⟨ac,cc,he,hf⟩:=(o.cast (by rw [List.take_length])).freeze
 rw [show o.fs=_ from he,ZbI]
 refine Sy.heap (fun w h9=>hf h9) ?_
 clear he hf
 refine Z9 (Za (Za (Zh (sqt 5 rfl (spL rfl rfl (lfB (sz:=1) Z4x rfl) rfl (pur 1 rfl ?_))))))
 refine clV rfl ZdO rfl rfl (Z9N (dkA h ag as_ cg cs bd) (Z1m h ag as_ cg cs hok bd) rfl (Z1s h.sights l) ac cc (by have:=Z8E h.sights l;omega) (ZfD hok.sights l) _ _) ?_
 refine pur 2 rfl (Z5 ?_)
 exact rtA rfl rfl rfl ⟨rfl,rfl,rfl⟩ drp
set_option maxHeartbeats 400000 in
theorem ZeH (h:Hse) (ag as_:Option Addr) (cg cs:Nat) (hlg:h.gaps.length≤9223372036854775807) (hls:h.sights.length≤9223372036854775807) (H:Z8) (R:Z4) [hG:MemRows ag 2 (grows h.gaps) R] [hS:MemRows as_ 3 (srows h.sights) R] :
    Fn Tryz.prog 72 [h.v (h.sg ag cg) (h.ss as_ cs)] H R (fun v H' R'=>∃ a c',(h.claR).1.length≤c'∧v = .tuple #[.slice a (h.claR).1.length c',.int .i64 (h.claR).2]∧H'=H∧R'=RowsA a 1 (Z6 (h.claR).1)::R):=by
 refine Zc Tryz.func72 rfl Tryz.ntmps72 rfl ?_
 refine sqt 3 rfl (bx rfl rfl rfl (fun b1=>pur 2 rfl (Z0 (sqt 3 rfl (spL rfl rfl (lhA (htl h (h.sg ag cg) (h.ss as_ cs)) Z2m rfl rfl rfl) rfl ?_)))))
 refine clV rfl Zau rfl rfl (Z1P h ag as_ cg cs hlg hls _ _) ?_
 refine pur 1 rfl (sqt 2 rfl (pur 2 rfl ?_))
 refine Z1 rfl ?_ ?_<;>intro hc0
 have hck:h.check≠0:=of_decide_eq_true hc0
 have e:h.claR=([],h.check):=by unfold Hse.claR;rw [dT hck];rfl
 refine sqt 3 rfl (pur 3 rfl (Z5 ?_))
 rw [show h.check=(h.claR).2 from by rw [e]]
 exact rtB rfl rfl rfl rfl ⟨none,0,by rw [e]<;>exact Nat.le_refl _,by rw [e]<;>rfl,rfl,by rw [e]<;>rfl⟩ (fun w h9=>St.norows (h9.del b1))
 have hck:h.check=0:=Classical.byContradiction fun e=>by rw [decide_eq_true e] at hc0;cases hc0
 have hok:=hse_ok.1 hck
 have hbn:=hok.bins
 have hsl:=hok.sl
 refine Z2 (sqt 4 rfl (spL rfl rfl (lhA (htl h (h.sg ag cg) (h.ss as_ cs)) Z2m rfl rfl rfl) rfl ?_))
 refine cl rfl Z94 rfl rfl (Z92 h ag as_ cg cs _ _) ?_
 rintro _ _ _ ⟨bd,rfl,rfl,rfl⟩
 refine alc rfl Zdv rfl (fun b5=>?_)
 refine sto rfl rfl rfl ZcG rfl rfl rfl rfl ?_
 refine sqt 10 rfl (sp rfl (PE.fA Z2N rfl) rfl (spL rfl rfl (lh Zc8 rfl rfl) rfl (sp rfl (PE.lenSl ZcV rfl) rfl ?_)))
 refine Sy.heap (fun w h9=>St.rows (sz:=1) (rows:=[[.pointer (some ⟨bd,0,none⟩)]]) (rest:=[]) (h9.pull b5) (by simp)) ?_
 refine Sy.heap (fun w h9=>St.rows (sz:=3) (rows:=[htl h (h.sg ag cg) (h.ss as_ cs)]) (rest:=[]) (h9.pull b1) (by simp [htl])) ?_
 have hask:Zg6 137 [.pointer (some ⟨b1,0,none⟩),.pointer (some ⟨b5,0,none⟩)] (fun l=>!h.agr (Z1s h.sights l)) h.sights.length [RowsA (some ⟨bd,0,none⟩) 4 [(dkA h ag as_ cg cs bd).row],RowsA (some ⟨b1,0,none⟩) 3 [htl h (h.sg ag cg) (h.ss as_ cs)],RowsA (some ⟨b5,0,none⟩) 1 [[.pointer (some ⟨bd,0,none⟩)]],RowsA ag 2 (grows h.gaps),RowsA as_ 3 (srows h.sights)]:=⟨ZgL,fun l a c H R hf hr hx hl=>by
   haveI:MemRows (some ⟨bd,0,none⟩) 4 [(dkA h ag as_ cg cs bd).row] R:=⟨hf _ (by simp)⟩
   haveI:MemRows (some ⟨b1,0,none⟩) 3 [htl h (h.sg ag cg) (h.ss as_ cs)] R:=⟨hf _ (by simp)⟩
   haveI:MemRows (some ⟨b5,0,none⟩) 1 [[.pointer (some ⟨bd,0,none⟩)]] R:=⟨hf _ (by simp)⟩
   haveI:MemRows ag 2 (grows h.gaps) R:=⟨hf _ (by simp)⟩
   haveI:MemRows as_ 3 (srows h.sights) R:=⟨hf _ (by simp)⟩
   haveI:MemRows a 1 (Z6 l) R:=⟨hr⟩
   exact Zcn h ag as_ cg cs hok hlg hls bd b5 b1 l a c (by omega) hx _ _⟩
 refine sp rfl (PE.makeFunc rfl rfl) rfl ?_
 refine cl rfl ZdM rfl rfl (Z52 137 [.pointer (some ⟨b1,0,none⟩),.pointer (some ⟨b5,0,none⟩)] (fun l=>!h.agr (Z1s h.sights l)) h.sights.length [RowsA (some ⟨bd,0,none⟩) 4 [(dkA h ag as_ cg cs bd).row],RowsA (some ⟨b1,0,none⟩) 3 [htl h (h.sg ag cg) (h.ss as_ cs)],RowsA (some ⟨b5,0,none⟩) 1 [[.pointer (some ⟨bd,0,none⟩)]],RowsA ag 2 (grows h.gaps),RowsA as_ 3 (srows h.sights)] hask (by omega) _ _) ?_
 rintro _ _ _ ⟨rfl,ho⟩
 rcases ho with ⟨hs,rfl,rfl⟩ | ⟨x,a,c,hs,hxc,rfl,rfl⟩
 refine pur 5 rfl (Z0 (sqt 2 rfl (pur 2 rfl ?_)))
 refine Z1 rfl ?_ ?_<;>intro hc1
 have e:h.claR=([],6):=by unfold Hse.claR Hse.claS;rw [dF (by simp [hck]),hs];rfl
 refine sqt 2 rfl (pur 2 rfl (Z5 ?_))
 exact rtB rfl rfl rfl rfl ⟨none,0,by rw [e]<;>exact Nat.le_refl _,by rw [e]<;>rfl,rfl,show RowsA none 1 []::_=RowsA none 1 (Z6 (h.claR).1)::_ from by rw [e]<;>rfl⟩ (fun w h9=>drp w (St.norows (sz:=1) h9))
 exact absurd hc1 (by simp)
 refine pur 5 rfl (Z0 (sqt 2 rfl (pur 2 rfl ?_)))
 refine Z1 rfl ?_ ?_<;>intro hc1
 exact absurd hc1 (by simp)
 have e:h.claR=(x,0):=by unfold Hse.claR Hse.claS;rw [dF (by simp [hck]),hs];rfl
 refine Z2 (sqt 3 rfl (pur 3 rfl (Z5 ?_)))
 exact rtB rfl rfl rfl rfl ⟨a,c,by rw [e];exact hxc,by rw [e]<;>rfl,rfl,show RowsA a 1 (Z6 x)::_=_ from by rw [e]<;>rfl⟩ drp
theorem Z91:arN Tryz.prog 267=some (10,1):=by kernel_rfl
theorem ZgR:cal Tryz.prog 149=true:=by kernel_rfl
theorem ZeZ:cal Tryz.prog 62=true:=by kernel_rfl
theorem ZiM:elN Tryz.prog 44=some 1:=by kernel_rfl
theorem Zb5:Z3G Tryz.prog 44=true:=by kernel_rfl
theorem ZiQ:slE Tryz.prog 44=some (23,1):=by kernel_rfl
def Hse.botE (h:Hse) (l k:List Int):Int:=bif decide (h.check≠0) then h.check else bif decide (Z0y h.bins l≠0) then Z0y h.bins l else bif decide (Z0y h.bins k≠0) then Z0y h.bins k else bif l.any (Z5A k) then 7 else 0
structure Hse.Bot (h:Hse) (l k:List Int):Prop where
 ok:h.ok
 ck:h.check=0
 el:Z0y h.bins l=0
 ek:Z0y h.bins k=0
 no:∀ x∈l,x∉k
theorem Z4Z {h:Hse} {l k:List Int} (he:h.botE l k=0):h.Bot l k:=by
 unfold Hse.botE at he
 by_cases h1:h.check=0
 · rw [decide_eq_false (by simpa using h1),cond_false] at he
   by_cases h2:Z0y h.bins l=0
   · rw [decide_eq_false (by simpa using h2),cond_false] at he
     by_cases h3:Z0y h.bins k=0
     · rw [decide_eq_false (by simpa using h3),cond_false] at he
       cases h4:l.any (Z5A k) with
       | true=>rw [h4] at he;cases he
       | false=>exact ⟨hse_ok.1 h1,h1,h2,h3,fun x hx hk=>List.any_eq_false.1 h4 x hx (hasI_iff.2 hk)⟩
     · rw [decide_eq_true h3,cond_true] at he;exact absurd he h3
   · rw [decide_eq_true h2,cond_true] at he;exact absurd he h2
 · rw [decide_eq_true h1,cond_true] at he;exact absurd he h1
def frB (gs:List Gp) (fl:List Int) (q:Nat) (u:Int):Bool:=match gs[q]? with | some g=>bif decide (g.a=u) then decide (na fl q<1) else decide (-1<na fl q) | none=>false
theorem Z56 {gs:List Gp} {fl:List Int} {q:Nat} {u:Int} {g:Gp} (h:gs[q]?=some g):frB gs fl q u=bif decide (g.a=u) then decide (na fl q<1) else decide (-1<na fl q):=by unfold frB;rw [h]
theorem ZeM (k:List Int) (ak:Option Addr) (ck bk:Nat) (hk:k.length≤9223372036854775807) (x:Int) (H:Z8) (R:Z4) [hK:MemRows ak 1 (Z6 k) R] [hM:Mem1 bk (cel 23 [.slice ak k.length ck]) H] :
    FnV Tryz.prog 149 [.int .i64 x,.pointer (some ⟨bk,0,none⟩)] H R (.bool (Z5A k x)):=by
 refine Zc Tryz.func149 rfl Tryz.ntmps149 rfl ?_
 refine sqt 1 rfl (pur 1 rfl (sqt 4 rfl (spL rfl rfl (lh Z0x rfl rfl) rfl (pur 1 rfl ?_))))
 refine clV rfl Zai rfl rfl (Z0g k ak ck x hk _ _) ?_
 refine pur 1 rfl (Z5 ?_)
 exact rtA rfl rfl rfl ⟨rfl,rfl,rfl⟩ drp
set_option maxHeartbeats 400000 in
theorem Z7U (h:Hse) (ag as_:Option Addr) (cg cs:Nat) (hlg:h.gaps.length≤9223372036854775807) (hls:h.sights.length≤9223372036854775807) (l k:List Int) (al ak:Option Addr) (cl ck:Nat) (hl:l.length≤9223372036854775807) (hkl:k.length≤9223372036854775807) (hlc:l.length≤cl) (hkc:k.length≤ck) (H:Z8) (R:Z4) [hG:MemRows ag 2 (grows h.gaps) R] [hS:MemRows as_ 3 (srows h.sights) R] [hL:MemRows al 1 (Z6 l) R] [hK:MemRows ak 1 (Z6 k) R] :
    FnV Tryz.prog 78 [h.v (h.sg ag cg) (h.ss as_ cs),.slice al l.length cl,.slice ak k.length ck] H R (.int .i64 (h.botE l k)):=by
 refine Zc Tryz.func78 rfl Tryz.ntmps78 rfl ?_
 refine sqt 3 rfl (bx rfl rfl rfl (fun b3=>bx rfl rfl rfl (fun b5=>pur 1 rfl (Z0 (sqt 3 rfl (spL rfl rfl (lhA (htl h (h.sg ag cg) (h.ss as_ cs)) Z2m rfl rfl rfl) rfl ?_))))))
 refine clV rfl Zau rfl rfl (Z1P h ag as_ cg cs hlg hls _ _) ?_
 refine pur 1 rfl (sqt 2 rfl (pur 2 rfl ?_))
 refine Z1 rfl ?_ ?_<;>intro hc0
 have hck:h.check≠0:=of_decide_eq_true hc0
 refine sqt 2 rfl (pur 2 rfl (Z5 ?_))
 exact rtA rfl rfl rfl ⟨by simp only [ZP];unfold Hse.botE;rw [dT hck];rfl,rfl,rfl⟩ drp
 have hck:h.check=0:=Classical.byContradiction fun e=>by rw [decide_eq_true e] at hc0;cases hc0
 have hok:=hse_ok.1 hck
 refine Z2 (Z0 (sqt 5 rfl (pur 1 rfl (spL rfl rfl (lh Z0x rfl rfl) rfl ?_))))
 refine bsl (out:=[_,_]) rfl ZiQ Zc2 rfl rfl rfl rfl rfl rfl (fun b18=>?_)
 refine Sy.heap (fun w h9=>St.rows (sz:=1) (rows:=[[.slice al l.length cl],[.slice ak k.length ck]]) (rest:=[]) (h9.pull b18) (by simp)) ?_
 refine sp rfl (PE.lenSl Zb5 rfl) rfl (pur 1 rfl (Z3 ?_))
 refine Zb (ι:={q:Nat // q≤2∧(0<q→Z0y h.bins l=0)∧(1<q→Z0y h.bins k=0)}) (fun q=>⟨[(1,.slice al l.length cl),(3,.pointer (some ⟨b3,0,none⟩)),(5,.pointer (some ⟨b5,0,none⟩)),(18,.slice (some ⟨b18,0,none⟩) 2 2),(19,.int .i64 2),(20,.int .i64 q.1)],(b5,cel 23 [.slice ak k.length ck])::(b3,cel 95 (htl h (h.sg ag cg) (h.ss as_ cs)))::H,RowsA (some ⟨b18,0,none⟩) 1 [[.slice al l.length cl],[.slice ak k.length ck]]::R⟩) (fun q=>2-q.1) ⟨0,by omega,by omega,by omega⟩ ?_ (fun q=>?_)
 exact Ze idH
 obtain ⟨q,hq,hq0,hq1⟩:=q
 dsimp only at hq hq0 hq1 ⊢
 refine sqt 1 rfl (pur 1 rfl (Z0 ?_))
 refine Z1 rfl ?_ ?_<;>intro hc1<;>try simp only [cS] at hc1
 obtain ⟨x,ax,cx,hrow,hX,hxl,hqx⟩:∃ (x:List Int) (ax:Option Addr) (cx:Nat),([[.slice al l.length cl],[.slice ak k.length ck]]:List (List Value))[q]?=some [.slice ax x.length cx]∧RowsA ax 1 (Z6 x)∈R∧(x.length≤9223372036854775807∧x.length≤cx)∧((q=0∧x=l)∨(q=1∧x=k)):=by
   rcases (show q=0∨q=1 by omega) with rfl | rfl
   · exact ⟨l,al,cl,rfl,hL.mem,⟨hl,hlc⟩,.inl ⟨rfl,rfl⟩⟩
   · exact ⟨k,ak,ck,rfl,hK.mem,⟨hkl,hkc⟩,.inr ⟨rfl,rfl⟩⟩
 haveI:MemRows ax 1 (Z6 x) R:=⟨hX⟩
 refine Z2 (Z0 (Z3 (sqt 3 rfl (sp rfl (PE.indexAddr ZiM rfl rfl (by omega) (by omega)) rfl (spL rfl rfl (lf0 Z0x hrow rfl) rfl (pur 1 rfl (sqt 5 rfl (pur 1 rfl (spL rfl rfl (lhA (htl h (h.sg ag cg) (h.ss as_ cs)) Z2m rfl rfl rfl) rfl (sp rfl (PE.makeFunc rfl rfl) rfl ?_))))))))))
 refine clV rfl ZeZ rfl rfl (Z5m x ax cx 63 [h.v (h.sg ag cg) (h.ss as_ cs)] [] (fun z=>inB z 0 (h.bins-1)) Zav hxl.1 hxl.2 _ _ (fun _ z _=>Z5l h hok.bins (h.sg ag cg) (h.ss as_ cs) z _ _)) ?_
 refine pur 1 rfl (sqt 2 rfl (pur 2 rfl ?_))
 refine Z1 rfl ?_ ?_<;>intro hc2
 have hle:Z0y h.bins x≠0:=of_decide_eq_true hc2
 refine sqt 2 rfl (pur 2 rfl (Z5 ?_))
 exact rtA rfl rfl rfl ⟨by
   simp only [ZP]
   unfold Hse.botE
   rw [dF (by simpa using hck),cond_false]
   rcases hqx with ⟨rfl,rfl⟩ | ⟨rfl,rfl⟩
   · rw [dT hle];rfl
   · rw [dF (by simpa using hq0 (by omega)),dT hle];rfl,rfl,rfl⟩ drp
 have hle:Z0y h.bins x=0:=Classical.byContradiction fun e=>by rw [show decide (Zea (fun z=>inB z 0 (h.bins-1)) x≠0)=true from decide_eq_true e] at hc2;cases hc2
 refine Z2 (sqr 2 rfl (sp rfl (PE.add rfl rfl (by omega)) rfl (pur 1 rfl ?_)))
 exact Z7 ⟨q+1,by omega,fun _=>by rcases hqx with ⟨rfl,rfl⟩ | ⟨rfl,rfl⟩;exact hle;exact hq0 (by omega),fun _=>by rcases hqx with ⟨rfl,rfl⟩ | ⟨rfl,rfl⟩;omega;exact hle⟩ drp
 obtain rfl:q=2:=by omega
 have hel:=hq0 (by omega)
 have hek:=hq1 (by omega)
 have e7:h.botE l k=bif l.any (Z5A k) then 7 else 0:=by unfold Hse.botE;rw [dF (by simpa using hck),dF (by simpa using hel),dF (by simpa using hek)];rfl
 refine Z9 (Za (Za (Zh (Z0 (sqt 3 rfl (pur 1 rfl (sp rfl (PE.makeFunc rfl rfl) rfl ?_)))))))
 refine clV rfl Zal rfl rfl (Z46 l al cl 149 [] [_] (Z5A k) ZgR hl _ _ (fun x _=>ZeM k ak ck b5 hkl x _ _)) ?_
 refine Z1 rfl ?_ ?_<;>intro hc3
 refine sqt 1 rfl (pur 1 rfl (Z5 ?_))
 exact rtA rfl rfl rfl ⟨by simp only [ZP];rw [e7,hc3];rfl,rfl,rfl⟩ drp
 refine Z2 (sqt 1 rfl (pur 1 rfl (Z5 ?_)))
 exact rtA rfl rfl rfl ⟨by simp only [ZP];rw [e7,hc3];rfl,rfl,rfl⟩ drp
set_option maxHeartbeats 400000 in
theorem Zgo (d:Dk) (hd:d.Ok) (fl:List Int) (hfl:fl.length=10) (q:Nat) (g:Gp) (hg:d.h.gaps[q]?=some g) (u:Int) (H:Z8) (R:Z4) [hD:MemRows (some ⟨d.bd,0,none⟩) 4 [d.row] R] [hG:MemRows d.ag 2 (grows d.h.gaps) R] [hS:MemRows d.as_ 3 (srows d.h.sights) R] [sR:SubF d.R0 R] :
    FnV Tryz.prog 265 [.pointer (some ⟨d.bd,0,none⟩),.agg (Zp fl).toArray,.int .i64 q,.int .i64 u] H R (.bool (frB d.h.gaps fl q u)):=by
 refine Zc Tryz.func265 rfl Tryz.ntmps265 rfl ?_
 refine sqt 2 rfl (bx rfl rfl rfl (fun b5=>pur 1 rfl (Z0 (sqt 11 rfl ?_))))
 have hgl:=(List.getElem?_eq_some_iff.1 hg).1
 have hg10:=hd.ok.gl
 refine Zi (a:=d.ag) (sz:=2) (rows:=grows d.h.gaps) (ne0 (by rw [Z4k];omega)) (fun bg og he=>?_)
 haveI:MemRows (some ⟨bg,og,none⟩) 2 (grows d.h.gaps) R:=⟨he▸hG.mem⟩
 refine pur 1 rfl (sp rfl (PE.nilCheck rfl) rfl (sp rfl (PE.fA Z1h rfl) rfl (sp rfl (PE.fA Z10 rfl) rfl (spL rfl rfl (lfB (sz:=4) (x:=.slice (some ⟨bg,og,none⟩) d.h.gaps.length d.cg) Z7B (by show some (d.h.sg d.ag d.cg)=_;unfold Hse.sg;rw [he])) rfl (pur 1 rfl (sp rfl (PE.indexAddr ZcN rfl rfl (by omega) (by omega)) rfl (sp rfl (PE.fA Z19 rfl) rfl (spL rfl rfl (lf0 sc3 (Z2O hg) rfl) rfl (pur 2 rfl ?_)))))))))
 refine Z1 rfl ?_ ?_<;>intro hc0
 refine sqt 5 rfl (pur 1 rfl (sp rfl (PE.indexArr Z91 rfl rfl (by omega) (by omega)) rfl (spL rfl rfl (lh sc3 rfl (Z0u (w:=fl) (k:=q) (by omega) (by show 0+q*1=q;omega))) rfl (pur 2 rfl (Z5 ?_)))))
 first
   | exact rtA rfl rfl rfl ⟨by simp only [ZP];rw [Z56 hg,hc0];rfl,rfl,rfl⟩ drp
   | exact rtA rfl rfl rfl ⟨by simp only [ZP];rw [Z56 hg];simp_all,rfl,rfl⟩ drp
 refine Z2 (sqt 5 rfl (pur 1 rfl (sp rfl (PE.indexArr Z91 rfl rfl (by omega) (by omega)) rfl (spL rfl rfl (lh sc3 rfl (Z0u (w:=fl) (k:=q) (by omega) (by show 0+q*1=q;omega))) rfl (pur 2 rfl (Z5 ?_))))))
 first
   | exact rtA rfl rfl rfl ⟨by simp only [ZP];rw [Z56 hg,hc0];rfl,rfl,rfl⟩ drp
   | exact rtA rfl rfl rfl ⟨by simp only [ZP];rw [Z56 hg];simp_all,rfl,rfl⟩ drp
theorem Ziv {p q s vs:List Value} (h:q.length=vs.length):spl (p++(q++s)) p.length vs=p++(vs++s):=by
 unfold spl
 rw [List.take_left,show p.length+vs.length=(p++q).length by simp [h],← List.append_assoc p q s,List.drop_left,List.append_assoc]
theorem ZhQ {α:Type} {xs:List α} {i:Nat} (hi:i<xs.length):∃ A y B,xs=A++y::B∧i=A.length:=⟨xs.take i,xs[i],xs.drop (i+1),by rw [← List.drop_eq_getElem_cons hi,List.take_append_drop],by rw [List.length_take];omega⟩
theorem Z4l (l:List Int):(Z6 l).flatten=Zp l:=Z2a l
theorem Zi3 (l:List Int):∀ r∈Z6 l,r.length=1:=fun r hr=>by obtain ⟨z,_,rfl⟩:=List.mem_map.1 hr;rfl
theorem ZbE {xs:List Int} {junk:List Value} {k:Nat} (h:k<xs.length) (v:Int):spl (Zp xs++junk) (0+((k:Nat):Int).toNat*1) [.int .i64 v]=Zp (xs.set k v)++junk:=by
 rw [show 0+((k:Nat):Int).toNat*1=k by omega]
 obtain ⟨A,y,B,rfl,rfl⟩:=ZhQ h
 have h1:=Ziv (p:=Zp A) (q:=[.int .i64 y]) (s:=Zp B++junk) (vs:=[.int .i64 v]) rfl
 rw [show (Zp A).length=A.length by simp [Zp]] at h1
 rw [show Zp (A++y::B)++junk=Zp A++([.int .i64 y]++(Zp B++junk)) by simp [Zp],h1]
 simp [Zp]
theorem Ze6 {xs:List Int} {junk:List Value} {k:Nat} (h:k<xs.length):(Zp xs++junk)[0+((k:Nat):Int).toNat*1]?=some (.int .i64 (na xs k)):=by
 rw [show 0+((k:Nat):Int).toNat*1=k by omega,List.getElem?_append_left (by rw [Zj];exact h),Z2Q (ZR h)]
def RevI (l xs:List Int) (i:Nat):Prop:=xs.length=l.length∧∀ p<l.length,na xs p=bif decide (p<i∨l.length≤p+i) then na l (l.length-1-p) else na l p
theorem RevI.start (l:List Int):RevI l l 0:=⟨rfl,fun p hp=>by rw [decide_eq_false (by omega)];rfl⟩
theorem RevI.step {l xs:List Int} {i:Nat} (h:RevI l xs i) (hi:i+i+1<l.length):RevI l ((xs.set i (na xs (l.length-1-i))).set (l.length-1-i) (na xs i)) (i+1):=by
 have hl:=h.1
 refine ⟨by rw [List.length_set,List.length_set];exact hl,fun p hp=>?_⟩
 rw [Z12 (by rw [List.length_set];omega)]
 by_cases h1:l.length-1-i=p
 · rw [decide_eq_true h1,cond_true,h.2 i (by omega),decide_eq_false (by omega),decide_eq_true (by omega),cond_true,cond_false]
   congr 1;omega
 · rw [decide_eq_false h1,cond_false,Z12 (by omega)]
   by_cases h2:i=p
   · subst h2
     rw [decide_eq_true rfl,cond_true,h.2 _ (by omega),decide_eq_false (by omega),cond_false,decide_eq_true (by omega)];rfl
   · rw [decide_eq_false h2,cond_false,h.2 p hp]
     have:(p<i∨l.length≤p+i)↔(p<i+1∨l.length≤p+(i+1)):=by omega
     rw [decide_eq_decide.2 this]
theorem RevI.done {l xs:List Int} {i:Nat} (h:RevI l xs i) (hi:l.length≤i+i+1):xs=l.reverse:=by
 apply List.ext_getElem?
 intro p
 rcases Nat.lt_or_ge p l.length with hp | hp
 · rw [ZR (by rw [h.1];exact hp),List.getElem?_reverse hp,ZR (by omega),h.2 p hp]
   by_cases h1:p<i∨l.length≤p+i
   · rw [decide_eq_true h1];rfl
   · rw [decide_eq_false h1,cond_false,show l.length-1-p=p by omega]
 · rw [List.getElem?_eq_none (by rw [h.1];exact hp),List.getElem?_eq_none (by rw [List.length_reverse];exact hp)]
theorem Zgt (l:List Int) (b cap:Nat) (junk:List Value) (hl:l.length≤1000000) (H:Z8) (R:Z4) :
    Fn Tryz.prog 264 [.slice (some ⟨b,0,none⟩) l.length cap] ((b,cel 3 (Zp l++junk))::H) R (fun v H' R'=>v = .tuple #[]∧H'=(b,cel 3 (Zp l.reverse++junk))::H∧R'=R):=by
 refine Zc Tryz.func264 rfl Tryz.ntmps264 rfl ?_
 refine sqt 5 rfl (pur 1 rfl (sp rfl (PE.lenSl ZT rfl) rfl (sp rfl (PE.sub rfl rfl (by omega)) rfl ?_)))
 rw [show (l.length:Int)-1=(l.length:Int)-1-((0:Nat):Int) from by omega]
 refine pur 2 rfl (Z3 ?_)
 refine Zb (ι:={x:Nat×List Int // x.1≤l.length∧RevI l x.2 x.1}) (fun x=>⟨[(0,.slice (some ⟨b,0,none⟩) l.length cap),(2,.int .i64 x.1.1),(3,.int .i64 ((l.length:Int)-1-x.1.1))],(b,cel 3 (Zp x.1.2++junk))::H,R⟩) (fun x=>l.length-x.1.1) ⟨(0,l),Nat.zero_le _,RevI.start l⟩ ?_ (fun x=>?_)
 exact Ze idH
 obtain ⟨⟨i,xs⟩,hi,hr⟩:=x
 dsimp only at hi hr ⊢
 have hxl:=hr.1
 refine Z0 (sqt 3 rfl (pur 3 rfl ?_))
 refine Z1 rfl ?_ ?_<;>intro hc0<;>try simp only [cS] at hc0
 have hii:i+i+1<l.length:=by omega
 rw [show (l.length:Int)-1-i=(((l.length-1-i):Nat):Int) from by omega]
 refine Z2 (Z0 (Z3 ?_))
 refine Zd [0,0,0,0,0,0,48,112,0,0,768,1792,4083,8179,16383,32767] (tks 0 7 (.ld 7 (tks 8 3 (.ld 11 (.tk 12 (.big 13 (.tk 14 (.big 15 .done)))))))) Zt (by kernel_rfl) ?_
 refine Zm 6 rfl (tk rfl (PE.indexAddr Z0G rfl rfl (by omega) (by omega)) rfl (ld rfl rfl (lh sc3 rfl (Ze6 (by omega))) rfl (Zm 2 rfl (tk rfl (PE.indexAddr Z0G rfl rfl (by omega) (by omega)) rfl (ld rfl rfl (lh sc3 rfl (Ze6 (by omega))) rfl (tk rfl (PE.indexAddr Z0G rfl rfl (by omega) (by omega)) rfl ?_))))))
 refine ZB (l':=Zp ((xs).set i (na xs (l.length-1-i)))++junk) rfl rfl rfl cn3 rfl rfl rfl (ZbE (show i<xs.length by omega) _) (by rw [List.length_append,Zj];show 0+((i:Nat):Int).toNat*1+1≤_;have:=(show i<xs.length by omega);omega) ?_
 refine bgT (tk rfl (PE.indexAddr Z0G rfl rfl (by omega) (by omega)) rfl ?_)
 refine ZB (l':=Zp ((xs.set i (na xs (l.length-1-i))).set (l.length-1-i) (na xs i))++junk) rfl rfl rfl cn3 rfl rfl rfl (ZbE (show (l.length-1-i)<(xs.set i (na xs (l.length-1-i))).length by rw [List.length_set];omega) _) (by rw [List.length_append,Zj];show 0+(((l.length-1-i):Nat):Int).toNat*1+1≤_;have:=(show (l.length-1-i)<(xs.set i (na xs (l.length-1-i))).length by rw [List.length_set];omega);omega) ?_
 refine bgT (sqr 6 rfl (pur 1 rfl (sp rfl (PE.add rfl rfl (by omega)) rfl (pur 1 rfl (sp rfl (PE.sub rfl rfl (by omega)) rfl (pur 2 rfl ?_))))))
 rw [show (((l.length-1-i):Nat):Int)-1=(l.length:Int)-1-((i+1:Nat):Int) from by omega]
 exact Z7 ⟨(i+1,(xs.set i (na xs (l.length-1-i))).set (l.length-1-i) (na xs i)),by dsimp only;omega,hr.step hii⟩ idH
 obtain rfl:=hr.done (by omega)
 refine Z9 (Za (Za (Zh ?_)))
 exact Z4H (vs:=[]) rfl .nil rfl ⟨rfl,rfl,rfl⟩ idH
theorem ZdF (H:Z8) (R:Z4) :
    FnV Tryz.prog 264 [.slice none 0 0] H R (.tuple #[]):=by
 refine Zc Tryz.func264 rfl Tryz.ntmps264 rfl ?_
 refine sqt 5 rfl (pur 1 rfl (sp rfl (PE.lenSl ZT rfl) rfl (sp rfl (PE.sub rfl rfl (by omega)) rfl (pur 2 rfl (Z3 ?_)))))
 refine Zb (ι:=Unit) (fun _=>⟨[(2,.int .i64 0),(3,.int .i64 (-1))],H,R⟩) (fun x=>0) () ?_ (fun x=>?_)
 exact Ze idH
 refine Z0 (sqt 3 rfl (pur 3 rfl ?_))
 refine Z1 rfl ?_ ?_<;>intro hc0
 exact absurd hc0 (by decide)
 refine Z9 (Za (Za (Zh ?_)))
 exact Z4H (vs:=[]) rfl .nil rfl ⟨rfl,rfl,rfl⟩ idH
theorem Z9L (l:List Int) (o:OSl 3 1 (Z6 l)) (hl:l.length≤1000000) (H:Z8) (R:Z4):Fn Tryz.prog 264 [o.fs] (o.G++H) R (fun v H' R'=>∃ o':OSl 3 1 (Z6 l.reverse),o'.fs=o.fs∧v = .tuple #[]∧H'=o'.G++H∧R'=R):=by
 have hir:(Z6 l).length=l.length:=List.length_map _
 have hrr:(Z6 l.reverse).length=l.length:=by rw [List.length_map,List.length_reverse]
 rcases o.is with ⟨h1,h2,h3⟩ | ⟨b,cap,junk,h2,h3,hj,hc,hm⟩
 · have hx:l=[]:=List.map_eq_nil_iff.1 h1
   subst hx
   rw [h2,h3]
   exact Fn.mono (ZdF H R) (by rintro v H' R' ⟨rfl,rfl,rfl⟩;exact ⟨OSl.nil _ _,rfl,rfl,rfl,rfl⟩)
 · rw [hir] at h2 hj hc
   rw [h2,h3,Z4l]
   exact Fn.mono (Zgt l b cap junk hl H R) (by
     rintro v H' R' ⟨rfl,rfl,rfl⟩
     exact ⟨⟨.slice (some ⟨b,0,none⟩) (Z6 l.reverse).length cap,[(b,cel 3 ((Z6 l.reverse).flatten++junk))],Zi3 _,.inr ⟨b,cap,junk,rfl,rfl,by rw [hrr];exact hj,by rw [hrr];exact hc,hm⟩⟩,congrArg (fun q=>Value.slice (some ⟨b,0,none⟩) q cap) hrr,rfl,congrArg (fun q=>(b,cel 3 (q++junk))::H) (Z4l l.reverse).symm,rfl⟩)
structure OQ (e sz:Nat) (rows:List (List Value)) where
 b:Nat
 off:Nat
 cap:Nat
 pre:List Value
 junk:List Value
 len:∀ r∈rows,r.length=sz
 pl:pre.length=off
 room:cap*sz≤rows.length*sz+junk.length
 le:rows.length≤cap
 mx:cap≤9223372036854775807
def OQ.fs {e sz:Nat} {rows:List (List Value)} (q:OQ e sz rows):Value:=.slice (some ⟨q.b,q.off,none⟩) rows.length q.cap
def OQ.G {e sz:Nat} {rows:List (List Value)} (q:OQ e sz rows):Z8:=[(q.b,cel e (q.pre++(rows.flatten++q.junk)))]
theorem Z7F {a r j v:List Value} {o:Nat} (e:o=a.length+r.length) (h:v.length≤j.length):spl (a++(r++j)) o v=a++((r++v)++j.drop v.length):=by
 subst e
 unfold spl
 rw [← List.append_assoc a r j,show a.length+r.length=(a++r).length by simp,List.take_left,List.drop_append,List.drop_of_length_le (by omega),List.nil_append]
 simp [List.append_assoc]
theorem Z4v {P:Program} {t ty e sz by_:Nat} (ht:apT P t=some (e,sz,by_)) {rows news:List (List Value)} (q:OQ e sz rows) {T:Z8} {R:Z4} {w:World} (hs:St (q.G++T) R w)
   {ax:Option Addr} {c:Nat} (hr:RowsA ax sz news w) (h0:news≠[]) (h1:Z0E news=true) (hby:(rows.length+news.length)*by_≤140737488355328) (h63:rows.length+news.length≤9223372036854775807) :
   ∃ (q':OQ e sz (rows++news)) (w':World),(Builtin.append_ #[t,t] ty #[q.fs,.slice ax news.length c]).run P w = .ok q'.fs w'∧St (q'.G++T) R w':=by
 unfold apT at ht
 split at ht
 case h_2=>cases ht
 rename_i e' hu
 split at ht
 case h_2=>cases ht
 rename_i i hi
 split at ht
 case h_2=>cases ht
 rename_i z hz
 cases hzs:Nat.beq z.cells.size i.size with
 | false=>rw [hzs] at ht;cases ht
 | true =>
 rw [hzs,cond_true] at ht
 cases ht
 have hzs:=Nat.eq_of_beq_eq_true hzs
 have hnl:=Z5O hr
 obtain ⟨b,off,cap,pre,junk,hl,hpl,hroom0,hle,hmx⟩:=q
 have hlen':∀ r∈rows++news,r.length=i.size:=fun r h=>by rcases List.mem_append.1 h with h | h;exact hl r h;exact hnl r h
 have hnf:=Z0i hnl
 have hrf:=Z0i hl
 obtain ⟨bx,offx,rfl⟩:=Z1Y hr h0
 have hcell:∀ j v,news.flatten[j]?=some v→w.cell? ((⟨bx,offx,none⟩:Addr).add j)=some v:=fun j v h=>by rw [ZW];exact Z2Y hr j v h
 have hn0:0<news.length:=List.length_pos_iff.2 h0
 have hb:=hs.held (b,cel e (pre++(rows.flatten++junk))) (by simp [OQ.G])
 by_cases hroom:rows.length+news.length≤cap
 · have hm2:(rows.length+news.length)*i.size≤cap*i.size:=Nat.mul_le_mul_right _ hroom
   rw [Nat.add_mul] at hm2
   have hjl:news.flatten.length≤junk.length:=by omega
   have hst:=Z5d (P:=P) (e:=e) (od:=off+rows.length*i.size) (vs:=news.flatten) (List.all_eq_true.2 (Z5I h1)) (by simp only [List.length_append,hrf,hpl];omega) hb
   have hfc:=run_firstCells_some (P:=P) w i.size news.length ⟨bx,offx,none⟩ news.length c news.flatten hnf hcell
   have hsp:spl (pre++(rows.flatten++junk)) (off+rows.length*i.size) news.flatten=pre++((rows++news).flatten++junk.drop news.flatten.length):=by
     rw [Z7F (by rw [hpl,hrf]) hjl,List.flatten_append]
   rw [hsp] at hst
   refine ⟨⟨b,off,cap,pre,junk.drop news.flatten.length,hlen',hpl,by rw [List.length_append,List.length_drop,Nat.add_mul];omega,by rw [List.length_append];exact hroom,hmx⟩,{ w with heap:=w.heap.setIfInBounds b (cel e (pre++((rows++news).flatten++junk.drop news.flatten.length))) },?_,St.set hs⟩
   have e0:(⟨b,off,none⟩:Addr).add (rows.length*i.size)=⟨b,off+rows.length*i.size,none⟩:=by rw [ZW]
   simp [OQ.fs,Builtin.append_,run_underlying hu,sizeOf,typeInfo,hi,Builtin.lenOf,hroom,hfc,e0,hst]
 · have holds:∀ j v,rows.flatten[j]?=some v→w.cell? ((⟨b,off,none⟩:Addr).add j)=some v:=fun j v h=>by
     have hlt:j<rows.flatten.length:=(List.getElem?_eq_some_iff.1 h).1
     rw [ZW,Z1x hb]
     simp only [List.getElem?_toArray]
     rw [List.getElem?_append_right (by omega),show off+j-pre.length=j by omega,List.getElem?_append_left hlt];exact h
   have h2:=run_append_grow (P:=P) w t ty e i z hu hi hz ⟨b,off,none⟩ rows.length cap rows.flatten hrf holds ⟨bx,offx,none⟩ news.length c news.flatten hnf hcell (by omega) (by omega) (growslice_fits (by omega) hby)
   have hge:=grownCap_ge w (rows.length+news.length) cap e
   have hcm:grownCap w (rows.length+news.length) cap e≤maxLen:=grownCap_le_maxLen w _ cap e (by simp only [maxLen];omega)
   refine ⟨⟨w.heap.size,0,grownCap w (rows.length+news.length) cap e,[],(Builtin.zeroCells z.cells (grownCap w (rows.length+news.length) cap e-(rows.length+news.length))).toList,hlen',rfl,?_,by rw [List.length_append];exact hge,by simp only [maxLen] at hcm;omega⟩,w.drew.alloc (.cells (rows.flatten.toArray++news.flatten.toArray++Builtin.zeroCells z.cells (grownCap w (rows.length+news.length) cap e-(rows.length+news.length))) e),?_,?_⟩
   · simp only [Array.length_toList,size_zeroCells,hzs,List.length_append,← Nat.add_mul]
     exact Nat.mul_le_mul_right _ (by omega)
   · exact h2.trans (by simp only [OQ.fs,List.length_append])
   · have h3:=(St.tail hs).drew.alloc (.cells (rows.flatten.toArray++news.flatten.toArray++Builtin.zeroCells z.cells (grownCap w (rows.length+news.length) cap e-(rows.length+news.length))) e)
     rw [show w.drew.heap.size=w.heap.size from rfl] at h3
     have e1:(cel e ([]++((rows++news).flatten++(Builtin.zeroCells z.cells (grownCap w (rows.length+news.length) cap e-(rows.length+news.length))).toList))) = .cells (rows.flatten.toArray++news.flatten.toArray++Builtin.zeroCells z.cells (grownCap w (rows.length+news.length) cap e-(rows.length+news.length))) e:=by
       unfold cel;congr 1;apply Array.toList_inj.1;simp
     show St ((_,_)::T) R _
     rw [e1];exact h3
section
variable {P:Program} {r:Option Nat} {ops:Array Oper} {n:Nat} {L:Zk} {D:List Deferred} {H:Z8} {R:Z4} {K:Act→World→Prop}
 {i d:Nat} {ty:TypeId} {pos:String} {af:Array Edge}
theorem apQ {t e sz by_ c k:Nat} {s x:Operand} {rows news:List (List Value)} (q:OQ e sz rows) {ax:Option Addr} {C:Z8→Z8}
   (ho:ops[i]?=some ⟨some d,.call { callee:=.builtin .append,args := #[s,x],argTypes := #[t,t] },ty,pos,af,none⟩) (ht:apT P t=some (e,sz,by_))
   (hs:ev L s=some q.fs) (hx:ev L x=some (.slice ax k c)) (hr:∀ w,St H R w→RowsA ax sz news w) (hk:news.length=k) (h0:news≠[]) (h1:Z0E news=true)
   (hb:(rows.length+news.length)*by_≤140737488355328∧rows.length+news.length≤9223372036854775807) (hd:Nat.blt d n=true)
   [rp:RepF q.G H C]
   (h:∀ q':OQ e sz (rows++news),Sy n ((d,q'.fs)::L) D (C q'.G) R K):Sy n L D H R (stp P r ops i K):=fun a w ha hD hs0=>by
 subst hk
 obtain ⟨T,p1,p2⟩:=rp.rep
 obtain ⟨q',w',h2,h3⟩:=Z4v ht q (hs0.perm p1) (hr w hs0) h0 h1 hb.1 hb.2
 refine ZA ho (Zg _ rfl _) (v:=q'.fs) (w':=w') ?_ (h q' _ _ (ha.put (by simpa using hd) _) hD (h3.perm (p2 _)))
 simp only [execOp,resolve,invoke,builtin,Sem.run_bind,Sem.run_pure,Result.andThen,List.map_toArray,List.map_cons,List.map_nil,ha.reads _ _ hs,ha.reads _ _ hx]
 rw [show (Builtin.append_ #[t,t] ty #[q.fs,.slice ax news.length c]).run P w=_ from h2]
end
def OQ.cast {e sz:Nat} {rows rows':List (List Value)} (q:OQ e sz rows) (h:rows=rows'):OQ e sz rows':=h▸q
@[simp] theorem OQ.cast_fs {e sz : Nat} {rows rows' : List (List Value)} (q : OQ e sz rows) (h : rows = rows') : (q.cast h).fs = q.fs := by subst h; rfl
@[simp] theorem OQ.cast_G {e sz : Nat} {rows rows' : List (List Value)} (q : OQ e sz rows) (h : rows = rows') : (q.cast h).G = q.G := by subst h; rfl
theorem OQ.pop {e sz:Nat} {row:List Value} {rows:List (List Value)} (q:OQ e sz (row::rows)):∃ q':OQ e sz rows,q'.fs = .slice (if q.cap=1 then some ⟨q.b,q.off,none⟩ else some ⟨q.b,q.off+1*sz,none⟩) rows.length (q.cap-1)∧q'.G=q.G:=by
 obtain ⟨b,off,cap,pre,junk,hl,hpl,hroom,hle,hmx⟩:=q
 have hrl:=hl row (by simp)
 rw [List.length_cons] at hroom hle
 rw [Nat.add_mul] at hroom
 by_cases h1:cap=1
 · have hr0:rows=[]:=List.length_eq_zero_iff.1 (by omega)
   subst hr0
   refine ⟨⟨b,off,cap-1,pre,row++junk,by simp,hpl,by rw [h1];simp,by simp,by omega⟩,?_,?_⟩
   · unfold OQ.fs;dsimp only;rw [if_pos h1]
   · unfold OQ.G;simp
 · refine ⟨⟨b,off+1*sz,cap-1,pre++row,junk,fun r hr=>hl r (by simp [hr]),by rw [List.length_append,hpl,hrl];omega,by rw [Nat.sub_mul];omega,by omega,by omega⟩,?_,?_⟩
   · unfold OQ.fs;dsimp only;rw [if_neg h1]
   · unfold OQ.G;simp [List.append_assoc]
theorem OQ.one {e sz:Nat} (b:Nat) {row:List Value} (h:row.length=sz):∃ q:OQ e sz [row],q.fs = .slice (some ⟨b,0,none⟩) 1 1∧q.G=[(b,cel e row)] :=
 ⟨⟨b,0,1,[],[],by simp [h],rfl,by simp,by simp,by decide⟩,rfl,by unfold OQ.G;simp⟩
end Go.Proofs.YtcfdanhklbklkaaGreat.Wv
