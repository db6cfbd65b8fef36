/- Walks of the functions of the program, and the laws that join them: what the last theorem of this claim needs, in order. -/
import Derived.Test.YtcfdanhklbklkaaGreatTd3
namespace Go.Proofs.YtcfdanhklbklkaaGreat.Wv
set_option linter.unusedSimpArgs false
set_option linter.unusedVariables false
open Go
theorem Zke:Z0W Tryz.prog 242=some 3:=by kernel_rfl
theorem ZeP:Z0W Tryz.prog 95=some 3:=by kernel_rfl
theorem ZeX:Z0W Tryz.prog 97=some 2:=by kernel_rfl
theorem Z9I:cal Tryz.prog 119=true:=by kernel_rfl
theorem ZgN:cal Tryz.prog 120=true:=by kernel_rfl
theorem Zl0:cal Tryz.prog 121=true:=by kernel_rfl
theorem ZgO:cal Tryz.prog 122=true:=by kernel_rfl
theorem Zl1:cal Tryz.prog 123=true:=by kernel_rfl
theorem Zl2:cal Tryz.prog 124=true:=by kernel_rfl
theorem Zl3:cal Tryz.prog 125=true:=by kernel_rfl
theorem Zl4:cal Tryz.prog 126=true:=by kernel_rfl
theorem Zis:cal Tryz.prog 13=true:=by kernel_rfl
theorem Z4c:cal Tryz.prog 148=true:=by kernel_rfl
theorem ZlK:cal Tryz.prog 204=true:=by kernel_rfl
theorem ZlL:cal Tryz.prog 205=true:=by kernel_rfl
theorem ZlM:cal Tryz.prog 206=true:=by kernel_rfl
theorem ZlN:cal Tryz.prog 207=true:=by kernel_rfl
theorem ZlO:cal Tryz.prog 208=true:=by kernel_rfl
theorem Z3j:cal Tryz.prog 224=true:=by kernel_rfl
theorem Zmm:cal Tryz.prog 260=true:=by kernel_rfl
theorem Zmn:cal Tryz.prog 261=true:=by kernel_rfl
theorem ZoW:cal Tryz.prog 45=true:=by kernel_rfl
theorem Zft:cal Tryz.prog 63=true:=by kernel_rfl
theorem Zfy:Zz Tryz.prog 100=some 1:=by kernel_rfl
theorem Z0D:elN Tryz.prog 23=some 1:=by kernel_rfl
theorem ZfH:elN Tryz.prog 92=some 2:=by kernel_rfl
theorem Zr3:elN Tryz.prog 93=some 3:=by kernel_rfl
theorem Zps:eqB Tryz.prog 10000 97=some (true,2):=by kernel_rfl
theorem Zpt:Tryz.prog.eqGuardType Tryz.prog.depth 97=false:=by kernel_rfl
theorem Zj0:ZG Tryz.prog 242 0=some 0:=by kernel_rfl
theorem Zj1:ZG Tryz.prog 242 1=some 1:=by kernel_rfl
theorem Zhk:ZG Tryz.prog 95 0=some 0:=by kernel_rfl
theorem Z2m:ZG Tryz.prog 95 1=some 1:=by kernel_rfl
theorem Zd8:ZG Tryz.prog 95 2=some 2:=by kernel_rfl
theorem Z1l:ZG Tryz.prog 97 0=some 0:=by kernel_rfl
theorem Z1m:ZG Tryz.prog 97 1=some 1:=by kernel_rfl
theorem ZO:Z2o Tryz.prog 23=true:=by kernel_rfl
theorem Zba:Z2o Tryz.prog 92=true:=by kernel_rfl
theorem Znh:Z2o Tryz.prog 93=true:=by kernel_rfl
theorem ZnB:ZD Tryz.prog 97=some [(0,1),(1,1)]:=by kernel_rfl
theorem Z1G:Z0c Tryz.prog 100=true:=by kernel_rfl
theorem ZpL:Z0c Tryz.prog 243=true:=by kernel_rfl
theorem ZpM:Z0c Tryz.prog 245=true:=by kernel_rfl
theorem sc3:Z0c Tryz.prog 3=true:=by kernel_rfl
theorem Zbu:Z0c Tryz.prog 92=true:=by kernel_rfl
theorem ZpU:Z0c Tryz.prog 93=true:=by kernel_rfl
theorem Z1H:slE Tryz.prog 23=some (3,1):=by kernel_rfl
theorem Zgw:Zp Tryz.prog 100=some ([.nilFunc]):=by kernel_rfl
theorem ZeI:Zp Tryz.prog 97=some ([.int .i64 0,.int .i64 0]):=by kernel_rfl
abbrev irows (l:List Int):List (List Value):=l.map fun z=>[.int .i64 z]
def grow (g:Gp):List Value:=[.int .i64 g.a,.int .i64 g.b]
def grows (l:List Gp):List (List Value):=l.map grow
def Zbv (s:Sgt):List Value:=[.int .i64 s.week,.int .i64 s.bin,.bool s.seen]
def srows (l:List Sgt):List (List Value):=l.map Zbv
def htl (h:Hse) (sg ss:Value):List Value:=[.int .i64 h.bins,sg,ss]
def Hse.v (h:Hse) (sg ss:Value):Value:=.agg (htl h sg ss).toArray
def Hse.sg (h:Hse) (a:Option Addr) (c:Nat):Value:=.slice a h.gaps.length c
def Hse.ss (h:Hse) (a:Option Addr) (c:Nat):Value:=.slice a h.sights.length c
theorem Z25 {l:List Gp} {k:Nat} {x:Gp} (h:l[k]?=some x):(grows l)[k]?=some (grow x):=by simp [grows,h]
theorem sr_get {l:List Sgt} {k:Nat} {x:Sgt} (h:l[k]?=some x):(srows l)[k]?=some (Zbv x):=by simp [srows,h]
theorem Z5h (l:List Gp):(grows l).length=l.length:=by simp [grows]
theorem ints_length (l:List Int):(Ze l).length=l.length:=by simp [Ze]
theorem Z0u {l:List Int} {k:Nat} {v:Int} (h:l[k]?=some v):(Ze l)[k]?=some (.int .i64 v):=by simp [Ze,h]
theorem Z0v {l:List Int} {k:Nat} (h:k<l.length):l[k]?=some (na l k):=by
 unfold na;rw [List.getD_eq_getElem?_getD,List.getElem?_eq_getElem h];rfl
theorem Z94 {l:List Int} {k:Nat} {x:Int} (h:l[k]?=some x):na l k=x:=by
 unfold na;rw [List.getD_eq_getElem?_getD,h];rfl
theorem _root_.Go.Proofs.YtcfdanhklbklkaaGreat.OSl.freezeC {e sz:Nat} {rows:List (List Value)} (o:OSl e sz rows):∃ a c,o.fs = .slice a rows.length c∧rows.length≤c∧∀ {H:Z6} {R:Z5} {w:World},St (o.G++H) R w→St H (RowsA a sz rows::R) w:=by
 obtain ⟨fs,G,hl,his⟩:=o
 rcases his with ⟨rfl,rfl,rfl⟩ | ⟨b,cap,junk,rfl,rfl,_,hc,_⟩
 · exact ⟨none,0,rfl,Nat.le_refl _,fun {H R w} h=>(St.also (H:=H) (R:=R) h (f:=RowsA none sz []) (fun w' _=>fun i row hi=>by simp at hi))⟩
 · exact ⟨_,cap,rfl,hc,fun {H R w} h=>St.rows (rest:=junk) h hl⟩
theorem Zo {α:Type} {xs:List α} {p:α→Bool} {k:Nat} {x:α} (hx:xs[k]?=some x) (hn:∀ y∈xs.take k,p y=false) (h:p x=true):xs.findIdx? p=some k:=by
 induction xs generalizing k with
 | nil=>simp at hx
 | cons y ys ih =>
   cases k with
   | zero=>simp only [List.getElem?_cons_zero,Option.some.injEq] at hx;subst hx;simp [List.findIdx?_cons,h]
   | succ k =>
     have hy:=hn y (by simp)
     have:=ih (by simpa using hx) (fun z hz=>hn z (by simp [hz]))
     simp [List.findIdx?_cons,hy,this]
theorem Zm {α:Type} {xs:List α} {p:α→Bool} (hn:∀ y∈xs,p y=false):xs.findIdx? p=none:=by
 rw [List.findIdx?_eq_none_iff];exact hn
theorem ZB {α:Type} {xs:List α} {p:α→Bool} {k:Nat} {x:α} (hx:xs[k]?=some x) (hn:∀ y∈xs.take k,p y=false) (h:p x=false):∀ y∈xs.take (k+1),p y=false:=by
 intro y hy
 rw [List.take_add_one,hx] at hy
 rcases List.mem_append.1 hy with h1 | h1
 · exact hn y h1
 · simp only [Option.toList_some,List.mem_singleton] at h1;subst h1;exact h
theorem Z00 {α:Type} (xs:List α) (p:α→Bool):Value.bool (decide (0≤(match xs.findIdx? p with | some k=>(k:Int) | none => -1))) = .bool (xs.any p):=by
 congr 1
 cases h:xs.findIdx? p with
 | none =>
   have:=List.findIdx?_eq_none_iff.1 h
   have h2:xs.any p=false:=by simpa using this
   rw [h2];rfl
 | some k =>
   have h2:xs.any p=true:=by
     rw [← Bool.not_eq_false];intro h3
     have:xs.findIdx? p=none:=List.findIdx?_eq_none_iff.2 (by simpa using h3)
     rw [this] at h;cases h
   rw [h2];simp
theorem Zu {α:Type} (xs:List α) (p:α→Bool):Value.bool (!xs.any fun x=>!p x) = .bool (xs.all p):=by
 congr 1
 induction xs with
 | nil=>rfl
 | cons x xs ih=>simp [← ih]
theorem Z3K (n lo hi:Int) (H:Z6) (R:Z5) :
    FnV Tryz.prog 119 [.int .i64 n,.int .i64 lo,.int .i64 hi] H R (.bool (inB n lo hi)):=by
 refine Zc Tryz.func119 rfl Tryz.ntmps119 rfl ?_
 refine sqt 1 rfl (pur 1 rfl (sqt 9 rfl (pur 4 rfl ?_)))
 refine Zq 10 rfl ?_ ?_<;>intro g10
 refine pur 5 rfl (Z4 ?_)
 exact rtA rfl rfl rfl ⟨by simp_all only [ZC,inB,Bool.true_and,Bool.false_and,cond_true,cond_false],rfl,rfl⟩ drp
 refine pur 5 rfl (Z4 ?_)
 exact rtA rfl rfl rfl ⟨by simp_all only [ZC,inB,Bool.true_and,Bool.false_and,cond_true,cond_false],rfl,rfl⟩ drp
theorem Z0s (xs:List Int) (a:Option Addr) (c g:Nat) (fst cap:List Value) (p:Int→Bool) (hg:cal Tryz.prog g=true) (hl:xs.length≤9223372036854775807) (H:Z6) (R:Z5) [hR:MemRows a 1 (irows xs) R] (hp:∀ x,x∈xs→FnV Tryz.prog g (fst++[.int .i64 x]++cap) H R (.bool (p x))) :
    FnV Tryz.prog 224 [.slice a xs.length c,.func (.func g) fst.toArray cap.toArray] H R (.int .i64 (match xs.findIdx? p with | some k=>(k:Int) | none => -1)):=by
 refine Zc Tryz.func224 rfl Tryz.ntmps224 rfl ?_
 refine sqt 1 rfl (pur 1 rfl (Z0 (sqt 3 rfl (pur 1 rfl (sp rfl (PE.lenSl ZO rfl) rfl (pur 1 rfl (Z2 ?_)))))))
 refine Zd (ι:={k:Nat // k≤xs.length∧∀ x∈xs.take k,p x=false}) (fun k=>⟨[(0,.slice a xs.length c),(1,.func (.func g) fst.toArray cap.toArray),(7,.int .i64 xs.length),(8,.int .i64 k.1)],H,R⟩) (fun k=>xs.length-k.1) ⟨0,by simp⟩ ?_ (fun k=>?_)
 exact Zf idH
 obtain ⟨k,hk,hn⟩:=k
 dsimp only
 refine sqt 1 rfl (pur 1 rfl (Z0 ?_))
 refine Z1 rfl ?_ ?_<;>intro hc0
 simp only [cS] at hc0
 obtain ⟨x,hx⟩:∃ x,xs[k]?=some x:=⟨_,List.getElem?_eq_getElem (by omega)⟩
 have hxm:=List.mem_of_getElem? hx
 refine Zj (a:=a) (sz:=1) (rows:=irows xs) (by cases xs<;>simp_all [irows]) (fun b off he=>?_)
 subst he
 refine Z3 (Z0 (Z2 (sqt 2 rfl (pur 2 rfl (sqt 6 rfl (pur 3 rfl (sp rfl (PE.indexAddr Z0D rfl rfl (by omega) (by omega)) rfl (spL rfl rfl (lf0 sc3 (by simp [irows,hx];rfl) rfl) rfl ?_))))))))
 refine Z2c rfl rfl (hg) rfl rfl (hp x hxm) ?_
 refine Z1 rfl ?_ ?_<;>intro hc1
 refine sqt 2 rfl (pur 2 rfl (Z4 ?_))
 first | (exact rtA rfl rfl rfl ⟨by rw [Zo hx hn hc1];rfl,rfl,rfl⟩ idH) | (exact rtA rfl rfl rfl ⟨by rw [Zm (by simpa using hn)];rfl,rfl,rfl⟩ idH)
 refine Z3 (sqr 2 rfl (sp rfl (PE.add rfl rfl (by omega)) rfl (pur 1 rfl ?_)))
 exact Zb ⟨k+1,by omega,ZB hx hn hc1⟩ idH
 simp only [cS] at hc0
 obtain rfl:k=xs.length:=by omega
 refine Z7 (Z8 (Z8 (Zi (sqt 1 rfl (pur 1 rfl (Z4 ?_))))))
 first | (exact rtA rfl rfl rfl ⟨by rw [Zo hx hn hc1];rfl,rfl,rfl⟩ idH) | (exact rtA rfl rfl rfl ⟨by rw [Zm (by simpa using hn)];rfl,rfl,rfl⟩ idH)
theorem Z0M (xs:List Int) (a:Option Addr) (c g:Nat) (fst cap:List Value) (p:Int→Bool) (hg:cal Tryz.prog g=true) (hl:xs.length≤9223372036854775807) (H:Z6) (R:Z5) [hR:MemRows a 1 (irows xs) R] (hp:∀ x,x∈xs→FnV Tryz.prog g (fst++[.int .i64 x]++cap) H R (.bool (p x))) :
    FnV Tryz.prog 148 [.slice a xs.length c,.func (.func g) fst.toArray cap.toArray] H R (.bool (xs.any p)):=by
 refine Zc Tryz.func148 rfl Tryz.ntmps148 rfl ?_
 refine sqt 1 rfl (pur 1 rfl (sqt 5 rfl (pur 2 rfl ?_)))
 refine clV rfl Z3j rfl rfl (Z0s xs a c g fst cap p hg hl _ _ hp) ?_
 refine pur 2 rfl (Z4 ?_)
 exact rtA rfl rfl rfl ⟨by simp only [ZC];exact Z00 _ _,rfl,rfl⟩ drp
theorem Z14 (x:Int) (g bf:Nat) (fst cap:List Value) (p:Bool) (hg:cal Tryz.prog g=true) (H:Z6) (R:Z5) [hM:Mem1 bf (cel 100 [.func (.func g) fst.toArray cap.toArray]) H] (hp:FnV Tryz.prog g (fst++[.int .i64 x]++cap) H R (.bool p)) :
    FnV Tryz.prog 208 [.int .i64 x,.pointer (some ⟨bf,0,none⟩)] H R (.bool !p):=by
 refine Zc Tryz.func208 rfl Tryz.ntmps208 rfl ?_
 refine sqt 1 rfl (pur 1 rfl (sqt 5 rfl (spL rfl rfl (lh Z1G rfl rfl) rfl (pur 1 rfl ?_))))
 refine Z2c rfl rfl (hg) rfl rfl (hp) ?_
 refine pur 2 rfl (Z4 ?_)
 exact rtA rfl rfl rfl ⟨rfl,rfl,rfl⟩ drp
theorem Z09 (xs:List Int) (a:Option Addr) (c g:Nat) (fst cap:List Value) (p:Int→Bool) (hg:cal Tryz.prog g=true) (hl:xs.length≤9223372036854775807) (H:Z6) (R:Z5) [hR:MemRows a 1 (irows xs) R] (hp:∀ b x,x∈xs→FnV Tryz.prog g (fst++[.int .i64 x]++cap) ((b,cel 100 [.func (.func g) fst.toArray cap.toArray])::H) R (.bool (p x))) :
    FnV Tryz.prog 126 [.slice a xs.length c,.func (.func g) fst.toArray cap.toArray] H R (.bool (xs.all p)):=by
 refine Zc Tryz.func126 rfl Tryz.ntmps126 rfl ?_
 refine sqt 2 rfl (bx rfl rfl rfl (fun b3=>pur 1 rfl (sqt 5 rfl (pur 1 rfl (sp rfl (PE.makeFunc rfl rfl) rfl ?_)))))
 refine clV rfl Z4c rfl rfl (Z0M xs a c 208 [] [_] (fun x=>!p x) ZlO hl _ _ (hp:=fun x hx=>Z14 x g _ fst cap (p x) hg _ _ (hp:=hp _ x hx))) ?_
 refine pur 2 rfl (Z4 ?_)
 exact rtA rfl rfl rfl ⟨by simp only [ZC];rw [Zu],rfl,rfl⟩ drp
theorem Zca (xs:List Gp) (a:Option Addr) (c g:Nat) (fst cap:List Value) (p:Gp→Bool) (hg:cal Tryz.prog g=true) (hl:xs.length≤9223372036854775807) (H:Z6) (R:Z5) [hR:MemRows a 2 (grows xs) R] (hp:∀ x,x∈xs→FnV Tryz.prog g (fst++[.agg (grow x).toArray]++cap) H R (.bool (p x))) :
    FnV Tryz.prog 261 [.slice a xs.length c,.func (.func g) fst.toArray cap.toArray] H R (.int .i64 (match xs.findIdx? p with | some k=>(k:Int) | none => -1)):=by
 refine Zc Tryz.func261 rfl Tryz.ntmps261 rfl ?_
 refine sqt 1 rfl (pur 1 rfl (Z0 (sqt 3 rfl (pur 1 rfl (sp rfl (PE.lenSl Zba rfl) rfl (pur 1 rfl (Z2 ?_)))))))
 refine Zd (ι:={k:Nat // k≤xs.length∧∀ x∈xs.take k,p x=false}) (fun k=>⟨[(0,.slice a xs.length c),(1,.func (.func g) fst.toArray cap.toArray),(7,.int .i64 xs.length),(8,.int .i64 k.1)],H,R⟩) (fun k=>xs.length-k.1) ⟨0,by simp⟩ ?_ (fun k=>?_)
 exact Zf idH
 obtain ⟨k,hk,hn⟩:=k
 dsimp only
 refine sqt 1 rfl (pur 1 rfl (Z0 ?_))
 refine Z1 rfl ?_ ?_<;>intro hc0
 simp only [cS] at hc0
 obtain ⟨x,hx⟩:∃ x,xs[k]?=some x:=⟨_,List.getElem?_eq_getElem (by omega)⟩
 have hxm:=List.mem_of_getElem? hx
 refine Zj (a:=a) (sz:=2) (rows:=grows xs) (by cases xs<;>simp_all [grows]) (fun b off he=>?_)
 subst he
 refine Z3 (Z0 (Z2 (sqt 2 rfl (pur 2 rfl (sqt 6 rfl (pur 3 rfl (sp rfl (PE.indexAddr ZfH rfl rfl (by omega) (by omega)) rfl (spL rfl rfl (lfA ZeX (row:=grow x) (by simp [grows,hx]) rfl) rfl ?_))))))))
 refine Z2c rfl rfl (hg) rfl rfl (hp x hxm) ?_
 refine Z1 rfl ?_ ?_<;>intro hc1
 refine sqt 2 rfl (pur 2 rfl (Z4 ?_))
 first | (exact rtA rfl rfl rfl ⟨by rw [Zo hx hn hc1];rfl,rfl,rfl⟩ idH) | (exact rtA rfl rfl rfl ⟨by rw [Zm (by simpa using hn)];rfl,rfl,rfl⟩ idH)
 refine Z3 (sqr 2 rfl (sp rfl (PE.add rfl rfl (by omega)) rfl (pur 1 rfl ?_)))
 exact Zb ⟨k+1,by omega,ZB hx hn hc1⟩ idH
 simp only [cS] at hc0
 obtain rfl:k=xs.length:=by omega
 refine Z7 (Z8 (Z8 (Zi (sqt 1 rfl (pur 1 rfl (Z4 ?_))))))
 first | (exact rtA rfl rfl rfl ⟨by rw [Zo hx hn hc1];rfl,rfl,rfl⟩ idH) | (exact rtA rfl rfl rfl ⟨by rw [Zm (by simpa using hn)];rfl,rfl,rfl⟩ idH)
theorem Zc2 (xs:List Gp) (a:Option Addr) (c g:Nat) (fst cap:List Value) (p:Gp→Bool) (hg:cal Tryz.prog g=true) (hl:xs.length≤9223372036854775807) (H:Z6) (R:Z5) [hR:MemRows a 2 (grows xs) R] (hp:∀ x,x∈xs→FnV Tryz.prog g (fst++[.agg (grow x).toArray]++cap) H R (.bool (p x))) :
    FnV Tryz.prog 206 [.slice a xs.length c,.func (.func g) fst.toArray cap.toArray] H R (.bool (xs.any p)):=by
 refine Zc Tryz.func206 rfl Tryz.ntmps206 rfl ?_
 refine sqt 1 rfl (pur 1 rfl (sqt 5 rfl (pur 2 rfl ?_)))
 refine clV rfl Zmn rfl rfl (Zca xs a c g fst cap p hg hl _ _ hp) ?_
 refine pur 2 rfl (Z4 ?_)
 exact rtA rfl rfl rfl ⟨by simp only [ZC];exact Z00 _ _,rfl,rfl⟩ drp
theorem ZbU (x:Gp) (g bf:Nat) (fst cap:List Value) (p:Bool) (hg:cal Tryz.prog g=true) (H:Z6) (R:Z5) [hM:Mem1 bf (cel 245 [.func (.func g) fst.toArray cap.toArray]) H] (hp:∀ b,FnV Tryz.prog g (fst++[.agg (grow x).toArray]++cap) ((b,cel 97 (grow x))::H) R (.bool p)) :
    FnV Tryz.prog 207 [.agg (grow x).toArray,.pointer (some ⟨bf,0,none⟩)] H R (.bool !p):=by
 refine Zc Tryz.func207 rfl Tryz.ntmps207 rfl ?_
 refine sqt 2 rfl (bx rfl rfl rfl (fun b2=>pur 1 rfl (sqt 5 rfl (spL rfl rfl (lh ZpM rfl rfl) rfl (spL rfl rfl (lhA [_,_] ZeX rfl rfl rfl) rfl ?_)))))
 refine Z2c rfl rfl (hg) rfl rfl (hp _) ?_
 refine pur 2 rfl (Z4 ?_)
 exact rtA rfl rfl rfl ⟨rfl,rfl,rfl⟩ drp
theorem Z4V (xs:List Gp) (a:Option Addr) (c g:Nat) (fst cap:List Value) (p:Gp→Bool) (hg:cal Tryz.prog g=true) (hl:xs.length≤9223372036854775807) (H:Z6) (R:Z5) [hR:MemRows a 2 (grows xs) R] (hp:∀ b b2 x,x∈xs→FnV Tryz.prog g (fst++[.agg (grow x).toArray]++cap) ((b2,cel 97 (grow x))::(b,cel 245 [.func (.func g) fst.toArray cap.toArray])::H) R (.bool (p x))) :
    FnV Tryz.prog 122 [.slice a xs.length c,.func (.func g) fst.toArray cap.toArray] H R (.bool (xs.all p)):=by
 refine Zc Tryz.func122 rfl Tryz.ntmps122 rfl ?_
 refine sqt 2 rfl (bx rfl rfl rfl (fun b3=>pur 1 rfl (sqt 5 rfl (pur 1 rfl (sp rfl (PE.makeFunc rfl rfl) rfl ?_)))))
 refine clV rfl ZlM rfl rfl (Zc2 xs a c 207 [] [_] (fun x=>!p x) ZlN hl _ _ (hp:=fun x hx=>ZbU x g _ fst cap (p x) hg _ _ (hp:=fun b=>hp _ _ x hx))) ?_
 refine pur 2 rfl (Z4 ?_)
 exact rtA rfl rfl rfl ⟨by simp only [ZC];rw [Zu],rfl,rfl⟩ drp
theorem Zcg (xs:List Sgt) (a:Option Addr) (c g:Nat) (fst cap:List Value) (p:Sgt→Bool) (hg:cal Tryz.prog g=true) (hl:xs.length≤9223372036854775807) (H:Z6) (R:Z5) [hR:MemRows a 3 (srows xs) R] (hp:∀ x,x∈xs→FnV Tryz.prog g (fst++[.agg (Zbv x).toArray]++cap) H R (.bool (p x))) :
    FnV Tryz.prog 260 [.slice a xs.length c,.func (.func g) fst.toArray cap.toArray] H R (.int .i64 (match xs.findIdx? p with | some k=>(k:Int) | none => -1)):=by
 refine Zc Tryz.func260 rfl Tryz.ntmps260 rfl ?_
 refine sqt 1 rfl (pur 1 rfl (Z0 (sqt 3 rfl (pur 1 rfl (sp rfl (PE.lenSl Znh rfl) rfl (pur 1 rfl (Z2 ?_)))))))
 refine Zd (ι:={k:Nat // k≤xs.length∧∀ x∈xs.take k,p x=false}) (fun k=>⟨[(0,.slice a xs.length c),(1,.func (.func g) fst.toArray cap.toArray),(7,.int .i64 xs.length),(8,.int .i64 k.1)],H,R⟩) (fun k=>xs.length-k.1) ⟨0,by simp⟩ ?_ (fun k=>?_)
 exact Zf idH
 obtain ⟨k,hk,hn⟩:=k
 dsimp only
 refine sqt 1 rfl (pur 1 rfl (Z0 ?_))
 refine Z1 rfl ?_ ?_<;>intro hc0
 simp only [cS] at hc0
 obtain ⟨x,hx⟩:∃ x,xs[k]?=some x:=⟨_,List.getElem?_eq_getElem (by omega)⟩
 have hxm:=List.mem_of_getElem? hx
 refine Zj (a:=a) (sz:=3) (rows:=srows xs) (by cases xs<;>simp_all [srows]) (fun b off he=>?_)
 subst he
 refine Z3 (Z0 (Z2 (sqt 2 rfl (pur 2 rfl (sqt 6 rfl (pur 3 rfl (sp rfl (PE.indexAddr Zr3 rfl rfl (by omega) (by omega)) rfl (spL rfl rfl (lfA Zke (row:=Zbv x) (by simp [srows,hx]) rfl) rfl ?_))))))))
 refine Z2c rfl rfl (hg) rfl rfl (hp x hxm) ?_
 refine Z1 rfl ?_ ?_<;>intro hc1
 refine sqt 2 rfl (pur 2 rfl (Z4 ?_))
 first | (exact rtA rfl rfl rfl ⟨by rw [Zo hx hn hc1];rfl,rfl,rfl⟩ idH) | (exact rtA rfl rfl rfl ⟨by rw [Zm (by simpa using hn)];rfl,rfl,rfl⟩ idH)
 refine Z3 (sqr 2 rfl (sp rfl (PE.add rfl rfl (by omega)) rfl (pur 1 rfl ?_)))
 exact Zb ⟨k+1,by omega,ZB hx hn hc1⟩ idH
 simp only [cS] at hc0
 obtain rfl:k=xs.length:=by omega
 refine Z7 (Z8 (Z8 (Zi (sqt 1 rfl (pur 1 rfl (Z4 ?_))))))
 first | (exact rtA rfl rfl rfl ⟨by rw [Zo hx hn hc1];rfl,rfl,rfl⟩ idH) | (exact rtA rfl rfl rfl ⟨by rw [Zm (by simpa using hn)];rfl,rfl,rfl⟩ idH)
theorem Zc8 (xs:List Sgt) (a:Option Addr) (c g:Nat) (fst cap:List Value) (p:Sgt→Bool) (hg:cal Tryz.prog g=true) (hl:xs.length≤9223372036854775807) (H:Z6) (R:Z5) [hR:MemRows a 3 (srows xs) R] (hp:∀ x,x∈xs→FnV Tryz.prog g (fst++[.agg (Zbv x).toArray]++cap) H R (.bool (p x))) :
    FnV Tryz.prog 204 [.slice a xs.length c,.func (.func g) fst.toArray cap.toArray] H R (.bool (xs.any p)):=by
 refine Zc Tryz.func204 rfl Tryz.ntmps204 rfl ?_
 refine sqt 1 rfl (pur 1 rfl (sqt 5 rfl (pur 2 rfl ?_)))
 refine clV rfl Zmm rfl rfl (Zcg xs a c g fst cap p hg hl _ _ hp) ?_
 refine pur 2 rfl (Z4 ?_)
 exact rtA rfl rfl rfl ⟨by simp only [ZC];exact Z00 _ _,rfl,rfl⟩ drp
theorem Zc0 (x:Sgt) (g bf:Nat) (fst cap:List Value) (p:Bool) (hg:cal Tryz.prog g=true) (H:Z6) (R:Z5) [hM:Mem1 bf (cel 243 [.func (.func g) fst.toArray cap.toArray]) H] (hp:∀ b,FnV Tryz.prog g (fst++[.agg (Zbv x).toArray]++cap) ((b,cel 242 (Zbv x))::H) R (.bool p)) :
    FnV Tryz.prog 205 [.agg (Zbv x).toArray,.pointer (some ⟨bf,0,none⟩)] H R (.bool !p):=by
 refine Zc Tryz.func205 rfl Tryz.ntmps205 rfl ?_
 refine sqt 2 rfl (bx rfl rfl rfl (fun b2=>pur 1 rfl (sqt 5 rfl (spL rfl rfl (lh ZpL rfl rfl) rfl (spL rfl rfl (lhA [_,_,_] Zke rfl rfl rfl) rfl ?_)))))
 refine Z2c rfl rfl (hg) rfl rfl (hp _) ?_
 refine pur 2 rfl (Z4 ?_)
 exact rtA rfl rfl rfl ⟨rfl,rfl,rfl⟩ drp
theorem Z4Y (xs:List Sgt) (a:Option Addr) (c g:Nat) (fst cap:List Value) (p:Sgt→Bool) (hg:cal Tryz.prog g=true) (hl:xs.length≤9223372036854775807) (H:Z6) (R:Z5) [hR:MemRows a 3 (srows xs) R] (hp:∀ b b2 x,x∈xs→FnV Tryz.prog g (fst++[.agg (Zbv x).toArray]++cap) ((b2,cel 242 (Zbv x))::(b,cel 243 [.func (.func g) fst.toArray cap.toArray])::H) R (.bool (p x))) :
    FnV Tryz.prog 120 [.slice a xs.length c,.func (.func g) fst.toArray cap.toArray] H R (.bool (xs.all p)):=by
 refine Zc Tryz.func120 rfl Tryz.ntmps120 rfl ?_
 refine sqt 2 rfl (bx rfl rfl rfl (fun b3=>pur 1 rfl (sqt 5 rfl (pur 1 rfl (sp rfl (PE.makeFunc rfl rfl) rfl ?_)))))
 refine clV rfl ZlK rfl rfl (Zc8 xs a c 205 [] [_] (fun x=>!p x) ZlL hl _ _ (hp:=fun x hx=>Zc0 x g _ fst cap (p x) hg _ _ (hp:=fun b=>hp _ _ x hx))) ?_
 refine pur 2 rfl (Z4 ?_)
 exact rtA rfl rfl rfl ⟨by simp only [ZC];rw [Zu],rfl,rfl⟩ drp
theorem Z5K (h:Hse) (hb:1≤h.bins∧h.bins≤7) (sg ss:Value) (n:Int) (H:Z6) (R:Z5) :
    FnV Tryz.prog 63 [h.v sg ss,.int .i64 n] H R (.bool (inB n 0 (h.bins-1))):=by
 refine Zc Tryz.func63 rfl Tryz.ntmps63 rfl ?_
 refine sqt 2 rfl (bx rfl rfl rfl (fun b2=>pur 1 rfl (sqt 6 rfl (pur 1 rfl (sp rfl (PE.fA Zhk rfl) rfl (spL rfl rfl (lh sc3 rfl rfl) rfl (sp rfl (PE.sub rfl rfl (by omega)) rfl ?_)))))))
 refine clV rfl Z9I rfl rfl (Z3K _ _ _ _ _) ?_
 refine pur 1 rfl (Z4 ?_)
 exact rtA rfl rfl rfl ⟨rfl,rfl,rfl⟩ drp
theorem Z7F (x:Sgt) (H:Z6) (R:Z5) :
    FnV Tryz.prog 121 [.agg (Zbv x).toArray] H R (.bool (inB x.week 0 9)):=by
 refine Zc Tryz.func121 rfl Tryz.ntmps121 rfl ?_
 refine sqt 2 rfl (bx rfl rfl rfl (fun b1=>pur 1 rfl (sqt 4 rfl (sp rfl (PE.fA Zj0 rfl) rfl (spL rfl rfl (lh sc3 rfl rfl) rfl ?_)))))
 refine clV rfl Z9I rfl rfl (Z3K _ _ _ _ _) ?_
 refine pur 1 rfl (Z4 ?_)
 exact rtA rfl rfl rfl ⟨rfl,rfl,rfl⟩ drp
theorem Z7G (h:Hse) (hb:1≤h.bins∧h.bins≤7) (sg ss:Value) (bf:Nat) (x:Gp) (H:Z6) (R:Z5) [hM:Mem1 bf (cel 100 [.func (.func 63) #[h.v sg ss] #[]]) H] :
    FnV Tryz.prog 123 [.agg (grow x).toArray,.pointer (some ⟨bf,0,none⟩)] H R (.bool (inB x.a 0 (h.bins-1)&&inB x.b 0 (h.bins-1))):=by
 refine Zc Tryz.func123 rfl Tryz.ntmps123 rfl ?_
 refine sqt 2 rfl (bx rfl rfl rfl (fun b2=>pur 1 rfl (sqt 11 rfl (spL rfl rfl (lh Z1G rfl rfl) rfl (sp rfl (PE.fA Z1l rfl) rfl (spL rfl rfl (lh sc3 rfl rfl) rfl ?_))))))
 refine Z2c rfl rfl (Zft) rfl rfl (Z5K h hb sg ss _ _ _) ?_
 refine pur 1 rfl ?_
 refine Zq 8 rfl ?_ ?_<;>intro g8
 refine Z0e rfl rfl rfl rfl rfl (lh Z1G rfl rfl) rfl ?_
 refine spG rfl rfl rfl rfl (PE.fA Z1m rfl) rfl ?_
 refine Z0e rfl rfl rfl rfl rfl (lh sc3 rfl rfl) rfl ?_
 refine ZaZ rfl rfl rfl rfl rfl (Zft) rfl rfl (Z5K h hb sg ss _ _ _) ?_
 refine pur 2 rfl (Z4 ?_)
 exact rtA rfl rfl rfl ⟨by simp_all only [ZC,Bool.true_and,Bool.false_and,cond_true,cond_false],rfl,rfl⟩ drp
 refine pur 6 rfl (Z4 ?_)
 exact rtA rfl rfl rfl ⟨by simp_all only [ZC,Bool.true_and,Bool.false_and,cond_true,cond_false],rfl,rfl⟩ drp
theorem ZbR (h:Hse) (hb:1≤h.bins∧h.bins≤7) (sg ss:Value) (bf:Nat) (x:Sgt) (H:Z6) (R:Z5) [hM:Mem1 bf (cel 100 [.func (.func 63) #[h.v sg ss] #[]]) H] :
    FnV Tryz.prog 124 [.agg (Zbv x).toArray,.pointer (some ⟨bf,0,none⟩)] H R (.bool (inB x.bin 0 (h.bins-1))):=by
 refine Zc Tryz.func124 rfl Tryz.ntmps124 rfl ?_
 refine sqt 2 rfl (bx rfl rfl rfl (fun b2=>pur 1 rfl (sqt 5 rfl (spL rfl rfl (lh Z1G rfl rfl) rfl (sp rfl (PE.fA Zj1 rfl) rfl (spL rfl rfl (lh sc3 rfl rfl) rfl ?_))))))
 refine Z2c rfl rfl (Zft) rfl rfl (Z5K h hb sg ss _ _ _) ?_
 refine pur 1 rfl (Z4 ?_)
 exact rtA rfl rfl rfl ⟨rfl,rfl,rfl⟩ drp
theorem Zku (x:Gp) (H:Z6) (R:Z5) :
    FnV Tryz.prog 125 [.agg (grow x).toArray] H R (.bool (!decide (x=⟨x.b,x.a⟩))):=by
 refine Zc Tryz.func125 rfl Tryz.ntmps125 rfl ?_
 refine sqt 2 rfl (bx rfl rfl rfl (fun b1=>pur 1 rfl (sqt 8 rfl (spL rfl rfl (lhA (grow x) ZeX rfl rfl rfl) rfl (sp rfl (PE.fA Z1m rfl) rfl (spL rfl rfl (lh sc3 rfl rfl) rfl (sp rfl (PE.fA Z1l rfl) rfl (spL rfl rfl (lh sc3 rfl rfl) rfl (sp rfl (PE.build (out:=[_,_]) ZnB ZeI rfl rfl) rfl (sp rfl (PE.neqAgg [x.a,x.b] [x.b,x.a] (Z17 10000 97 true 2 Zps) Zpt rfl rfl rfl rfl) rfl (pur 1 rfl (Z4 ?_))))))))))))
 exact rtA rfl rfl rfl ⟨by simp only [ZC];cases x;simp [Gp.mk.injEq],rfl,rfl⟩ drp
theorem Z1K (h:Hse) (ag as_:Option Addr) (cg cs:Nat) (hlg:h.gaps.length≤9223372036854775807) (hls:h.sights.length≤9223372036854775807) (H:Z6) (R:Z5) [hG:MemRows ag 2 (grows h.gaps) R] [hS:MemRows as_ 3 (srows h.sights) R] :
    FnV Tryz.prog 61 [h.v (h.sg ag cg) (h.ss as_ cs)] H R (.int .i64 h.check):=by
 refine Zc Tryz.func61 rfl Tryz.ntmps61 rfl ?_
 refine sqt 2 rfl (bx rfl rfl rfl (fun b1=>pur 1 rfl (sqt 4 rfl (spL rfl rfl (lhA (htl h (h.sg ag cg) (h.ss as_ cs)) ZeP rfl rfl rfl) rfl (sp rfl (PE.makeFunc rfl rfl) rfl (alc rfl Zgw rfl (fun b3=>?_)))))))
 refine sto rfl rfl rfl Zfy rfl rfl rfl rfl ?_
 refine Z0 (Z2 (sqt 17 rfl (sp rfl (PE.fA Zhk rfl) rfl (spL rfl rfl (lh sc3 rfl rfl) rfl ?_))))
 refine clV rfl Z9I rfl rfl (Z3K _ _ _ _ _) ?_
 refine pur 2 rfl ?_
 refine Zq 11 rfl ?_ ?_<;>intro g11
 refine pur 12 rfl ?_
 refine ZK rfl ?_
 refine sqt 1 rfl (pur 1 rfl (Z4 ?_))
 exact rtA rfl rfl rfl ⟨congrArg (Value.int .i64) (by have e10:decide ((10:Int)<(h.gaps.length:Int))=decide (10<h.gaps.length):=decide_eq_decide.2 (by omega);have e8:decide ((8:Int)<(h.sights.length:Int))=decide (8<h.sights.length):=decide_eq_decide.2 (by omega);simp_all only [ZC,Hse.check,cond_true,cond_false,Bool.not_true,Bool.not_false,Bool.not_eq_true',Bool.not_eq_false',Bool.true_or,Bool.or_true,Bool.false_or,Bool.or_false]),rfl,rfl⟩ (fun w h=>by first | exact (h.del b3).del b1 | exact h.del b1)
 refine spG rfl rfl rfl rfl (PE.fA Z2m rfl) rfl ?_
 refine Z0e rfl rfl rfl rfl rfl (lh Zbu rfl rfl) rfl ?_
 refine spG rfl rfl rfl rfl (PE.lenSl Zba rfl) rfl ?_
 refine pur 3 rfl ?_
 refine Zq 17 rfl ?_ ?_<;>intro g17
 refine pur 6 rfl ?_
 refine ZK rfl ?_
 refine sqt 1 rfl (pur 1 rfl (Z4 ?_))
 exact rtA rfl rfl rfl ⟨congrArg (Value.int .i64) (by have e10:decide ((10:Int)<(h.gaps.length:Int))=decide (10<h.gaps.length):=decide_eq_decide.2 (by omega);have e8:decide ((8:Int)<(h.sights.length:Int))=decide (8<h.sights.length):=decide_eq_decide.2 (by omega);simp_all only [ZC,Hse.check,cond_true,cond_false,Bool.not_true,Bool.not_false,Bool.not_eq_true',Bool.not_eq_false',Bool.true_or,Bool.or_true,Bool.false_or,Bool.or_false]),rfl,rfl⟩ (fun w h=>by first | exact (h.del b3).del b1 | exact h.del b1)
 refine spG rfl rfl rfl rfl (PE.fA Zd8 rfl) rfl ?_
 refine Z0e rfl rfl rfl rfl rfl (lh ZpU rfl rfl) rfl ?_
 refine spG rfl rfl rfl rfl (PE.lenSl Znh rfl) rfl ?_
 refine pur 3 rfl ?_
 refine Z1 rfl ?_ ?_<;>intro hc0
 refine sqt 1 rfl (pur 1 rfl (Z4 ?_))
 exact rtA rfl rfl rfl ⟨congrArg (Value.int .i64) (by have e10:decide ((10:Int)<(h.gaps.length:Int))=decide (10<h.gaps.length):=decide_eq_decide.2 (by omega);have e8:decide ((8:Int)<(h.sights.length:Int))=decide (8<h.sights.length):=decide_eq_decide.2 (by omega);simp_all only [ZC,Hse.check,cond_true,cond_false,Bool.not_true,Bool.not_false,Bool.not_eq_true',Bool.not_eq_false',Bool.true_or,Bool.or_true,Bool.false_or,Bool.or_false]),rfl,rfl⟩ (fun w h=>by first | exact (h.del b3).del b1 | exact h.del b1)
 refine sqt 5 rfl (sp rfl (PE.fA Zd8 rfl) rfl (spL rfl rfl (lh ZpU rfl rfl) rfl ?_))
 refine clV rfl ZgN rfl rfl (Z4Y h.sights as_ cs 121 [] [] (fun s=>inB s.week 0 9) Zl0 hls _ _ (fun _ _ x _=>Z7F x _ _)) ?_
 refine pur 2 rfl ?_
 refine Z1 rfl ?_ ?_<;>intro hc1
 refine sqt 1 rfl (pur 1 rfl (Z4 ?_))
 exact rtA rfl rfl rfl ⟨congrArg (Value.int .i64) (by have e10:decide ((10:Int)<(h.gaps.length:Int))=decide (10<h.gaps.length):=decide_eq_decide.2 (by omega);have e8:decide ((8:Int)<(h.sights.length:Int))=decide (8<h.sights.length):=decide_eq_decide.2 (by omega);simp_all only [ZC,Hse.check,cond_true,cond_false,Bool.not_true,Bool.not_false,Bool.not_eq_true',Bool.not_eq_false',Bool.true_or,Bool.or_true,Bool.false_or,Bool.or_false]),rfl,rfl⟩ (fun w h=>by first | exact (h.del b3).del b1 | exact h.del b1)
 refine sqt 13 rfl ?_
 have hb7:1≤h.bins∧h.bins≤7:=by
   have h9:inB h.bins 1 7=true:=by simp_all
   simp only [inB,Bool.and_eq_true,decide_eq_true_eq] at h9;exact h9
 refine sp rfl (PE.fA Z2m rfl) rfl (spL rfl rfl (lh Zbu rfl rfl) rfl (sp rfl (PE.makeFunc rfl rfl) rfl ?_))
 refine clV rfl ZgO rfl rfl (Z4V h.gaps ag cg 123 [] [_] (fun g=>inB g.a 0 (h.bins-1)&&inB g.b 0 (h.bins-1)) Zl1 hlg _ _ (fun _ _ x _=>Z7G h hb7 (h.sg ag cg) (h.ss as_ cs) b3 x _ _)) ?_
 refine pur 2 rfl ?_
 refine Zq 34 rfl ?_ ?_<;>intro g34
 refine pur 7 rfl ?_
 refine ZK rfl ?_
 refine sqt 1 rfl (pur 1 rfl (Z4 ?_))
 exact rtA rfl rfl rfl ⟨congrArg (Value.int .i64) (by have e10:decide ((10:Int)<(h.gaps.length:Int))=decide (10<h.gaps.length):=decide_eq_decide.2 (by omega);have e8:decide ((8:Int)<(h.sights.length:Int))=decide (8<h.sights.length):=decide_eq_decide.2 (by omega);simp_all only [ZC,Hse.check,cond_true,cond_false,Bool.not_true,Bool.not_false,Bool.not_eq_true',Bool.not_eq_false',Bool.true_or,Bool.or_true,Bool.false_or,Bool.or_false]),rfl,rfl⟩ (fun w h=>by first | exact (h.del b3).del b1 | exact h.del b1)
 refine spG rfl rfl rfl rfl (PE.fA Zd8 rfl) rfl ?_
 refine Z0e rfl rfl rfl rfl rfl (lh ZpU rfl rfl) rfl ?_
 refine spG rfl rfl rfl rfl (PE.makeFunc rfl rfl) rfl ?_
 refine Z6x rfl rfl rfl rfl ZgN rfl rfl (Z4Y h.sights as_ cs 124 [] [_] (fun s=>inB s.bin 0 (h.bins-1)) Zl2 hls _ _ (fun _ _ x _=>ZbR h hb7 (h.sg ag cg) (h.ss as_ cs) b3 x _ _)) ?_
 refine pur 3 rfl ?_
 refine Z1 rfl ?_ ?_<;>intro hc2
 refine sqt 1 rfl (pur 1 rfl (Z4 ?_))
 exact rtA rfl rfl rfl ⟨congrArg (Value.int .i64) (by have e10:decide ((10:Int)<(h.gaps.length:Int))=decide (10<h.gaps.length):=decide_eq_decide.2 (by omega);have e8:decide ((8:Int)<(h.sights.length:Int))=decide (8<h.sights.length):=decide_eq_decide.2 (by omega);simp_all only [ZC,Hse.check,cond_true,cond_false,Bool.not_true,Bool.not_false,Bool.not_eq_true',Bool.not_eq_false',Bool.true_or,Bool.or_true,Bool.false_or,Bool.or_false]),rfl,rfl⟩ (fun w h=>by first | exact (h.del b3).del b1 | exact h.del b1)
 refine sqt 5 rfl (sp rfl (PE.fA Z2m rfl) rfl (spL rfl rfl (lh Zbu rfl rfl) rfl ?_))
 refine clV rfl ZgO rfl rfl (Z4V h.gaps ag cg 125 [] [] (fun g=>!decide (g=⟨g.b,g.a⟩)) Zl3 hlg _ _ (fun _ _ x _=>Zku x _ _)) ?_
 refine pur 2 rfl ?_
 refine Z1 rfl ?_ ?_<;>intro hc3
 refine sqt 1 rfl (pur 1 rfl (Z4 ?_))
 exact rtA rfl rfl rfl ⟨congrArg (Value.int .i64) (by have e10:decide ((10:Int)<(h.gaps.length:Int))=decide (10<h.gaps.length):=decide_eq_decide.2 (by omega);have e8:decide ((8:Int)<(h.sights.length:Int))=decide (8<h.sights.length):=decide_eq_decide.2 (by omega);simp_all only [ZC,Hse.check,cond_true,cond_false,Bool.not_true,Bool.not_false,Bool.not_eq_true',Bool.not_eq_false',Bool.true_or,Bool.or_true,Bool.false_or,Bool.or_false]),rfl,rfl⟩ (fun w h=>by first | exact (h.del b3).del b1 | exact h.del b1)
 refine Z3 (sqt 1 rfl (pur 1 rfl (Z4 ?_)))
 exact rtA rfl rfl rfl ⟨congrArg (Value.int .i64) (by have e10:decide ((10:Int)<(h.gaps.length:Int))=decide (10<h.gaps.length):=decide_eq_decide.2 (by omega);have e8:decide ((8:Int)<(h.sights.length:Int))=decide (8<h.sights.length):=decide_eq_decide.2 (by omega);simp_all only [ZC,Hse.check,cond_true,cond_false,Bool.not_true,Bool.not_false,Bool.not_eq_true',Bool.not_eq_false',Bool.true_or,Bool.or_true,Bool.false_or,Bool.or_false]),rfl,rfl⟩ (fun w h=>by first | exact (h.del b3).del b1 | exact h.del b1)
theorem ir_get {l:List Int} {k:Nat} {x:Int} (h:l[k]?=some x):(irows l)[k]?=some [.int .i64 x]:=by simp [h]
theorem Zdk (l:List Int):(irows l).length=l.length:=List.length_map _
theorem Z8K (xs:List Int) (a:Option Addr) (c:Nat) (v:Int) (hl:xs.length≤9223372036854775807) (H:Z6) (R:Z5) [hR:MemRows a 1 (irows xs) R] :
    FnV Tryz.prog 45 [.slice a xs.length c,.int .i64 v] H R (.int .i64 (match xs.findIdx? (fun x=>decide (v=x)) with | some k=>(k:Int) | none => -1)):=by
 refine Zc Tryz.func45 rfl Tryz.ntmps45 rfl ?_
 refine sqt 1 rfl (pur 1 rfl (Z0 (sqt 3 rfl (pur 1 rfl (sp rfl (PE.lenSl ZO rfl) rfl (pur 1 rfl (Z2 ?_)))))))
 refine Zd (ι:={k:Nat // k≤xs.length∧∀ x∈xs.take k,decide (v=x)=false}) (fun k=>⟨[(0,.slice a xs.length c),(1,.int .i64 v),(7,.int .i64 xs.length),(8,.int .i64 k.1)],H,R⟩) (fun k=>xs.length-k.1) ⟨0,by simp⟩ ?_ (fun k=>?_)
 exact Zf idH
 obtain ⟨k,hk,hn⟩:=k
 dsimp only
 refine sqt 1 rfl (pur 1 rfl (Z0 ?_))
 refine Z1 rfl ?_ ?_<;>intro hc0<;>try simp only [cS] at hc0
 obtain ⟨x,hx⟩:∃ x,xs[k]?=some x:=⟨_,List.getElem?_eq_getElem (by omega)⟩
 refine Zj (a:=a) (sz:=1) (rows:=irows xs) (by cases xs<;>simp_all) (fun b off he=>?_)
 subst he
 refine Z3 (Z0 (Z2 (sqt 2 rfl (pur 2 rfl (sqt 6 rfl (pur 3 rfl (sp rfl (PE.indexAddr Z0D rfl rfl (by omega) (by omega)) rfl (spL rfl rfl (lf0 sc3 (ir_get hx) rfl) rfl (pur 1 rfl ?_)))))))))
 refine Z1 rfl ?_ ?_<;>intro hc1
 refine sqt 2 rfl (pur 2 rfl (Z4 ?_))
 first | (exact rtA rfl rfl rfl ⟨by rw [Zo hx hn hc1];rfl,rfl,rfl⟩ idH) | (exact rtA rfl rfl rfl ⟨by rw [Zm (by simpa using hn)];rfl,rfl,rfl⟩ idH)
 refine Z3 (sqr 2 rfl (sp rfl (PE.add rfl rfl (by omega)) rfl (pur 1 rfl ?_)))
 exact Zb ⟨k+1,by omega,ZB hx hn hc1⟩ idH
 obtain rfl:k=xs.length:=by omega
 refine Z7 (Z8 (Z8 (Zi (sqt 1 rfl (pur 1 rfl (Z4 ?_))))))
 first | (exact rtA rfl rfl rfl ⟨by rw [Zo hx hn hc1];rfl,rfl,rfl⟩ idH) | (exact rtA rfl rfl rfl ⟨by rw [Zm (by simpa using hn)];rfl,rfl,rfl⟩ idH)
theorem Z1t (xs:List Int) (a:Option Addr) (c:Nat) (v:Int) (hl:xs.length≤9223372036854775807) (H:Z6) (R:Z5) [hR:MemRows a 1 (irows xs) R] :
    FnV Tryz.prog 13 [.slice a xs.length c,.int .i64 v] H R (.bool (xs.any fun x=>decide (v=x))):=by
 refine Zc Tryz.func13 rfl Tryz.ntmps13 rfl ?_
 refine sqt 1 rfl (pur 1 rfl (sqt 5 rfl (pur 2 rfl ?_)))
 refine clV rfl ZoW rfl rfl (Z8K xs a c v hl _ _) ?_
 refine pur 2 rfl (Z4 ?_)
 exact rtA rfl rfl rfl ⟨by simp only [ZC];exact Z00 _ _,rfl,rfl⟩ drp
def Znk (p:Int→Bool) (l:List Int):Int:=bif !(l.all p) then 1 else bif (List.range l.length).any (Zb2 l) then 5 else 0
theorem ZmX {l:List Int} {k:Nat} (h:∀ i<k,Zb2 l i=false) (hk:k=l.length):(List.range l.length).any (Zb2 l)=false:=by
 rw [List.any_eq_false];intro i hi;rw [h i (by have:=List.mem_range.1 hi;omega)];simp
theorem ZiK {l:List Int} {k:Nat} (hk:k<l.length) (h:Zb2 l k=true):(List.range l.length).any (Zb2 l)=true:=List.any_eq_true.2 ⟨k,List.mem_range.2 hk,h⟩
theorem Zb9 (l:List Int) (k:Nat):(irows l).take k=irows (l.take k):=(List.map_take).symm
theorem Z8G (xs:List Int) (n:Nat) (hn:xs.length=n) (a:Option Addr) (c:Nat) (v:Int) (hl:xs.length≤9223372036854775807) (H:Z6) (R:Z5) [hR:MemRows a 1 (irows xs) R]:FnV Tryz.prog 13 [.slice a n c,.int .i64 v] H R (.bool (Z6S xs v)):=by subst hn;exact Z1t xs a c v hl H R
set_option maxHeartbeats 400000 in
theorem Zfg (l:List Int) (a:Option Addr) (c g:Nat) (fst cap:List Value) (p:Int→Bool) (hg:cal Tryz.prog g=true) (hl:l.length≤9223372036854775807) (hlc:l.length≤c) (H:Z6) (R:Z5) [hR:MemRows a 1 (irows l) R] (hp:∀ b x,x∈l→FnV Tryz.prog g (fst++[.int .i64 x]++cap) ((b,cel 100 [.func (.func g) fst.toArray cap.toArray])::H) R (.bool (p x))) :
    FnV Tryz.prog 62 [.slice a l.length c,.func (.func g) fst.toArray cap.toArray] H R (.int .i64 (Znk p l)):=by
 refine Zc Tryz.func62 rfl Tryz.ntmps62 rfl ?_
 refine sqt 1 rfl (pur 1 rfl (Z0 (sqt 4 rfl (pur 2 rfl ?_))))
 refine clV rfl Zl4 rfl rfl (Z09 l a c g fst cap p hg hl _ _ hp) ?_
 refine pur 1 rfl ?_
 refine Z1 rfl ?_ ?_<;>intro hc0<;>try simp only [cS] at hc0
 refine sqt 1 rfl (pur 1 rfl (Z4 ?_))
 exact rtA rfl rfl rfl ⟨by simp only [ZC];unfold Znk;rw [hc0];rfl,rfl,rfl⟩ drp
 have hall:l.all p=true:=by simpa using hc0
 refine Z3 (Z0 (sqt 3 rfl (pur 1 rfl (sp rfl (PE.lenSl ZO rfl) rfl (pur 1 rfl (Z2 ?_))))))
 refine Zd (ι:={k:Nat // k≤l.length∧∀ i<k,Zb2 l i=false}) (fun k=>⟨[(0,.slice a l.length c),(11,.slice a l.length c),(12,.int .i64 l.length),(13,.int .i64 k.1)],H,R⟩) (fun k=>l.length-k.1) ⟨0,Nat.zero_le _,fun i hi=>absurd hi (Nat.not_lt_zero _)⟩ ?_ (fun k=>?_)
 exact Zf idH
 obtain ⟨k,hk,hd⟩:=k
 dsimp only at hk hd ⊢
 refine sqt 1 rfl (pur 1 rfl (Z0 ?_))
 refine Z1 rfl ?_ ?_<;>intro hc1<;>try simp only [cS] at hc1
 obtain ⟨x,hx⟩:∃ x,l[k]?=some x:=⟨_,List.getElem?_eq_getElem (by omega)⟩
 refine Zj (a:=a) (sz:=1) (rows:=irows l) (ne0 (by rw [Zdk];omega)) (fun ba oa he=>?_)
 subst he
 refine Z3 (Z0 (Z2 (sqt 5 rfl (pur 1 rfl (sp rfl (PE.indexAddr Z0D rfl rfl (by omega) (by omega)) rfl (spL rfl rfl (lf0 sc3 (ir_get hx) rfl) rfl (pur 2 rfl (sqt 5 rfl (pur 2 rfl (sp rfl (PE.slHi (h:=k) Z1H rfl rfl (by omega)) rfl ?_))))))))))
 refine Sy.heap (fun w h=>(Zb9 l k▸St.rowsTake (a:=some ⟨ba,oa,none⟩) (sz:=1) (rows:=irows l) h k)) ?_
 refine pur 1 rfl ?_
 refine clV rfl Zis rfl rfl (Z8G (l.take k) k (by rw [List.length_take];omega) (some ⟨ba,oa,none⟩) c x (by rw [List.length_take];omega) _ _) ?_
 refine Z1 rfl ?_ ?_<;>intro hc2<;>try simp only [cS] at hc2
 have hdk:Zb2 l k=true:=by unfold Zb2;rw [Z94 hx];exact hc2
 refine sqt 1 rfl (pur 1 rfl (Z4 ?_))
 exact rtA rfl rfl rfl ⟨by simp only [ZC];unfold Znk;rw [hall,ZiK (by omega) hdk];rfl,rfl,rfl⟩ drp
 have hd2:∀ i<k+1,Zb2 l i=false:=fun i hi=>by
   rcases Nat.lt_or_ge i k with h1 | h1
   · exact hd i h1
   · obtain rfl:i=k:=by omega
     unfold Zb2;rw [Z94 hx];exact hc2
 refine Z3 (sqr 2 rfl (sp rfl (PE.add rfl rfl (by omega)) rfl (pur 1 rfl ?_)))
 exact Zb ⟨k+1,by omega,hd2⟩ (fun w h=>h.ftail)
 obtain rfl:k=l.length:=by omega
 refine Z7 (Z8 (Z8 (Zi (sqt 1 rfl (pur 1 rfl (Z4 ?_))))))
 exact rtA rfl rfl rfl ⟨by simp only [ZC];unfold Znk;rw [hall,ZmX hd rfl];rfl,rfl,rfl⟩ drp
theorem Zl5:cal Tryz.prog 127=true:=by kernel_rfl
theorem Zl6:cal Tryz.prog 128=true:=by kernel_rfl
theorem ZlP:cal Tryz.prog 209=true:=by kernel_rfl
theorem cn3:Zz Tryz.prog 3=some 1:=by kernel_rfl
theorem ZmT:Zz Tryz.prog 97=some 2:=by kernel_rfl
theorem Z2i:ZG Tryz.prog 247 0=some 0:=by kernel_rfl
theorem ZcW:ZG Tryz.prog 247 1=some 3:=by kernel_rfl
theorem ZpE:ZD Tryz.prog 247=some [(0,3),(3,1)]:=by kernel_rfl
theorem Z7c:Z0c Tryz.prog 173=true:=by kernel_rfl
theorem Zqa:Zp Tryz.prog 247=some ([.int .i64 0,.slice none 0 0,.slice none 0 0,.nilFunc]):=by kernel_rfl
theorem zl3:Zp Tryz.prog 3=some ([.int .i64 0]):=by kernel_rfl
structure Dk where
 h:Hse
 ag:Option Addr
 as_:Option Addr
 cg:Nat
 cs:Nat
 bd:Nat
 fo:Nat
 fst:List Value
 cap:List Value
 cl:Nat
 R0:Z5
def Dk.row (d:Dk):List Value:=[.int .i64 d.h.bins,d.h.sg d.ag d.cg,d.h.ss d.as_ d.cs,.func (.func d.fo) d.fst.toArray d.cap.toArray]
structure Dk.Ok (d:Dk):Prop where
 ok:d.h.ok
 cal:cal Tryz.prog d.fo=true
 op:∀ (i:Nat) (H:Z6) (R:Z5),i<d.h.gaps.length→(∀ g∈d.R0,g∈R)→FnV Tryz.prog d.fo (d.fst++[.int .i64 ((i:Nat):Int)]++d.cap) H R (.bool (!d.cl.testBit i))
structure RchI (gs:List Gp) (cl m:Nat) (w:List Int):Prop where
 len:w.length=7
 at_:∀ k<7,wk gs cl m k≤na w k∧na w k≤far∧(m.testBit k=true→na w k≤0)
theorem Z0w {l:List Int} {i j:Nat} {v:Int} (h:i<l.length):na (l.set i v) j=bif decide (i=j) then v else na l j:=by
 unfold na
 rw [List.getD_eq_getElem?_getD,List.getD_eq_getElem?_getD,List.getElem?_set]
 by_cases e:i=j
 · subst e;rw [if_pos rfl,if_pos h];simp
 · rw [if_neg e,decide_eq_false e];rfl
theorem Zej {w:List Int} {i k:Nat} {v:Int} (hk:k<w.length) (e:i=k):spl (Ze w) i [.int .i64 v]=Ze (w.set k v):=by
 subst e
 unfold spl Ze
 apply List.ext_getElem?
 intro j
 rw [List.getElem?_map,List.getElem?_set]
 simp only [List.length_singleton]
 rcases Nat.lt_trichotomy j i with h | h | h
 · rw [List.getElem?_append_left (by simp;omega),List.getElem?_append_left (by simp;omega),List.getElem?_take,if_pos h,if_neg (by omega),List.getElem?_map]
 · subst h
   rw [List.getElem?_append_left (by simp;omega),List.getElem?_append_right (by simp;omega),if_pos rfl,if_pos hk]
   simp [show min j w.length=j by omega]
 · rw [List.getElem?_append_right (by simp;omega),if_neg (by omega),List.getElem?_drop,List.getElem?_map]
   congr 2
   simp;omega
def Rlx (gs:List Gp) (cl:Nat) (w0 w:List Int) (k i:Nat):Prop:=(∀ j<7,na w j≤na w0 j)∧(∀ u v,u<k→u<7→v<7→Adj gs cl u v→na w v≤na w0 u+1)∧∀ (q:Nat) (g:Gp) (v:Nat),q<i→gs[q]?=some g→cl.testBit q=false→v<7→((g.a.toNat=k∧g.b.toNat=v)∨(g.b.toNat=k∧g.a.toNat=v))→na w v≤na w0 k+1
theorem Rlx.start (gs:List Gp) (cl:Nat) (w:List Int):Rlx gs cl w w 0 0:=⟨fun _ _=>Int.le_refl _,fun u _ h=>absurd h (Nat.not_lt_zero _),fun q _ _ h=>absurd h (Nat.not_lt_zero _)⟩
theorem Rlx.bin {gs:List Gp} {cl:Nat} {w0 w:List Int} {k:Nat} (h:Rlx gs cl w0 w k gs.length):Rlx gs cl w0 w (k+1) 0:=by
 refine ⟨h.1,fun u v hu hu7 hv ha=>?_,fun q _ _ h=>absurd h (Nat.not_lt_zero _)⟩
 rcases Nat.lt_or_ge u k with h1 | h1
 · exact h.2.1 u v h1 hu7 hv ha
 · obtain rfl:u=k:=by omega
   obtain ⟨q,g,h2,h3,h4⟩:=ha
   exact h.2.2 q g v (List.getElem?_eq_some_iff.1 h2).1 h2 h3 hv h4
theorem Rlx.skip {gs:List Gp} {cl:Nat} {w0 w:List Int} {k i:Nat} (h:Rlx gs cl w0 w k i) {g:Gp} (hg:gs[i]?=some g) (hn:cl.testBit i=true∨(g.a.toNat≠k∧g.b.toNat≠k)):Rlx gs cl w0 w k (i+1):=by
 refine ⟨h.1,h.2.1,fun q g' v hq hg' ho hv he=>?_⟩
 rcases Nat.lt_or_ge q i with h1 | h1
 · exact h.2.2 q g' v h1 hg' ho hv he
 · obtain rfl:q=i:=by omega
   rw [hg] at hg'
   obtain rfl:=Option.some.inj hg'
   rcases hn with h2 | h2
   · rw [ho] at h2;cases h2
   · omega
theorem Rlx.step {gs:List Gp} {cl:Nat} {w0 w w':List Int} {k i:Nat} (h:Rlx gs cl w0 w k i) {g:Gp} (hg:gs[i]?=some g) {v:Nat} (hv:∀ v',((g.a.toNat=k∧g.b.toNat=v')∨(g.b.toNat=k∧g.a.toNat=v'))→v'=v) (hle:∀ j<7,na w' j≤na w j) (hk:k<7) (hs:na w' v≤na w k+1):Rlx gs cl w0 w' k (i+1):=by
 refine ⟨fun j hj=>Int.le_trans (hle j hj) (h.1 j hj),fun u v hu hu7 hv' ha=>Int.le_trans (hle v hv') (h.2.1 u v hu hu7 hv' ha),fun q g' v' hq hg' ho hv' he=>?_⟩
 rcases Nat.lt_or_ge q i with h1 | h1
 · exact Int.le_trans (hle v' hv') (h.2.2 q g' v' h1 hg' ho hv' he)
 · obtain rfl:q=i:=by omega
   rw [hg] at hg'
   obtain rfl:=Option.some.inj hg'
   obtain rfl:=hv v' he
   have:=h.1 k hk
   omega
theorem Rlx.done {gs:List Gp} {cl m:Nat} {w:List Int} {n:Nat} (hn:Wth gs n) (hw:Wth gs 7) (hm:m<2 ^ 7) (hr:RchI gs cl m w) (h:Rlx gs cl w w n 0):w=wks gs cl m:=by
 have h1:=ZeF (gs:=gs) (cl:=cl) (m:=m) (w:=na w) (fun k hk=>(hr.at_ k hk).1) (fun k hk hb=>(hr.at_ k hk).2.2 hb) (fun u v hu hv ha=>h.2.1 u v (ha.lt hn).1 hu hv ha) (fun k hk=>(hr.at_ k hk).2.1) hw hm
 apply List.ext_getElem?
 intro k
 rcases Nat.lt_or_ge k 7 with hk | hk
 · rw [Z0v (by rw [hr.len];exact hk),Z0v (by rw [ZeG];exact hk),ZjP hk,h1 k hk]
 · rw [List.getElem?_eq_none (by rw [hr.len];exact hk),List.getElem?_eq_none (by rw [ZeG];exact hk)]
abbrev dkA (h:Hse) (ag as_:Option Addr) (cg cs:Nat) (bd:Nat):Dk:=⟨h,ag,as_,cg,cs,bd,127,[],[],0,[]⟩
theorem ZbP (n:Int) (H:Z6) (R:Z5) :
    FnV Tryz.prog 127 [.int .i64 n] H R (.bool true):=by
 refine Zc Tryz.func127 rfl Tryz.ntmps127 rfl ?_
 refine sqt 1 rfl (pur 1 rfl (sqt 1 rfl (pur 1 rfl (Z4 ?_))))
 exact rtA rfl rfl rfl ⟨rfl,rfl,rfl⟩ drp
theorem Z5W (h:Hse) (ag as_:Option Addr) (cg cs:Nat) (hok:h.ok) (bd:Nat):(dkA h ag as_ cg cs bd).Ok:=⟨hok,Zl5,fun i H R _ _=>by
 have e:(!(dkA h ag as_ cg cs bd).cl.testBit i)=true:=by show (!(Nat.testBit 0 i))=true;rw [Nat.zero_testBit];rfl
 rw [e];exact ZbP _ H R⟩
theorem Zfa (h:Hse) (ag as_:Option Addr) (cg cs:Nat) (H:Z6) (R:Z5) :
    Fn Tryz.prog 64 [h.v (h.sg ag cg) (h.ss as_ cs)] H R (fun v H' R'=>∃ bd,v = .pointer (some ⟨bd,0,none⟩)∧H'=H∧R'=RowsA (some ⟨bd,0,none⟩) 4 [(dkA h ag as_ cg cs bd).row]::R):=by
 refine Zc Tryz.func64 rfl Tryz.ntmps64 rfl ?_
 refine sqt 2 rfl (bx rfl rfl rfl (fun b1=>pur 1 rfl (sqt 4 rfl (spL rfl rfl (lhA (htl h (h.sg ag cg) (h.ss as_ cs)) ZeP rfl rfl rfl) rfl (sp rfl (PE.build (out:=[_,_,_,_]) ZpE Zqa rfl rfl) rfl (bx rfl rfl rfl (fun b5=>pur 1 rfl (Z4 ?_))))))))
 refine Sy.heap (fun w h9=>St.rows (sz:=4) (rows:=[(dkA h ag as_ cg cs b5).row]) (rest:=[]) (h9.pull b5) (by simp [Dk.row])) ?_
 exact rtA rfl rfl rfl ⟨b5,rfl,rfl,rfl⟩ (fun w h9=>h9.del b1)
theorem ZoI (bd:Nat) (n:Int) (H:Z6) (R:Z5) :
    Fn Tryz.prog 128 [.pointer (some ⟨bd,0,none⟩),.int .i64 n] H R (fun v H' R'=>∃ xd xb,v = .func (.func 209) #[] #[.pointer (some ⟨xd,0,none⟩),.pointer (some ⟨xb,0,none⟩)]∧H'=H∧R'=RowsA (some ⟨xb,0,none⟩) 1 [[.int .i64 n]]::RowsA (some ⟨xd,0,none⟩) 1 [[.pointer (some ⟨bd,0,none⟩)]]::R):=by
 refine Zc Tryz.func128 rfl Tryz.ntmps128 rfl ?_
 refine sqt 3 rfl (bx rfl rfl rfl (fun b2=>bx rfl rfl rfl (fun b3=>pur 1 rfl (sqt 2 rfl (sp rfl (PE.makeFunc rfl rfl) rfl (pur 1 rfl (Z4 ?_)))))))
 refine Sy.heap (fun w h9=>St.rows (sz:=1) (rows:=[[.pointer (some ⟨bd,0,none⟩)]]) (rest:=[]) (h9.pull b2) (by simp)) ?_
 refine Sy.heap (fun w h9=>St.rows (sz:=1) (rows:=[[.int .i64 n]]) (rest:=[]) (h9.pull b3) (by simp)) ?_
 exact rtA rfl rfl rfl ⟨b2,b3,rfl,rfl,rfl⟩ idH
set_option maxHeartbeats 400000 in
theorem ZkG (d:Dk) (hd:d.Ok) (n:Int) (hn:0≤n∧n<7) (xd xb lp:Nat) (I:Nat→Z6→Z5→Prop) (E:Z6→Z5→Prop) (hI:∀ k H R,I k H R→RowsA (some ⟨d.bd,0,none⟩) 4 [d.row]∈R∧RowsA d.ag 2 (grows d.h.gaps)∈R∧RowsA (some ⟨xd,0,none⟩) 1 [[.pointer (some ⟨d.bd,0,none⟩)]]∈R∧RowsA (some ⟨xb,0,none⟩) 1 [[.int .i64 n]]∈R∧∀ g∈d.R0,g∈R)
    (hsk:∀ k g H R,d.h.gaps[k]?=some g→(d.cl.testBit k=true∨(g.a≠n∧g.b≠n))→I k H R→I (k+1) H R)
    (hy:∀ k g q o H R,d.h.gaps[k]?=some g→d.cl.testBit k=false→(g.a=n∨g.b=n)→I k H R→Yd Tryz.prog lp [.int .i64 k,.int .i64 (g.a+g.b-n)] ((q,o)::H) R (fun v H' R'=>(v = .bool true∧∃ H2,H'=(q,o)::H2∧I (k+1) H2 R')∨(v = .bool false∧∃ H2,H'=(q,o)::H2∧E H2 R'))) (H:Z6) (R:Z5) (h0:I 0 H R) :
    Fn Tryz.prog 209 [yv lp,.pointer (some ⟨xd,0,none⟩),.pointer (some ⟨xb,0,none⟩)] H R (fun _ H' R'=>I d.h.gaps.length H' R'∨E H' R'):=by
 obtain ⟨h,ag,as_,cg,cs,bd,fo,fst,cap,cl,R0⟩:=d
 obtain ⟨hok,hcal,hop⟩:=hd
 dsimp only at *
 have hgl:=hok.gl
 obtain ⟨hF1,hF2,hF3,hF4,hF5⟩:=hI _ _ _ h0
 haveI:MemRows (some ⟨bd,0,none⟩) 4 [(Dk.mk h ag as_ cg cs bd fo fst cap cl R0).row] R:=⟨hF1⟩
 haveI:MemRows ag 2 (grows h.gaps) R:=⟨hF2⟩
 haveI:MemRows (some ⟨xd,0,none⟩) 1 [[.pointer (some ⟨bd,0,none⟩)]] R:=⟨hF3⟩
 haveI:MemRows (some ⟨xb,0,none⟩) 1 [[.int .i64 n]] R:=⟨hF4⟩
 refine Zc Tryz.func209 rfl Tryz.ntmps209 rfl ?_
 refine sqt 7 rfl (spL rfl rfl (lfB (sz:=1) Z7c rfl) rfl (sp rfl (PE.nilCheck rfl) rfl (sp rfl (PE.fA Z2i rfl) rfl (sp rfl (PE.fA Z2m rfl) rfl (spL rfl rfl (lfB (sz:=4) Zbu rfl) rfl (sp rfl (PE.lenSl Zba rfl) rfl (pur 1 rfl (Z2 ?_))))))))
 refine Zd (ι:={x:Nat×Z6×Z5 // x.1≤h.gaps.length∧I x.1 x.2.1 x.2.2}) (fun x=>⟨[(0,yv lp),(1,.pointer (some ⟨xd,0,none⟩)),(2,.pointer (some ⟨xb,0,none⟩)),(10,.slice ag h.gaps.length cg),(11,.int .i64 h.gaps.length),(12,.int .i64 x.1.1)],x.1.2.1,x.1.2.2⟩) (fun x=>h.gaps.length-x.1.1) ⟨(0,H,R),Nat.zero_le _,h0⟩ ?_ (fun x=>?_)
 exact Zf idH
 obtain ⟨⟨k,H0,Q0⟩,hk,hI0⟩:=x
 dsimp only at hk hI0 ⊢
 obtain ⟨hF1,hF2,hF3,hF4,hF5⟩:=hI _ _ _ hI0
 haveI:MemRows (some ⟨bd,0,none⟩) 4 [(Dk.mk h ag as_ cg cs bd fo fst cap cl R0).row] Q0:=⟨hF1⟩
 haveI:MemRows ag 2 (grows h.gaps) Q0:=⟨hF2⟩
 haveI:MemRows (some ⟨xd,0,none⟩) 1 [[.pointer (some ⟨bd,0,none⟩)]] Q0:=⟨hF3⟩
 haveI:MemRows (some ⟨xb,0,none⟩) 1 [[.int .i64 n]] Q0:=⟨hF4⟩
 refine sqt 1 rfl (pur 1 rfl (Z0 ?_))
 refine Z1 rfl ?_ ?_<;>intro hc0<;>try simp only [cS] at hc0
 obtain ⟨g,hg⟩:∃ g,h.gaps[k]?=some g:=⟨_,List.getElem?_eq_getElem (by omega)⟩
 have hgo:=hok.gaps g (List.mem_of_getElem? hg)
 have hbn:=hok.bins
 refine Zj (a:=ag) (sz:=2) (rows:=grows h.gaps) (ne0 (by rw [Z5h];omega)) (fun bg og he=>?_)
 subst he
 refine Z3 (Z0 (Z2 (sqt 6 rfl (pur 1 rfl (sp rfl (PE.indexAddr ZfH rfl rfl (by omega) (by omega)) rfl (spL rfl rfl (lfA ZeX (row:=grow g) (Z25 hg) rfl) rfl (alc rfl ZeI rfl (fun b5=>pur 1 rfl ?_))))))))
 refine Zy (l':=grow g) rfl rfl rfl ZmT rfl rfl rfl rfl (nl rfl) ?_
 refine Z0 (sqt 19 rfl (spL rfl rfl (lfB (sz:=1) Z7c rfl) rfl (sp rfl (PE.nilCheck rfl) rfl (sp rfl (PE.fA ZcW rfl) rfl (spL rfl rfl (lfB (sz:=4) Z1G rfl) rfl (pur 1 rfl ?_))))))
 refine Z2c rfl rfl (hcal) rfl rfl (hop k _ _ (by omega) hF5) ?_
 refine pur 2 rfl ?_
 refine Zq 24 rfl ?_ ?_<;>intro g24
 refine pur 5 rfl ?_
 repeat refine spU rfl rfl rfl rfl rfl rfl rfl ?_
 refine pur 2 rfl ?_
 refine ZK rfl ?_
 refine Z7 (Z8 (Zi (sqr 2 rfl (sp rfl (PE.add rfl rfl (by omega)) rfl (pur 1 rfl ?_)))))
 exact Zb ⟨(k+1,H0,Q0),by dsimp only;omega,hsk k g _ _ hg (.inl (by simpa using g24)) hI0⟩ (fun w h9=>h9.tail)
 have hop0:cl.testBit k=false:=by simpa using g24
 refine spG rfl rfl rfl rfl (PE.fA Z1l rfl) rfl ?_
 refine Z0e rfl rfl rfl rfl rfl (lh sc3 rfl rfl) rfl (Z0e rfl rfl rfl rfl rfl (lfB (sz:=1) sc3 rfl) rfl (pur 2 rfl ?_))
 refine Zq 29 rfl ?_ ?_<;>intro g29
 try simp only [cS] at g29
 refine spG rfl rfl rfl rfl (PE.fA Z1m rfl) rfl ?_
 refine Z0e rfl rfl rfl rfl rfl (lh sc3 rfl rfl) rfl (Z0e rfl rfl rfl rfl rfl (lfB (sz:=1) sc3 rfl) rfl (pur 3 rfl ?_))
 refine Z1 rfl ?_ ?_<;>intro hc1<;>try simp only [cS] at hc1
 refine Z7 (Z8 (Zi (sqr 2 rfl (sp rfl (PE.add rfl rfl (by omega)) rfl (pur 1 rfl ?_)))))
 exact Zb ⟨(k+1,H0,Q0),by dsimp only;omega,hsk k g _ _ hg (.inr ⟨g29,hc1⟩) hI0⟩ (fun w h9=>h9.tail)
 have hinc:g.a=n∨g.b=n:=.inr (by omega)
 refine Z3 (sqt 11 rfl (pur 2 rfl (sp rfl (PE.fA Z1l rfl) rfl (spL rfl rfl (lh sc3 rfl rfl) rfl (sp rfl (PE.fA Z1m rfl) rfl (spL rfl rfl (lh sc3 rfl rfl) rfl (sp rfl (PE.add rfl rfl (by omega)) rfl (spL rfl rfl (lfB (sz:=1) sc3 rfl) rfl (sp rfl (PE.sub rfl rfl (by omega)) rfl ?_)))))))))
 refine clY rfl rfl rfl rfl (hy k g b5 _ _ _ hg hop0 hinc hI0) ?_
 rintro v H3 R3 (⟨rfl,H2,rfl,hI3⟩ | ⟨rfl,H2,rfl,hE3⟩)
 refine pur 1 rfl ?_
 refine Zt rfl ?_
 refine Z3 (sqr 2 rfl (sp rfl (PE.add rfl rfl (by omega)) rfl (pur 1 rfl ?_)))
 exact Zb ⟨(k+1,H2,R3),by dsimp only;omega,hI3⟩ (fun w h9=>h9.tail)
 refine pur 1 rfl ?_
 refine ZK rfl ?_
 refine Z4 ?_
 exact Z9 (vs:=[]) rfl .nil rfl (.inr hE3) (fun _ h=>h.tail)
 try simp only [cS] at g29
 have hinc:g.a=n∨g.b=n:=.inl (by omega)
 refine pur 6 rfl ?_
 refine Zt rfl ?_
 refine Z3 (sqt 11 rfl (pur 2 rfl (sp rfl (PE.fA Z1l rfl) rfl (spL rfl rfl (lh sc3 rfl rfl) rfl (sp rfl (PE.fA Z1m rfl) rfl (spL rfl rfl (lh sc3 rfl rfl) rfl (sp rfl (PE.add rfl rfl (by omega)) rfl (spL rfl rfl (lfB (sz:=1) sc3 rfl) rfl (sp rfl (PE.sub rfl rfl (by omega)) rfl ?_)))))))))
 refine clY rfl rfl rfl rfl (hy k g b5 _ _ _ hg hop0 hinc hI0) ?_
 rintro v H3 R3 (⟨rfl,H2,rfl,hI3⟩ | ⟨rfl,H2,rfl,hE3⟩)
 refine pur 1 rfl ?_
 refine Zt rfl ?_
 refine Z3 (sqr 2 rfl (sp rfl (PE.add rfl rfl (by omega)) rfl (pur 1 rfl ?_)))
 exact Zb ⟨(k+1,H2,R3),by dsimp only;omega,hI3⟩ (fun w h9=>h9.tail)
 refine pur 1 rfl ?_
 refine ZK rfl ?_
 refine Z4 ?_
 exact Z9 (vs:=[]) rfl .nil rfl (.inr hE3) (fun _ h=>h.tail)
 obtain rfl:k=h.gaps.length:=by omega
 refine Z7 (Z8 (Z8 (Zi ?_)))
 exact Z22 (vs:=[]) rfl .nil rfl (.inl hI0) idH
theorem Z1D {w:List Int} {k i:Nat} (hk:k<w.length) (e:i=k):(Ze w)[i]?=some (.int .i64 (na w k)):=by
 subst e;exact Z0u (Z0v hk)
theorem ZiO {gs:List Gp} {cl i:Nat} {g:Gp} (hg:gs[i]?=some g) (ho:cl.testBit i=false) {k:Nat} (ha:(0≤g.a∧g.a<7)∧(0≤g.b∧g.b<7)∧g.a≠g.b) (h:g.a=k∨g.b=k):∃ v:Nat,g.a+g.b-k=v∧v<7∧Adj gs cl k v∧(∀ v',((g.a.toNat=k∧g.b.toNat=v')∨(g.b.toNat=k∧g.a.toNat=v'))→v'=v)∧((g.a.toNat=k∧g.b.toNat=v)∨(g.b.toNat=k∧g.a.toNat=v)):=by
 rcases h with h | h
 · exact ⟨g.b.toNat,by omega,by omega,⟨i,g,hg,ho,.inl ⟨by omega,rfl⟩⟩,fun v' hv=>by omega,.inl ⟨by omega,rfl⟩⟩
 · exact ⟨g.a.toNat,by omega,by omega,⟨i,g,hg,ho,.inr ⟨by omega,rfl⟩⟩,fun v' hv=>by omega,.inr ⟨by omega,rfl⟩⟩
theorem Z6j:apT Tryz.prog 23=some (3,1,8):=by kernel_rfl
theorem Zp2:cal Tryz.prog 61=true:=by kernel_rfl
theorem ZmG:cal Tryz.prog 64=true:=by kernel_rfl
theorem sc4:Z0c Tryz.prog 4=true:=by kernel_rfl
theorem ub4:Tryz.prog.underlying 4=some .bool:=by kernel_rfl
theorem Z64 {n:Int} {l:List Int} (h:Z3q n l=0):(∀ x∈l,0≤x∧x<n)∧l.Nodup:=by
 unfold Z3q at h
 cases h1:l.all fun k=>inB k 0 (n-1) with
 | false=>rw [h1] at h;cases h
 | true =>
   rw [h1] at h
   cases h2:(List.range l.length).any (Zb2 l) with
   | true=>rw [h2] at h;cases h
   | false =>
     refine ⟨fun x hx=>?_,?_⟩
     · have:=List.all_eq_true.1 h1 x hx
       simp only [inB,Bool.and_eq_true,decide_eq_true_eq] at this;omega
     · rw [List.nodup_iff_pairwise_ne]
       rw [List.pairwise_iff_getElem]
       intro i j hi hj hij e
       have h3:=List.any_eq_false.1 h2 j (List.mem_range.2 hj)
       apply h3
       unfold Zb2
       rw [hasI_iff,Z94 (List.getElem?_eq_getElem hj),← e]
       exact List.mem_of_getElem? (by rw [List.getElem?_take,if_pos hij,List.getElem?_eq_getElem hi])
theorem ZlQ:cal Tryz.prog 211=true:=by kernel_rfl
theorem ZiB:Zz Tryz.prog 23=some 1:=by kernel_rfl
theorem Z2w:Z0c Tryz.prog 23=true:=by kernel_rfl
theorem Zog:Zp Tryz.prog 23=some ([.slice none 0 0]):=by kernel_rfl
theorem Zgf {a:Option Addr} {sz:Nat} {rows:List (List Value)} {w:World} (h:RowsA a sz rows w) (ha:a.isNone=true):rows=[]:=by
 false_or_by_contra
 rename_i h0
 obtain ⟨b,off,e⟩:=Z3w h h0
 rw [e] at ha;cases ha
theorem St.norows {sz:Nat} {H:Z6} {R:Z5} {w:World} (h:St H R w):St H (RowsA none sz []::R) w:=St.also h (fun _ _ i row hi=>by simp at hi)
instance (priority:=low) MemF.ofRows (a:Option Addr) (sz:Nat) (rows:List (List Value)) (R:Z5) [m:MemRows a sz rows R]:MemF (RowsA a sz rows) R:=⟨m.mem⟩
def ClQ (c8:Nat) (H:Z6) (R:Z5):Option (List Int)→Value→Z6→Z5→Prop
 | none,v,H',R'=>v = .bool false∧∃ ov,H'=(c8,cel 23 [ov])::H∧R'=R
 | some x,v,H',R'=>v = .bool true∧∃ a c,x.length≤c∧H'=(c8,cel 23 [.slice a x.length c])::H∧R'=RowsA a 1 (irows x)::R
theorem ClQ.bool {c8:Nat} {H H':Z6} {R R':Z5} {o:Option (List Int)} {v:Value} (h:ClQ c8 H R o v H' R'):∃ b,v = .bool b:=by
 cases o with
 | none=>exact ⟨_,h.1⟩
 | some x=>exact ⟨_,h.1⟩
def Zbr (p:Nat→Bool) (k:Nat):List Int:=((List.range k).filter p).map fun (k:Nat)=>(k:Int)
theorem Z7V (p:Nat→Bool) (k:Nat):Zbr p (k+1)=Zbr p k++(bif p k then [(k:Int)] else []):=by
 unfold Zbr
 rw [List.range_succ,List.filter_append,List.map_append,List.filter_cons]
 cases p k<;>rfl
theorem ZfK (p:Nat→Bool) (k:Nat):(Zbr p k).length≤k:=by
 unfold Zbr
 rw [List.length_map]
 exact Nat.le_trans (List.length_filter_le _ _) (by simp)
theorem ZiQ {p:Nat→Bool} {k:Nat} (h:p k=true):Zbr p (k+1)=Zbr p k++[(k:Int)]:=by rw [Z7V,h];rfl
theorem Za5 {p:Nat→Bool} {k:Nat} (h:p k=false):Zbr p (k+1)=Zbr p k:=by rw [Z7V,h];exact List.append_nil _
theorem Z8F (xs:List Int) (a:Option Addr) (c:Nat) (hl:xs.length≤1000000) (H:Z6) (R:Z5) [hR:MemRows a 1 (irows xs) R] :
    Fn Tryz.prog 211 [.slice a xs.length c] H R (fun v H' R'=>∃ o:OSl 3 1 (irows xs),v=o.fs∧H'=o.G++H∧R'=R∧(a.isSome=true→o.here)):=by
 refine Zc Tryz.func211 rfl Tryz.ntmps211 rfl ?_
 refine sqt 1 rfl (pur 1 rfl (Z0 (sqt 2 rfl (pur 1 rfl (sp rfl (PE.eqlNil ZO rfl rfl) rfl ?_)))))
 refine Z1 rfl ?_ ?_<;>intro hc0
 refine Sy.pre (fun w h=>Zgf (h.now hR.mem) hc0) (fun hnil=>?_)
 obtain rfl:xs=[]:=by simpa [irows] using hnil
 refine sqt 1 rfl (pur 1 rfl (Z4 ?_))
 first
   | exact rtA rfl rfl rfl ⟨o2.cast (by simp),rfl,rfl,rfl,fun _=>ho2⟩ idH
   | exact rtA rfl rfl rfl ⟨OSl.nil _ _,rfl,rfl,rfl,fun h=>by cases a<;>simp_all⟩ idH
 refine Z3 (sqt 4 rfl ?_)
 refine Zoy rfl Z1H rfl (fun o5 ho5=>?_)
 refine pur 1 rfl ?_
 refine ZqP (news:=irows xs) o5 rfl Z6j rfl rfl (Zge) (by simp [irows]) (by simp [Z0j,irows,Value.oneCell']) ⟨by simp [irows];omega,by simp [irows];omega⟩ rfl ho5 (fun o2 ho2=>?_)
 refine pur 1 rfl (Z4 ?_)
 first
   | exact rtA rfl rfl rfl ⟨o2.cast (by simp),rfl,rfl,rfl,fun _=>ho2⟩ idH
   | exact rtA rfl rfl rfl ⟨OSl.nil _ _,rfl,rfl,rfl,fun h=>by cases a<;>simp_all⟩ idH
theorem ZaV:arN Tryz.prog 267=some (10,1):=by kernel_rfl
theorem Zl8:cal Tryz.prog 149=true:=by kernel_rfl
theorem Zp3:cal Tryz.prog 62=true:=by kernel_rfl
theorem Zpq:elN Tryz.prog 44=some 1:=by kernel_rfl
theorem Zj5:Z2o Tryz.prog 44=true:=by kernel_rfl
theorem ZpV:slE Tryz.prog 44=some (23,1):=by kernel_rfl
def Hse.botE (h:Hse) (l k:List Int):Int:=bif decide (h.check≠0) then h.check else bif decide (Z3q h.bins l≠0) then Z3q h.bins l else bif decide (Z3q h.bins k≠0) then Z3q h.bins k else bif l.any (Z6S k) then 7 else 0
structure Hse.Bot (h:Hse) (l k:List Int):Prop where
 ok:h.ok
 ck:h.check=0
 el:Z3q h.bins l=0
 ek:Z3q h.bins k=0
 no:∀ x∈l,x∉k
theorem Z9B {h:Hse} {l k:List Int} (he:h.botE l k=0):h.Bot l k:=by
 unfold Hse.botE at he
 by_cases h1:h.check=0
 · rw [decide_eq_false (by simpa using h1),cond_false] at he
   by_cases h2:Z3q h.bins l=0
   · rw [decide_eq_false (by simpa using h2),cond_false] at he
     by_cases h3:Z3q h.bins k=0
     · rw [decide_eq_false (by simpa using h3),cond_false] at he
       cases h4:l.any (Z6S k) with
       | true=>rw [h4] at he;cases he
       | false=>exact ⟨hse_ok.1 h1,h1,h2,h3,fun x hx hk=>List.any_eq_false.1 h4 x hx (hasI_iff.2 hk)⟩
     · rw [decide_eq_true h3,cond_true] at he;exact absurd he h3
   · rw [decide_eq_true h2,cond_true] at he;exact absurd he h2
 · rw [decide_eq_true h1,cond_true] at he;exact absurd he h1
def frB (gs:List Gp) (fl:List Int) (q:Nat) (u:Int):Bool:=match gs[q]? with | some g=>bif decide (g.a=u) then decide (na fl q<1) else decide (-1<na fl q) | none=>false
theorem Z60 {gs:List Gp} {fl:List Int} {q:Nat} {u:Int} {g:Gp} (h:gs[q]?=some g):frB gs fl q u=bif decide (g.a=u) then decide (na fl q<1) else decide (-1<na fl q):=by unfold frB;rw [h]
theorem Zif (k:List Int) (ak:Option Addr) (ck bk:Nat) (hk:k.length≤9223372036854775807) (x:Int) (H:Z6) (R:Z5) [hK:MemRows ak 1 (irows k) R] [hM:Mem1 bk (cel 23 [.slice ak k.length ck]) H] :
    FnV Tryz.prog 149 [.int .i64 x,.pointer (some ⟨bk,0,none⟩)] H R (.bool (Z6S k x)):=by
 refine Zc Tryz.func149 rfl Tryz.ntmps149 rfl ?_
 refine sqt 1 rfl (pur 1 rfl (sqt 4 rfl (spL rfl rfl (lh Z2w rfl rfl) rfl (pur 1 rfl ?_))))
 refine clV rfl Zis rfl rfl (Z1t k ak ck x hk _ _) ?_
 refine pur 1 rfl (Z4 ?_)
 exact rtA rfl rfl rfl ⟨rfl,rfl,rfl⟩ drp
set_option maxHeartbeats 400000 in
theorem ZgE (h:Hse) (ag as_:Option Addr) (cg cs:Nat) (hlg:h.gaps.length≤9223372036854775807) (hls:h.sights.length≤9223372036854775807) (l k:List Int) (al ak:Option Addr) (cl ck:Nat) (hl:l.length≤9223372036854775807) (hkl:k.length≤9223372036854775807) (hlc:l.length≤cl) (hkc:k.length≤ck) (H:Z6) (R:Z5) [hG:MemRows ag 2 (grows h.gaps) R] [hS:MemRows as_ 3 (srows h.sights) R] [hL:MemRows al 1 (irows l) R] [hK:MemRows ak 1 (irows k) R] :
    FnV Tryz.prog 78 [h.v (h.sg ag cg) (h.ss as_ cs),.slice al l.length cl,.slice ak k.length ck] H R (.int .i64 (h.botE l k)):=by
 refine Zc Tryz.func78 rfl Tryz.ntmps78 rfl ?_
 refine sqt 3 rfl (bx rfl rfl rfl (fun b3=>bx rfl rfl rfl (fun b5=>pur 1 rfl (Z0 (sqt 3 rfl (spL rfl rfl (lhA (htl h (h.sg ag cg) (h.ss as_ cs)) ZeP rfl rfl rfl) rfl ?_))))))
 refine clV rfl Zp2 rfl rfl (Z1K h ag as_ cg cs hlg hls _ _) ?_
 refine pur 1 rfl (sqt 2 rfl (pur 2 rfl ?_))
 refine Z1 rfl ?_ ?_<;>intro hc0
 have hck:h.check≠0:=of_decide_eq_true hc0
 refine sqt 2 rfl (pur 2 rfl (Z4 ?_))
 exact rtA rfl rfl rfl ⟨by simp only [ZC];unfold Hse.botE;rw [dT hck];rfl,rfl,rfl⟩ drp
 have hck:h.check=0:=Classical.byContradiction fun e=>by rw [decide_eq_true e] at hc0;cases hc0
 have hok:=hse_ok.1 hck
 refine Z3 (Z0 (sqt 5 rfl (pur 1 rfl (spL rfl rfl (lh Z2w rfl rfl) rfl ?_))))
 refine bsl (out:=[_,_]) rfl ZpV Zog rfl rfl rfl rfl rfl rfl (fun b18=>?_)
 refine Sy.heap (fun w h9=>St.rows (sz:=1) (rows:=[[.slice al l.length cl],[.slice ak k.length ck]]) (rest:=[]) (h9.pull b18) (by simp)) ?_
 refine sp rfl (PE.lenSl Zj5 rfl) rfl (pur 1 rfl (Z2 ?_))
 refine Zd (ι:={q:Nat // q≤2∧(0<q→Z3q h.bins l=0)∧(1<q→Z3q h.bins k=0)}) (fun q=>⟨[(1,.slice al l.length cl),(3,.pointer (some ⟨b3,0,none⟩)),(5,.pointer (some ⟨b5,0,none⟩)),(18,.slice (some ⟨b18,0,none⟩) 2 2),(19,.int .i64 2),(20,.int .i64 q.1)],(b5,cel 23 [.slice ak k.length ck])::(b3,cel 95 (htl h (h.sg ag cg) (h.ss as_ cs)))::H,RowsA (some ⟨b18,0,none⟩) 1 [[.slice al l.length cl],[.slice ak k.length ck]]::R⟩) (fun q=>2-q.1) ⟨0,by omega,by omega,by omega⟩ ?_ (fun q=>?_)
 exact Zf idH
 obtain ⟨q,hq,hq0,hq1⟩:=q
 dsimp only at hq hq0 hq1 ⊢
 refine sqt 1 rfl (pur 1 rfl (Z0 ?_))
 refine Z1 rfl ?_ ?_<;>intro hc1<;>try simp only [cS] at hc1
 obtain ⟨x,ax,cx,Z2d,hX,hxl,hqx⟩:∃ (x:List Int) (ax:Option Addr) (cx:Nat),([[.slice al l.length cl],[.slice ak k.length ck]]:List (List Value))[q]?=some [.slice ax x.length cx]∧RowsA ax 1 (irows x)∈R∧(x.length≤9223372036854775807∧x.length≤cx)∧((q=0∧x=l)∨(q=1∧x=k)):=by
   rcases (show q=0∨q=1 by omega) with rfl | rfl
   · exact ⟨l,al,cl,rfl,hL.mem,⟨hl,hlc⟩,.inl ⟨rfl,rfl⟩⟩
   · exact ⟨k,ak,ck,rfl,hK.mem,⟨hkl,hkc⟩,.inr ⟨rfl,rfl⟩⟩
 haveI:MemRows ax 1 (irows x) R:=⟨hX⟩
 refine Z3 (Z0 (Z2 (sqt 3 rfl (sp rfl (PE.indexAddr Zpq rfl rfl (by omega) (by omega)) rfl (spL rfl rfl (lf0 Z2w Z2d rfl) rfl (pur 1 rfl (sqt 5 rfl (pur 1 rfl (spL rfl rfl (lhA (htl h (h.sg ag cg) (h.ss as_ cs)) ZeP rfl rfl rfl) rfl (sp rfl (PE.makeFunc rfl rfl) rfl ?_))))))))))
 refine clV rfl Zp3 rfl rfl (Zfg x ax cx 63 [h.v (h.sg ag cg) (h.ss as_ cs)] [] (fun z=>inB z 0 (h.bins-1)) Zft hxl.1 hxl.2 _ _ (fun _ z _=>Z5K h hok.bins (h.sg ag cg) (h.ss as_ cs) z _ _)) ?_
 refine pur 1 rfl (sqt 2 rfl (pur 2 rfl ?_))
 refine Z1 rfl ?_ ?_<;>intro hc2
 have hle:Z3q h.bins x≠0:=of_decide_eq_true hc2
 refine sqt 2 rfl (pur 2 rfl (Z4 ?_))
 exact rtA rfl rfl rfl ⟨by
   simp only [ZC]
   unfold Hse.botE
   rw [dF (by simpa using hck),cond_false]
   rcases hqx with ⟨rfl,rfl⟩ | ⟨rfl,rfl⟩
   · rw [dT hle];rfl
   · rw [dF (by simpa using hq0 (by omega)),dT hle];rfl,rfl,rfl⟩ drp
 have hle:Z3q h.bins x=0:=Classical.byContradiction fun e=>by rw [show decide (Znk (fun z=>inB z 0 (h.bins-1)) x≠0)=true from decide_eq_true e] at hc2;cases hc2
 refine Z3 (sqr 2 rfl (sp rfl (PE.add rfl rfl (by omega)) rfl (pur 1 rfl ?_)))
 exact Zb ⟨q+1,by omega,fun _=>by rcases hqx with ⟨rfl,rfl⟩ | ⟨rfl,rfl⟩;exact hle;exact hq0 (by omega),fun _=>by rcases hqx with ⟨rfl,rfl⟩ | ⟨rfl,rfl⟩;omega;exact hle⟩ drp
 obtain rfl:q=2:=by omega
 have hel:=hq0 (by omega)
 have hek:=hq1 (by omega)
 have e7:h.botE l k=bif l.any (Z6S k) then 7 else 0:=by unfold Hse.botE;rw [dF (by simpa using hck),dF (by simpa using hel),dF (by simpa using hek)];rfl
 refine Z7 (Z8 (Z8 (Zi (Z0 (sqt 3 rfl (pur 1 rfl (sp rfl (PE.makeFunc rfl rfl) rfl ?_)))))))
 refine clV rfl Z4c rfl rfl (Z0M l al cl 149 [] [_] (Z6S k) Zl8 hl _ _ (fun x _=>Zif k ak ck b5 hkl x _ _)) ?_
 refine Z1 rfl ?_ ?_<;>intro hc3
 refine sqt 1 rfl (pur 1 rfl (Z4 ?_))
 exact rtA rfl rfl rfl ⟨by simp only [ZC];rw [e7,hc3];rfl,rfl,rfl⟩ drp
 refine Z3 (sqt 1 rfl (pur 1 rfl (Z4 ?_)))
 exact rtA rfl rfl rfl ⟨by simp only [ZC];rw [e7,hc3];rfl,rfl,rfl⟩ drp
set_option maxHeartbeats 400000 in
theorem Zky (d:Dk) (hd:d.Ok) (fl:List Int) (hfl:fl.length=10) (q:Nat) (g:Gp) (hg:d.h.gaps[q]?=some g) (u:Int) (H:Z6) (R:Z5) [hD:MemRows (some ⟨d.bd,0,none⟩) 4 [d.row] R] [hG:MemRows d.ag 2 (grows d.h.gaps) R] [hS:MemRows d.as_ 3 (srows d.h.sights) R] [sR:SubF d.R0 R] :
    FnV Tryz.prog 265 [.pointer (some ⟨d.bd,0,none⟩),.agg (Ze fl).toArray,.int .i64 q,.int .i64 u] H R (.bool (frB d.h.gaps fl q u)):=by
 refine Zc Tryz.func265 rfl Tryz.ntmps265 rfl ?_
 refine sqt 2 rfl (bx rfl rfl rfl (fun b5=>pur 1 rfl (Z0 (sqt 11 rfl ?_))))
 have hgl:=(List.getElem?_eq_some_iff.1 hg).1
 have hg10:=hd.ok.gl
 refine Zj (a:=d.ag) (sz:=2) (rows:=grows d.h.gaps) (ne0 (by rw [Z5h];omega)) (fun bg og he=>?_)
 haveI:MemRows (some ⟨bg,og,none⟩) 2 (grows d.h.gaps) R:=⟨he▸hG.mem⟩
 refine pur 1 rfl (sp rfl (PE.nilCheck rfl) rfl (sp rfl (PE.fA Z2i rfl) rfl (sp rfl (PE.fA Z2m rfl) rfl (spL rfl rfl (lfB (sz:=4) (x:=.slice (some ⟨bg,og,none⟩) d.h.gaps.length d.cg) Zbu (by show some (d.h.sg d.ag d.cg)=_;unfold Hse.sg;rw [he])) rfl (pur 1 rfl (sp rfl (PE.indexAddr ZfH rfl rfl (by omega) (by omega)) rfl (sp rfl (PE.fA Z1l rfl) rfl (spL rfl rfl (lf0 sc3 (Z25 hg) rfl) rfl (pur 2 rfl ?_)))))))))
 refine Z1 rfl ?_ ?_<;>intro hc0
 refine sqt 5 rfl (pur 1 rfl (sp rfl (PE.indexArr ZaV rfl rfl (by omega) (by omega)) rfl (spL rfl rfl (lh sc3 rfl (Z1D (w:=fl) (k:=q) (by omega) (by show 0+q*1=q;omega))) rfl (pur 2 rfl (Z4 ?_)))))
 first
   | exact rtA rfl rfl rfl ⟨by simp only [ZC];rw [Z60 hg,hc0];rfl,rfl,rfl⟩ drp
   | exact rtA rfl rfl rfl ⟨by simp only [ZC];rw [Z60 hg];simp_all,rfl,rfl⟩ drp
 refine Z3 (sqt 5 rfl (pur 1 rfl (sp rfl (PE.indexArr ZaV rfl rfl (by omega) (by omega)) rfl (spL rfl rfl (lh sc3 rfl (Z1D (w:=fl) (k:=q) (by omega) (by show 0+q*1=q;omega))) rfl (pur 2 rfl (Z4 ?_))))))
 first
   | exact rtA rfl rfl rfl ⟨by simp only [ZC];rw [Z60 hg,hc0];rfl,rfl,rfl⟩ drp
   | exact rtA rfl rfl rfl ⟨by simp only [ZC];rw [Z60 hg];simp_all,rfl,rfl⟩ drp
theorem Zel {p q s vs:List Value} (h:q.length=vs.length):spl (p++(q++s)) p.length vs=p++(vs++s):=by
 unfold spl
 rw [List.take_left,show p.length+vs.length=(p++q).length by simp [h],← List.append_assoc p q s,List.drop_left,List.append_assoc]
theorem ZmV {α:Type} {xs:List α} {i:Nat} (hi:i<xs.length):∃ A y B,xs=A++y::B∧i=A.length:=⟨xs.take i,xs[i],xs.drop (i+1),by rw [← List.drop_eq_getElem_cons hi,List.take_append_drop],by rw [List.length_take];omega⟩
theorem Z5j (l:List Int):(irows l).flatten=Ze l:=Z2K l
theorem Zne (l:List Int):∀ r∈irows l,r.length=1:=fun r hr=>by obtain ⟨z,_,rfl⟩:=List.mem_map.1 hr;rfl
theorem Zem {xs:List Int} {junk:List Value} {k:Nat} (h:k<xs.length) (v:Int):spl (Ze xs++junk) (0+((k:Nat):Int).toNat*1) [.int .i64 v]=Ze (xs.set k v)++junk:=by
 rw [show 0+((k:Nat):Int).toNat*1=k by omega]
 obtain ⟨A,y,B,rfl,rfl⟩:=ZmV h
 have h1:=Zel (p:=Ze A) (q:=[.int .i64 y]) (s:=Ze B++junk) (vs:=[.int .i64 v]) rfl
 rw [show (Ze A).length=A.length by simp [Ze]] at h1
 rw [show Ze (A++y::B)++junk=Ze A++([.int .i64 y]++(Ze B++junk)) by simp [Ze],h1]
 simp [Ze]
theorem Zhm {xs:List Int} {junk:List Value} {k:Nat} (h:k<xs.length):(Ze xs++junk)[0+((k:Nat):Int).toNat*1]?=some (.int .i64 (na xs k)):=by
 rw [show 0+((k:Nat):Int).toNat*1=k by omega,List.getElem?_append_left (by rw [ints_length];exact h),Z0u (Z0v h)]
def RevI (l xs:List Int) (i:Nat):Prop:=xs.length=l.length∧∀ p<l.length,na xs p=bif decide (p<i∨l.length≤p+i) then na l (l.length-1-p) else na l p
theorem RevI.start (l:List Int):RevI l l 0:=⟨rfl,fun p hp=>by rw [decide_eq_false (by omega)];rfl⟩
theorem RevI.step {l xs:List Int} {i:Nat} (h:RevI l xs i) (hi:i+i+1<l.length):RevI l ((xs.set i (na xs (l.length-1-i))).set (l.length-1-i) (na xs i)) (i+1):=by
 have hl:=h.1
 refine ⟨by rw [List.length_set,List.length_set];exact hl,fun p hp=>?_⟩
 rw [Z0w (by rw [List.length_set];omega)]
 by_cases h1:l.length-1-i=p
 · rw [decide_eq_true h1,cond_true,h.2 i (by omega),decide_eq_false (by omega),decide_eq_true (by omega),cond_true,cond_false]
   congr 1;omega
 · rw [decide_eq_false h1,cond_false,Z0w (by omega)]
   by_cases h2:i=p
   · subst h2
     rw [decide_eq_true rfl,cond_true,h.2 _ (by omega),decide_eq_false (by omega),cond_false,decide_eq_true (by omega)];rfl
   · rw [decide_eq_false h2,cond_false,h.2 p hp]
     have:(p<i∨l.length≤p+i)↔(p<i+1∨l.length≤p+(i+1)):=by omega
     rw [decide_eq_decide.2 this]
theorem RevI.done {l xs:List Int} {i:Nat} (h:RevI l xs i) (hi:l.length≤i+i+1):xs=l.reverse:=by
 apply List.ext_getElem?
 intro p
 rcases Nat.lt_or_ge p l.length with hp | hp
 · rw [Z0v (by rw [h.1];exact hp),List.getElem?_reverse hp,Z0v (by omega),h.2 p hp]
   by_cases h1:p<i∨l.length≤p+i
   · rw [decide_eq_true h1];rfl
   · rw [decide_eq_false h1,cond_false,show l.length-1-p=p by omega]
 · rw [List.getElem?_eq_none (by rw [h.1];exact hp),List.getElem?_eq_none (by rw [List.length_reverse];exact hp)]
theorem Zcj (l:List Int) (b cap:Nat) (junk:List Value) (hl:l.length≤1000000) (H:Z6) (R:Z5) :
    Fn Tryz.prog 264 [.slice (some ⟨b,0,none⟩) l.length cap] ((b,cel 3 (Ze l++junk))::H) R (fun v H' R'=>v = .tuple #[]∧H'=(b,cel 3 (Ze l.reverse++junk))::H∧R'=R):=by
 refine Zc Tryz.func264 rfl Tryz.ntmps264 rfl ?_
 refine sqt 5 rfl (pur 1 rfl (sp rfl (PE.lenSl ZO rfl) rfl (sp rfl (PE.sub rfl rfl (by omega)) rfl ?_)))
 rw [show (l.length:Int)-1=(l.length:Int)-1-((0:Nat):Int) from by omega]
 refine pur 2 rfl (Z2 ?_)
 refine Zd (ι:={x:Nat×List Int // x.1≤l.length∧RevI l x.2 x.1}) (fun x=>⟨[(0,.slice (some ⟨b,0,none⟩) l.length cap),(2,.int .i64 x.1.1),(3,.int .i64 ((l.length:Int)-1-x.1.1))],(b,cel 3 (Ze x.1.2++junk))::H,R⟩) (fun x=>l.length-x.1.1) ⟨(0,l),Nat.zero_le _,RevI.start l⟩ ?_ (fun x=>?_)
 exact Zf idH
 obtain ⟨⟨i,xs⟩,hi,hr⟩:=x
 dsimp only at hi hr ⊢
 have hxl:=hr.1
 refine Z0 (sqt 3 rfl (pur 3 rfl ?_))
 refine Z1 rfl ?_ ?_<;>intro hc0<;>try simp only [cS] at hc0
 have hii:i+i+1<l.length:=by omega
 rw [show (l.length:Int)-1-i=(((l.length-1-i):Nat):Int) from by omega]
 refine Z3 (Z0 (Z2 ?_))
 refine Za [0,0,0,0,0,0,48,112,0,0,768,1792,4083,8179,16383,32767] (tks 0 7 (.ld 7 (tks 8 3 (.ld 11 (.tk 12 (.big 13 (.tk 14 (.big 15 .done)))))))) Zl (by kernel_rfl) ?_
 refine Zg 6 rfl (tk rfl (PE.indexAddr Z0D rfl rfl (by omega) (by omega)) rfl (ld rfl rfl (lh sc3 rfl (Zhm (by omega))) rfl (Zg 2 rfl (tk rfl (PE.indexAddr Z0D rfl rfl (by omega) (by omega)) rfl (ld rfl rfl (lh sc3 rfl (Zhm (by omega))) rfl (tk rfl (PE.indexAddr Z0D rfl rfl (by omega) (by omega)) rfl ?_))))))
 refine Zy (l':=Ze ((xs).set i (na xs (l.length-1-i)))++junk) rfl rfl rfl cn3 rfl rfl rfl (Zem (show i<xs.length by omega) _) (by rw [List.length_append,ints_length];show 0+((i:Nat):Int).toNat*1+1≤_;have:=(show i<xs.length by omega);omega) ?_
 refine bgT (tk rfl (PE.indexAddr Z0D rfl rfl (by omega) (by omega)) rfl ?_)
 refine Zy (l':=Ze ((xs.set i (na xs (l.length-1-i))).set (l.length-1-i) (na xs i))++junk) rfl rfl rfl cn3 rfl rfl rfl (Zem (show (l.length-1-i)<(xs.set i (na xs (l.length-1-i))).length by rw [List.length_set];omega) _) (by rw [List.length_append,ints_length];show 0+(((l.length-1-i):Nat):Int).toNat*1+1≤_;have:=(show (l.length-1-i)<(xs.set i (na xs (l.length-1-i))).length by rw [List.length_set];omega);omega) ?_
 refine bgT (sqr 6 rfl (pur 1 rfl (sp rfl (PE.add rfl rfl (by omega)) rfl (pur 1 rfl (sp rfl (PE.sub rfl rfl (by omega)) rfl (pur 2 rfl ?_))))))
 rw [show (((l.length-1-i):Nat):Int)-1=(l.length:Int)-1-((i+1:Nat):Int) from by omega]
 exact Zb ⟨(i+1,(xs.set i (na xs (l.length-1-i))).set (l.length-1-i) (na xs i)),by dsimp only;omega,hr.step hii⟩ idH
 obtain rfl:=hr.done (by omega)
 refine Z7 (Z8 (Z8 (Zi ?_)))
 exact Z22 (vs:=[]) rfl .nil rfl ⟨rfl,rfl,rfl⟩ idH
theorem Z9H (H:Z6) (R:Z5) :
    FnV Tryz.prog 264 [.slice none 0 0] H R (.tuple #[]):=by
 refine Zc Tryz.func264 rfl Tryz.ntmps264 rfl ?_
 refine sqt 5 rfl (pur 1 rfl (sp rfl (PE.lenSl ZO rfl) rfl (sp rfl (PE.sub rfl rfl (by omega)) rfl (pur 2 rfl (Z2 ?_)))))
 refine Zd (ι:=Unit) (fun _=>⟨[(2,.int .i64 0),(3,.int .i64 (-1))],H,R⟩) (fun x=>0) () ?_ (fun x=>?_)
 exact Zf idH
 refine Z0 (sqt 3 rfl (pur 3 rfl ?_))
 refine Z1 rfl ?_ ?_<;>intro hc0
 exact absurd hc0 (by decide)
 refine Z7 (Z8 (Z8 (Zi ?_)))
 exact Z22 (vs:=[]) rfl .nil rfl ⟨rfl,rfl,rfl⟩ idH
theorem Z4R (l:List Int) (o:OSl 3 1 (irows l)) (hl:l.length≤1000000) (H:Z6) (R:Z5):Fn Tryz.prog 264 [o.fs] (o.G++H) R (fun v H' R'=>∃ o':OSl 3 1 (irows l.reverse),o'.fs=o.fs∧v = .tuple #[]∧H'=o'.G++H∧R'=R):=by
 have hir:(irows l).length=l.length:=List.length_map _
 have hrr:(irows l.reverse).length=l.length:=by rw [List.length_map,List.length_reverse]
 rcases o.is with ⟨h1,h2,h3⟩ | ⟨b,cap,junk,h2,h3,hj,hc,hm⟩
 · have hx:l=[]:=List.map_eq_nil_iff.1 h1
   subst hx
   rw [h2,h3]
   exact Fn.mono (Z9H H R) (by rintro v H' R' ⟨rfl,rfl,rfl⟩;exact ⟨OSl.nil _ _,rfl,rfl,rfl,rfl⟩)
 · rw [hir] at h2 hj hc
   rw [h2,h3,Z5j]
   exact Fn.mono (Zcj l b cap junk hl H R) (by
     rintro v H' R' ⟨rfl,rfl,rfl⟩
     exact ⟨⟨.slice (some ⟨b,0,none⟩) (irows l.reverse).length cap,[(b,cel 3 ((irows l.reverse).flatten++junk))],Zne _,.inr ⟨b,cap,junk,rfl,rfl,by rw [hrr];exact hj,by rw [hrr];exact hc,hm⟩⟩,congrArg (fun q=>Value.slice (some ⟨b,0,none⟩) q cap) hrr,rfl,congrArg (fun q=>(b,cel 3 (q++junk))::H) (Z5j l.reverse).symm,rfl⟩)
structure OQ (e sz:Nat) (rows:List (List Value)) where
 b:Nat
 off:Nat
 cap:Nat
 pre:List Value
 junk:List Value
 len:∀ r∈rows,r.length=sz
 pl:pre.length=off
 room:cap*sz≤rows.length*sz+junk.length
 le:rows.length≤cap
 mx:cap≤9223372036854775807
def OQ.fs {e sz:Nat} {rows:List (List Value)} (q:OQ e sz rows):Value:=.slice (some ⟨q.b,q.off,none⟩) rows.length q.cap
def OQ.G {e sz:Nat} {rows:List (List Value)} (q:OQ e sz rows):Z6:=[(q.b,cel e (q.pre++(rows.flatten++q.junk)))]
theorem Z9k {a r j v:List Value} {o:Nat} (e:o=a.length+r.length) (h:v.length≤j.length):spl (a++(r++j)) o v=a++((r++v)++j.drop v.length):=by
 subst e
 unfold spl
 rw [← List.append_assoc a r j,show a.length+r.length=(a++r).length by simp,List.take_left,List.drop_append,List.drop_of_length_le (by omega),List.nil_append]
 simp [List.append_assoc]
theorem Z5s {P:Program} {t ty e sz by_:Nat} (ht:apT P t=some (e,sz,by_)) {rows news:List (List Value)} (q:OQ e sz rows) {T:Z6} {R:Z5} {w:World} (hs:St (q.G++T) R w)
   {ax:Option Addr} {c:Nat} (hr:RowsA ax sz news w) (h0:news≠[]) (h1:Z0j news=true) (hby:(rows.length+news.length)*by_≤140737488355328) (h63:rows.length+news.length≤9223372036854775807) :
   ∃ (q':OQ e sz (rows++news)) (w':World),(Builtin.append_ #[t,t] ty #[q.fs,.slice ax news.length c]).run P w = .ok q'.fs w'∧St (q'.G++T) R w':=by
 unfold apT at ht
 split at ht
 case h_2=>cases ht
 rename_i e' hu
 split at ht
 case h_2=>cases ht
 rename_i i hi
 split at ht
 case h_2=>cases ht
 rename_i z hz
 cases hzs:Nat.beq z.cells.size i.size with
 | false=>rw [hzs] at ht;cases ht
 | true =>
 rw [hzs,cond_true] at ht
 cases ht
 have hzs:=Nat.eq_of_beq_eq_true hzs
 have hnl:=Z79 hr
 obtain ⟨b,off,cap,pre,junk,hl,hpl,hroom0,hle,hmx⟩:=q
 have hlen':∀ r∈rows++news,r.length=i.size:=fun r h=>by rcases List.mem_append.1 h with h | h;exact hl r h;exact hnl r h
 have hnf:=Z06 hnl
 have hrf:=Z06 hl
 obtain ⟨bx,offx,rfl⟩:=Z3w hr h0
 have hcell:∀ j v,news.flatten[j]?=some v→w.cell? ((⟨bx,offx,none⟩:Addr).add j)=some v:=fun j v h=>by rw [ZR];exact Z2r hr j v h
 have hn0:0<news.length:=List.length_pos_iff.2 h0
 have hb:=hs.held (b,cel e (pre++(rows.flatten++junk))) (by simp [OQ.G])
 by_cases hroom:rows.length+news.length≤cap
 · have hm2:(rows.length+news.length)*i.size≤cap*i.size:=Nat.mul_le_mul_right _ hroom
   rw [Nat.add_mul] at hm2
   have hjl:news.flatten.length≤junk.length:=by omega
   have hst:=Z6b (P:=P) (e:=e) (od:=off+rows.length*i.size) (vs:=news.flatten) (List.all_eq_true.2 (Z73 h1)) (by simp only [List.length_append,hrf,hpl];omega) hb
   have hfc:=run_firstCells_some (P:=P) w i.size news.length ⟨bx,offx,none⟩ news.length c news.flatten hnf hcell
   have hsp:spl (pre++(rows.flatten++junk)) (off+rows.length*i.size) news.flatten=pre++((rows++news).flatten++junk.drop news.flatten.length):=by
     rw [Z9k (by rw [hpl,hrf]) hjl,List.flatten_append]
   rw [hsp] at hst
   refine ⟨⟨b,off,cap,pre,junk.drop news.flatten.length,hlen',hpl,by rw [List.length_append,List.length_drop,Nat.add_mul];omega,by rw [List.length_append];exact hroom,hmx⟩,{ w with heap:=w.heap.setIfInBounds b (cel e (pre++((rows++news).flatten++junk.drop news.flatten.length))) },?_,St.set hs⟩
   have e0:(⟨b,off,none⟩:Addr).add (rows.length*i.size)=⟨b,off+rows.length*i.size,none⟩:=by rw [ZR]
   simp [OQ.fs,Builtin.append_,run_underlying hu,sizeOf,typeInfo,hi,Builtin.lenOf,hroom,hfc,e0,hst]
 · have holds:∀ j v,rows.flatten[j]?=some v→w.cell? ((⟨b,off,none⟩:Addr).add j)=some v:=fun j v h=>by
     have hlt:j<rows.flatten.length:=(List.getElem?_eq_some_iff.1 h).1
     rw [ZR,Z16 hb]
     simp only [List.getElem?_toArray]
     rw [List.getElem?_append_right (by omega),show off+j-pre.length=j by omega,List.getElem?_append_left hlt];exact h
   have h2:=run_append_grow (P:=P) w t ty e i z hu hi hz ⟨b,off,none⟩ rows.length cap rows.flatten hrf holds ⟨bx,offx,none⟩ news.length c news.flatten hnf hcell (by omega) (by omega) (growslice_fits (by omega) hby)
   have hge:=grownCap_ge w (rows.length+news.length) cap e
   have hcm:grownCap w (rows.length+news.length) cap e≤maxLen:=grownCap_le_maxLen w _ cap e (by simp only [maxLen];omega)
   refine ⟨⟨w.heap.size,0,grownCap w (rows.length+news.length) cap e,[],(Builtin.zeroCells z.cells (grownCap w (rows.length+news.length) cap e-(rows.length+news.length))).toList,hlen',rfl,?_,by rw [List.length_append];exact hge,by simp only [maxLen] at hcm;omega⟩,w.drew.alloc (.cells (rows.flatten.toArray++news.flatten.toArray++Builtin.zeroCells z.cells (grownCap w (rows.length+news.length) cap e-(rows.length+news.length))) e),?_,?_⟩
   · simp only [Array.length_toList,size_zeroCells,hzs,List.length_append,← Nat.add_mul]
     exact Nat.mul_le_mul_right _ (by omega)
   · exact h2.trans (by simp only [OQ.fs,List.length_append])
   · have h3:=(St.tail hs).drew.alloc (.cells (rows.flatten.toArray++news.flatten.toArray++Builtin.zeroCells z.cells (grownCap w (rows.length+news.length) cap e-(rows.length+news.length))) e)
     rw [show w.drew.heap.size=w.heap.size from rfl] at h3
     have e1:(cel e ([]++((rows++news).flatten++(Builtin.zeroCells z.cells (grownCap w (rows.length+news.length) cap e-(rows.length+news.length))).toList))) = .cells (rows.flatten.toArray++news.flatten.toArray++Builtin.zeroCells z.cells (grownCap w (rows.length+news.length) cap e-(rows.length+news.length))) e:=by
       unfold cel;congr 1;apply Array.toList_inj.1;simp
     show St ((_,_)::T) R _
     rw [e1];exact h3
section
variable {P:Program} {r:Option Nat} {ops:Array Oper} {n:Nat} {L:Zn} {D:List Deferred} {H:Z6} {R:Z5} {K:Act→World→Prop}
 {i d:Nat} {ty:TypeId} {pos:String} {af:Array Edge}
theorem apQ {t e sz by_ c k:Nat} {s x:Operand} {rows news:List (List Value)} (q:OQ e sz rows) {ax:Option Addr} {C:Z6→Z6}
   (ho:ops[i]?=some ⟨some d,.call { callee:=.builtin .append,args := #[s,x],argTypes := #[t,t] },ty,pos,af,none⟩) (ht:apT P t=some (e,sz,by_))
   (hs:ev L s=some q.fs) (hx:ev L x=some (.slice ax k c)) (hr:∀ w,St H R w→RowsA ax sz news w) (hk:news.length=k) (h0:news≠[]) (h1:Z0j news=true)
   (hb:(rows.length+news.length)*by_≤140737488355328∧rows.length+news.length≤9223372036854775807) (hd:Nat.blt d n=true)
   [rp:RepF q.G H C]
   (h:∀ q':OQ e sz (rows++news),Sy n ((d,q'.fs)::L) D (C q'.G) R K):Sy n L D H R (stp P r ops i K):=fun a w ha hD hs0=>by
 subst hk
 obtain ⟨T,p1,p2⟩:=rp.rep
 obtain ⟨q',w',h2,h3⟩:=Z5s ht q (hs0.perm p1) (hr w hs0) h0 h1 hb.1 hb.2
 refine Zx ho (Zk _ rfl _) (v:=q'.fs) (w':=w') ?_ (h q' _ _ (ha.put (by simpa using hd) _) hD (h3.perm (p2 _)))
 simp only [execOp,resolve,invoke,builtin,Sem.run_bind,Sem.run_pure,Result.andThen,List.map_toArray,List.map_cons,List.map_nil,ha.reads _ _ hs,ha.reads _ _ hx]
 rw [show (Builtin.append_ #[t,t] ty #[q.fs,.slice ax news.length c]).run P w=_ from h2]
end
def OQ.cast {e sz:Nat} {rows rows':List (List Value)} (q:OQ e sz rows) (h:rows=rows'):OQ e sz rows':=h▸q
@[simp] theorem OQ.cast_fs {e sz : Nat} {rows rows' : List (List Value)} (q : OQ e sz rows) (h : rows = rows') : (q.cast h).fs = q.fs := by subst h; rfl
@[simp] theorem OQ.cast_G {e sz : Nat} {rows rows' : List (List Value)} (q : OQ e sz rows) (h : rows = rows') : (q.cast h).G = q.G := by subst h; rfl
theorem OQ.pop {e sz:Nat} {row:List Value} {rows:List (List Value)} (q:OQ e sz (row::rows)):∃ q':OQ e sz rows,q'.fs = .slice (if q.cap=1 then some ⟨q.b,q.off,none⟩ else some ⟨q.b,q.off+1*sz,none⟩) rows.length (q.cap-1)∧q'.G=q.G:=by
 obtain ⟨b,off,cap,pre,junk,hl,hpl,hroom,hle,hmx⟩:=q
 have hrl:=hl row (by simp)
 rw [List.length_cons] at hroom hle
 rw [Nat.add_mul] at hroom
 by_cases h1:cap=1
 · have hr0:rows=[]:=List.length_eq_zero_iff.1 (by omega)
   subst hr0
   refine ⟨⟨b,off,cap-1,pre,row++junk,by simp,hpl,by rw [h1];simp,by simp,by omega⟩,?_,?_⟩
   · unfold OQ.fs;dsimp only;rw [if_pos h1]
   · unfold OQ.G;simp
 · refine ⟨⟨b,off+1*sz,cap-1,pre++row,junk,fun r hr=>hl r (by simp [hr]),by rw [List.length_append,hpl,hrl];omega,by rw [Nat.sub_mul];omega,by omega,by omega⟩,?_,?_⟩
   · unfold OQ.fs;dsimp only;rw [if_neg h1]
   · unfold OQ.G;simp [List.append_assoc]
theorem OQ.one {e sz:Nat} (b:Nat) {row:List Value} (h:row.length=sz):∃ q:OQ e sz [row],q.fs = .slice (some ⟨b,0,none⟩) 1 1∧q.G=[(b,cel e row)] :=
 ⟨⟨b,0,1,[],[],by simp [h],rfl,by simp,by simp,by decide⟩,rfl,by unfold OQ.G;simp⟩
theorem ZeW:Z0W Tryz.prog 267=some 10:=by kernel_rfl
theorem Zh3:cal Tryz.prog 264=true:=by kernel_rfl
theorem Zmp:cal Tryz.prog 265=true:=by kernel_rfl
theorem Zpk:Zz Tryz.prog 268=some 1:=by kernel_rfl
theorem Z2h:eqB Tryz.prog 10000 3=some (false,1):=by kernel_rfl
theorem Z5m:Z0O Tryz.prog 268=some (3,3):=by kernel_rfl
theorem Z2Y:Z38 Tryz.prog 10000 3=true:=by kernel_rfl
theorem Z9g:Z0c Tryz.prog 268=true:=by kernel_rfl
theorem Zqb:Zp Tryz.prog 268=some ([.map none]):=by kernel_rfl
theorem zv3:zvl Tryz.prog 3=some (.int .i64 0):=by kernel_rfl
def vkv (V:List (Nat×Int)):KV:=V.map fun x=>([(x.1:Int)],.int .i64 x.2)
def vb (V:List (Nat×Int)):List Int:=V.map fun x=>(x.1:Int)
theorem Z2C {V:List (Nat×Int)}:∀ e∈vkv V,e.1.length=1:=fun e he=>by obtain ⟨x,_,rfl⟩:=List.mem_map.1 he;rfl
theorem ZeC {V:List (Nat×Int)} (hn:(V.map (·.1)).Nodup) {u:Nat} {z:Int} (h:(u,z)∈V):(vkv V).get [(u:Int)]=some (.int .i64 z):=by
 induction V with
 | nil=>cases h
 | cons x V ih =>
   rw [List.map_cons,List.nodup_cons] at hn
   unfold vkv KV.get
   rw [List.map_cons,List.find?_cons]
   by_cases e:x.1=u
   · rw [show decide ([(x.1:Int)]=[(u:Int)])=true by simp [e]]
     rcases List.mem_cons.1 h with h1 | h1
     · rw [← h1];rfl
     · exact absurd (List.mem_map.2 ⟨(u,z),h1,rfl⟩) (e▸hn.1)
   · rw [show decide ([(x.1:Int)]=[(u:Int)])=false by simp;omega]
     exact ih hn.2 ((List.mem_cons.1 h).resolve_left fun h1=>e (by rw [← h1]))
theorem ZnT {V:List (Nat×Int)} {u:Nat} (h:u∉V.map (·.1)):(vkv V).get [(u:Int)]=none:=by
 unfold KV.get
 rw [List.find?_eq_none.2,Option.map_none]
 intro e he
 obtain ⟨x,hx,rfl⟩:=List.mem_map.1 he
 have:x.1≠u:=fun e2=>h (List.mem_map.2 ⟨x,hx,e2⟩)
 simp;omega
theorem Z9t {V:List (Nat×Int)} {u:Nat} (h:((vkv V).get [(u:Int)]).isSome=true):u∈V.map (·.1):=Classical.byContradiction fun hn=>by rw [ZnT hn] at h;cases h
theorem Z9u {V:List (Nat×Int)} (hn:(V.map (·.1)).Nodup) {u:Nat} (h:((vkv V).get [(u:Int)]).isSome=false):u∉V.map (·.1):=fun hm=>by
 obtain ⟨x,hx,rfl⟩:=List.mem_map.1 hm
 rw [ZeC hn (show (x.1,x.2)∈V from hx)] at h;cases h
theorem ZeD {V:List (Nat×Int)} {u:Nat} {z:Int} (h:u∉V.map (·.1)):(vkv V).put [(u:Int)] (.int .i64 z)=vkv (V++[(u,z)]):=by
 rw [Z4G (List.findIdx?_eq_none_iff.2 fun e he=>by
   obtain ⟨x,hx,rfl⟩:=List.mem_map.1 he
   have:x.1≠u:=fun e2=>h (List.mem_map.2 ⟨x,hx,e2⟩)
   simp;omega)]
 unfold vkv;rw [List.map_append];rfl
def frV (l:List Int):List (Nat×Int):=(l.map Int.toNat).map fun u=>(u,(-1:Int))
theorem Zdb (l:List Int):(frV l).map (·.1)=l.map Int.toNat:=by unfold frV;rw [List.map_map];simp [Function.comp_def]
theorem ZfN {l:List Int} {k u:Nat} (h:l[k]?=some (u:Int)):frV (l.take (k+1))=frV (l.take k)++[(u,-1)]:=by
 unfold frV;rw [List.take_add_one,h];simp
theorem Zn8 {l:List Int} (h:∀ x∈l,0≤x):vb (frV l)=l:=by
 unfold vb frV
 rw [List.map_map,List.map_map]
 have:∀ x∈l,(((fun x:Nat×Int=>(x.1:Int)) ∘ fun u:Nat=>(u,(-1:Int))) ∘ Int.toNat) x=x:=fun x hx=>by have:=h x hx;simp;omega
 rw [List.map_congr_left this,List.map_id']
theorem Zdc {l:List Int} (h:∀ x∈l,0≤x) (hn:l.Nodup):(l.map Int.toNat).Nodup:=by
 rw [List.nodup_iff_pairwise_ne,List.pairwise_map]
 refine (List.nodup_iff_pairwise_ne.1 hn).imp_of_mem fun {a b} ha hb hab e=>?_
 have:=h a ha;have:=h b hb;omega
structure WI (gs:List Gp) (op:Nat→Bool) (f:Nat→Int) (S K:Nat) (V:List (Nat×Int)):Prop where
 s:Srch gs op f S K V
 no:∀ x∈V,K.testBit x.1=false
structure QN (e sz:Nat) (rows:List (List Value)) where
 a:Option Addr
 c:Nat
 G:Z6
 ok:(rows=[]∧a=none∧c=0∧G=[])∨∃ q:OQ e sz rows,q.fs = .slice a rows.length c∧q.G=G
def QN.of {e sz:Nat} {rows:List (List Value)} (q:OQ e sz rows):QN e sz rows:=⟨some ⟨q.b,q.off,none⟩,q.cap,q.G,.inr ⟨q,rfl,rfl⟩⟩
theorem QN.ofO {e sz:Nat} {rows:List (List Value)} (o:OSl e sz rows):∃ z:QN e sz rows,o.fs = .slice z.a rows.length z.c∧o.G=z.G:=by
 rcases o.is with ⟨rfl,h2,h3⟩ | ⟨b,cap,junk,h2,h3,h4,h5,h6⟩
 · exact ⟨⟨none,0,[],.inl ⟨rfl,rfl,rfl,rfl⟩⟩,h2,h3⟩
 · exact ⟨QN.of ⟨b,0,cap,[],junk,o.len,rfl,by omega,h5,h6⟩,h2,h3⟩
def QN.cast {e sz:Nat} {rows rows':List (List Value)} (q:QN e sz rows) (h:rows=rows'):QN e sz rows':=h▸q
theorem QN.cast_a {e sz:Nat} {rows rows':List (List Value)} (q:QN e sz rows) (h:rows=rows'):(q.cast h).a=q.a∧(q.cast h).c=q.c∧(q.cast h).G=q.G:=by subst h;exact ⟨rfl,rfl,rfl⟩
theorem Z47 {V:List (Nat×Int)} {j:Nat} {p:Nat×Int} (h:V[j]?=some p):irows ((vb V).drop j)=[.int .i64 (p.1:Int)]::irows ((vb V).drop (j+1)):=by
 have:(vb V)[j]?=some (p.1:Int):=by unfold vb;rw [List.getElem?_map,h];rfl
 rw [List.drop_eq_getElem_cons (List.getElem?_eq_some_iff.1 this).1,(List.getElem?_eq_some_iff.1 this).2];rfl
theorem ZnS {V:List (Nat×Int)} {j:Nat} (h:j≤V.length) (u:Nat) (z:Int):irows ((vb V).drop j)++[[.int .i64 (u:Int)]]=irows ((vb (V++[(u,z)])).drop j):=by
 have h2:vb (V++[(u,z)])=vb V++[(u:Int)]:=by unfold vb;rw [List.map_append];rfl
 rw [h2,List.drop_append_of_le_length (by unfold vb;rw [List.length_map];exact h)]
 simp [irows]
theorem ZaO (V:List (Nat×Int)):(vb V).length=V.length:=List.length_map _
theorem irl (l:List Int):(irows l).length=l.length:=List.length_map _
theorem Zn9 {gs:List Gp} {op:Nat→Bool} {fl:List Int} {u k v:Nat} {g:Gp} (hg:gs[k]?=some g) (hr:0≤g.a∧0≤g.b) (hop:op k=true) (he:(g.a.toNat=u∧g.b.toNat=v)∨(g.b.toNat=u∧g.a.toNat=v)) (hne:g.a≠g.b) (h:frB gs fl k u=true):Stp gs op (na fl) u k v:=by
 rw [Z60 hg] at h
 refine ⟨g,hg,hop,?_⟩
 by_cases e:g.a=u
 · rw [decide_eq_true e,cond_true,decide_eq_true_eq] at h
   exact .inl ⟨by omega,by omega,h⟩
 · rw [decide_eq_false e,cond_false,decide_eq_true_eq] at h
   exact .inr ⟨by omega,by omega,h⟩
theorem Zpu {gs:List Gp} {op:Nat→Bool} {fl:List Int} {u k v:Nat} {g:Gp} (hg:gs[k]?=some g) (hr:0≤g.a∧0≤g.b) (hne:g.a≠g.b) (h:frB gs fl k u=false):¬ Stp gs op (na fl) u k v:=by
 rw [Z60 hg] at h
 rintro ⟨g',h1,_,h2⟩
 rw [hg] at h1
 obtain rfl:=Option.some.inj h1
 by_cases e:g.a=u
 · rw [decide_eq_true e,cond_true,decide_eq_false_iff_not] at h
   rcases h2 with h2 | h2<;>omega
 · rw [decide_eq_false e,cond_false,decide_eq_false_iff_not] at h
   rcases h2 with h2 | h2<;>omega
def ZqJ (gs:List Gp) (op:Nat→Bool) (f:Nat→Int) (S K:Nat) (H:Z6) (R:Z5):Value→Z6→Z5→Prop:=fun v H' R'=>∃ (V:List (Nat×Int)) (m:Nat) (a:Option Addr) (c:Nat) (l:List (Nat×Nat)),
 v = .tuple #[.slice a l.length c,.map (some m)]∧H'=(m,ZJ false (vkv V))::H∧R'=RowsA a 1 (irows (l.map fun x=>(x.1:Int)))::R∧Srch gs op f S K V ∧
 ((l=[]∧Shn gs op f S K V)∨(l≠[]∧∃ u w,WayK gs op f S K u l w∧w∈V.map (·.1)∧∀ x∈V,K.testBit x.1=true→x.1=w))
theorem pW9 {α:Type} (A M H:List α) (b:α):(A++(b::(M++H))).Perm (M++(A++(b::H))):=((List.perm_middle (l₁:=M)).symm.append_left A).trans (List.perm_append_comm_assoc A M _)
def ZqI (gs:List Gp) (op:Nat→Bool) (f:Nat→Int) (S K:Nat) (H:Z6) (R:Z5):Value→Z6→Z5→Prop:=fun v H' R'=>∃ (V:List (Nat×Int)) (m:Nat) (l:List (Nat×Nat)) (o:OSl 3 1 (irows (l.map fun x=>(x.1:Int)))),
 v = .tuple #[o.fs,.map (some m)]∧H'=o.G++((m,ZJ false (vkv V))::H)∧R'=R∧Srch gs op f S K V ∧
 ((l=[]∧Shn gs op f S K V)∨(l≠[]∧∃ u w,WayK gs op f S K u l w∧w∈V.map (·.1)∧∀ x∈V,K.testBit x.1=true→x.1=w))
def Zga (l:List (Nat×Nat)):List Int:=(l.map fun x=>(x.1:Int)).reverse
theorem Ze0 (i u:Nat) (l:List (Nat×Nat)):Zga ((i,u)::l)=Zga l++[(i:Int)]:=by unfold Zga;rw [List.map_cons,List.reverse_cons]
theorem Zgb (l:List (Nat×Nat)):(Zga l).reverse=l.map fun x=>(x.1:Int):=by unfold Zga;rw [List.reverse_reverse]
theorem Z1n {H:Z6} {R:Z5} {kv:KV} {s:Int} {v:Value} {m:Nat} (h1:∀ e∈kv,e.1.length=1) (hg:kv.get [s]=some v) [mm:Mem1 m (ZJ false kv) H] :
   ∀ w,St H R w→Lkp Tryz.prog 268 (.map (some m)) (mkv false [s]) false v w:=fun w hw=>by
 have h:=Z19 (b:=false) (m:=m) (H:=H) (R:=R) kv [s] Z5m (KeyT.of Z2h Z2Y) (ZQ zv3) rfl h1 false w hw
 rw [hg] at h
 exact h
set_option maxHeartbeats 2000000 in
theorem ZkN (d:Dk) (hd:d.Ok) (fl:List Int) (hfl:fl.length=10) (fr to_:List Int) (af at_:Option Addr) (cf ct:Nat) (hfr:∀ x∈fr,0≤x∧x<7) (hto:∀ x∈to_,0≤x∧x<7) (hnf:fr.Nodup) (hnt:to_.length≤1000000) (hdis:∀ x∈fr,x∉to_) (H:Z6) (R:Z5) [hD:MemRows (some ⟨d.bd,0,none⟩) 4 [d.row] R] [hG:MemRows d.ag 2 (grows d.h.gaps) R] [hS:MemRows d.as_ 3 (srows d.h.sights) R] [sR:SubF d.R0 R] [hF:MemRows af 1 (irows fr) R] [hT:MemRows at_ 1 (irows to_) R] :
    Fn Tryz.prog 225 [.pointer (some ⟨d.bd,0,none⟩),.agg (Ze fl).toArray,.slice af fr.length cf,.slice at_ to_.length ct] H R (ZqI d.h.gaps (fun i=>!d.cl.testBit i) (na fl) (msk fr) (msk to_) H R):=by
 refine Z7W Tryz.func225 rfl Tryz.ntmps225 rfl ?_
 refine sqt 5 rfl ?_
 have hok:=hd.ok
 have hbn:=hok.bins
 have hab:∀ (i:Nat) (g:Gp),d.h.gaps[i]?=some g→g.a.toNat≠g.b.toNat:=fun i g hg=>by have:=hok.gaps g (List.mem_of_getElem? hg);omega
 have hfn:∀ x∈fr,0≤x:=fun x hx=>(hfr x hx).1
 have hfl7:fr.length≤7:=by
   have h2:=(Zdc hfn hnf).length_le_of_subset (l₂:=List.range 7) fun v hv=>by
     obtain ⟨x,hx,rfl⟩:=List.mem_map.1 hv
     have:=hfr x hx
     exact List.mem_range.2 (by omega)
   simpa using h2
 have hns:∀ v:Nat,(msk fr).testBit v=true→(msk to_).testBit v=false:=fun v hv=>by
   cases hk:(msk to_).testBit v with
   | false=>rfl
   | true=>exact absurd ((ZU (fun k hk=>(hto k hk).1) v).1 hk) (hdis _ ((ZU hfn v).1 hv))
 refine bx rfl rfl rfl (fun b4=>bx rfl rfl rfl (fun b5=>bx rfl rfl rfl (fun b7=>pur 2 rfl (Z7p (sqt 3 rfl ?_)))))
 refine mkm rfl rfl false (fun m=>?_)
 refine alc rfl Zqb rfl (fun b10=>?_)
 refine sto rfl rfl rfl Zpk rfl rfl rfl rfl ?_
 refine Z0 (sqt 3 rfl (pur 1 rfl (sp rfl (PE.lenSl ZO rfl) rfl (pur 1 rfl (Z2 ?_)))))
 refine Zd (ι:={k:Nat // k≤fr.length}) (fun k=>⟨[(2,.slice af fr.length cf),(4,.pointer (some ⟨b4,0,none⟩)),(5,.pointer (some ⟨b5,0,none⟩)),(7,.pointer (some ⟨b7,0,none⟩)),(10,.pointer (some ⟨b10,0,none⟩)),(24,.slice af fr.length cf),(25,.int .i64 fr.length),(26,.int .i64 k.1)],(b10,cel 268 [.map (some m)])::(m,ZJ false (vkv (frV (fr.take k.1))))::(b7,cel 23 [.slice at_ to_.length ct])::(b5,cel 267 (Ze fl))::(b4,cel 173 [.pointer (some ⟨d.bd,0,none⟩)])::H,R⟩) (fun k=>fr.length-k.1) ⟨0,Nat.zero_le _⟩ ?_ (fun k=>?_)
 exact Zf idH
 ·
  obtain ⟨k,hk⟩:=k
  dsimp only at hk ⊢
  refine sqt 1 rfl (pur 1 rfl (Z0 ?_))
  refine Z1 rfl ?_ ?_<;>intro hc0<;>try simp only [cS] at hc0
  obtain ⟨x,hx⟩:∃ x,fr[k]?=some x:=⟨_,List.getElem?_eq_getElem (by omega)⟩
  obtain ⟨u,rfl⟩:∃ u:Nat,x=u:=⟨x.toNat,by have:=hfr x (List.mem_of_getElem? hx);omega⟩
  have hun:u∉(frV (fr.take k)).map (·.1):=by
    rw [Zdb]
    intro hm
    obtain ⟨y,hy,e⟩:=List.mem_map.1 hm
    have hy0:=hfn y (List.mem_of_mem_take hy)
    obtain ⟨i,hi⟩:=List.getElem?_of_mem hy
    have hik:i<k:=by have:=(List.getElem?_eq_some_iff.1 hi).1;rw [List.length_take] at this;omega
    rw [List.getElem?_take,if_pos hik] at hi
    have hl1:=(List.getElem?_eq_some_iff.1 hi).1
    have h3:=(List.getElem_inj hnf).1 ((List.getElem?_eq_some_iff.1 hi).2.trans ((show y=(u:Int) by omega).trans (List.getElem?_eq_some_iff.1 hx).2.symm))
    omega
  refine Zj (a:=af) (sz:=1) (rows:=irows fr) (ne0 (by rw [irl];omega)) (fun ba oa he=>?_)
  subst he
  refine Z3 (Z0 (Z2 (sqt 3 rfl (sp rfl (PE.indexAddr Z0D rfl rfl (by omega) (by omega)) rfl (spL rfl rfl (lf0 sc3 (ir_get hx) rfl) rfl (pur 1 rfl (sqr 3 rfl (spL rfl rfl (lh Z9g rfl rfl) rfl (pur 1 rfl ?_)))))))))
  refine mpu (vkv (frV (fr.take k))) [(u:Int)] (v:=.int .i64 (-1)) rfl Z5m (KeyT.of Z2h Z2Y) rfl rfl rfl rfl Z2C ?_
  rw [ZeD hun,← ZfN hx]
  refine sqr 2 rfl (sp rfl (PE.add rfl rfl (by omega)) rfl (pur 1 rfl ?_))
  exact Zb ⟨k+1,by omega⟩ idH
  ·
   obtain rfl:k=fr.length:=by omega
   rw [List.take_length]
   refine Z7 (Z8 (Z8 (Zi (sqt 4 rfl (pur 1 rfl ?_)))))
   refine cl rfl ZlQ rfl rfl (Z8F fr af cf (by omega) _ _) ?_
   rintro _ _ R1 ⟨o,rfl,rfl,hR1,_⟩
   obtain rfl:=hR1.symm
   clear hR1
   obtain ⟨z0,hz0,hzG⟩:=QN.ofO o
   rw [hz0,hzG,irl]
   clear hz0 hzG
   refine alc rfl Zog rfl (fun b13=>?_)
   refine sto rfl rfl rfl ZiB rfl rfl rfl rfl ?_
   refine sqt 2 rfl (alc rfl zl3 rfl (fun b14=>?_))
   refine sto rfl rfl rfl cn3 rfl rfl rfl rfl ?_
   refine Z0 (Z7o (Z0 (Z2 ?_)))
   have hvb:irows fr=irows ((vb (frV fr)).drop 0):=by rw [Zn8 hfn];rfl
   have hz:=z0.cast_a hvb
   have hs0:Srch d.h.gaps (fun i=>!d.cl.testBit i) (na fl) (msk fr) (msk to_) (frV fr):=Srch.start (Zdc hfn hnf) (fun u hu=>by obtain ⟨x,hx,rfl⟩:=List.mem_map.1 hu;have:=hfr x hx;omega) (fun u=>by
     rw [ZU hfn]
     constructor
     · intro h;exact List.mem_map.2 ⟨_,h,by omega⟩
     · intro h;obtain ⟨x,hx,rfl⟩:=List.mem_map.1 h;have:=hfn x hx;rw [show ((x.toNat:Nat):Int)=x by omega];exact hx)
   have hw0:WI d.h.gaps (fun i=>!d.cl.testBit i) (na fl) (msk fr) (msk to_) (frV fr):=⟨hs0,fun x hx=>by
     have h1:x.1∈(frV fr).map (·.1):=List.mem_map.2 ⟨x,hx,rfl⟩
     rw [Zdb] at h1
     obtain ⟨y,hy,e⟩:=List.mem_map.1 h1
     refine hns x.1 ((ZU hfn _).2 ?_)
     have:=hfn y hy
     rw [show ((x.1:Nat):Int)=y by omega];exact hy⟩
   rw [← hz.1,← hz.2.1,← hz.2.2]
   have hfe:fr.length=(frV fr).length-0:=by unfold frV;simp
   rw [show Value.slice (z0.cast hvb).a fr.length (z0.cast hvb).c = .slice (z0.cast hvb).a ((frV fr).length-0) (z0.cast hvb).c by rw [← hfe]]
   refine Z3C (ι:=(y:{y:List (Nat×Int)×Nat×List Nat // WI d.h.gaps (fun i=>!d.cl.testBit i) (na fl) (msk fr) (msk to_) y.1∧y.2.1≤y.1.length∧∀ q x,q<y.2.1→y.1[q]?=some x→∀ i v,Stp d.h.gaps (fun i=>!d.cl.testBit i) (na fl) x.1 i v→v∈y.1.map (·.1)})×QN 3 1 (irows ((vb y.1.1).drop y.1.2.1))) (fun y=>⟨[(4,.pointer (some ⟨b4,0,none⟩)),(5,.pointer (some ⟨b5,0,none⟩)),(7,.pointer (some ⟨b7,0,none⟩)),(10,.pointer (some ⟨b10,0,none⟩)),(13,.pointer (some ⟨b13,0,none⟩)),(14,.pointer (some ⟨b14,0,none⟩))],mks y.1.1.2.2,(b14,cel 3 [.int .i64 (-1)])::(b13,cel 23 [.slice y.2.a (y.1.1.1.length-y.1.1.2.1) y.2.c])::(y.2.G++((b10,cel 268 [.map (some m)])::(m,ZJ false (vkv (y.1.1.1)))::(b7,cel 23 [.slice at_ to_.length ct])::(b5,cel 267 (Ze fl))::(b4,cel 173 [.pointer (some ⟨d.bd,0,none⟩)])::(mkh y.1.1.2.2++H))),R⟩) (fun y=>8-y.1.1.2.1) ⟨⟨(frV fr,0,[]),hw0,Nat.zero_le _,fun q x h=>absurd h (Nat.not_lt_zero _)⟩,z0.cast hvb⟩ ?_ (fun y=>?_)
   exact Z8o sbA rfl idH
   ·
    obtain ⟨⟨⟨V,j,mk⟩,hwi,hjv,hcl⟩,a,c,G,hz⟩:=y
    dsimp only at hwi hjv hcl hz ⊢
    have hfew:=hwi.s.few
    refine Z0 (sqt 3 rfl (spL rfl rfl (lh Z2w rfl rfl) rfl (sp rfl (PE.lenSl ZO rfl) rfl (pur 1 rfl ?_))))
    refine Z1 rfl ?_ ?_<;>intro hc1<;>try simp only [cS] at hc1
    ·
     obtain ⟨p,hp⟩:∃ p,V[j]?=some p:=⟨_,List.getElem?_eq_getElem (by omega)⟩
     obtain ⟨u,zu⟩:=p
     rcases hz with ⟨h0,_⟩ | ⟨q,hqf,rfl⟩
     · exfalso;have:=congrArg List.length h0;rw [irl,List.length_drop,ZaO,List.length_nil] at this;omega
     unfold OQ.fs at hqf
     cases hqf
     have hu7:=hwi.s.lt _ (List.mem_of_getElem? hp)
     dsimp only at hu7
     refine Sy.heap (H':=(b14,cel 3 [.int .i64 (-1)])::(b13,cel 23 [.slice (some ⟨q.b,q.off,none⟩) (V.length-j) q.cap])::(q.b,cel 3 (q.pre++((irows ((vb V).drop j)).flatten++q.junk)))::((b10,cel 268 [.map (some m)])::(m,ZJ false (vkv (V)))::(b7,cel 23 [.slice at_ to_.length ct])::(b5,cel 267 (Ze fl))::(b4,cel 173 [.pointer (some ⟨d.bd,0,none⟩)])::(mkh mk++H))) idH ?_
     have hat:(q.pre++((irows ((vb V).drop j)).flatten++q.junk))[q.off+(0:Int).toNat*1]?=some (.int .i64 (u:Int)):=by
       have hfl2:(irows ((vb V).drop j)).flatten = .int .i64 (u:Int)::(irows ((vb V).drop (j+1))).flatten:=by rw [Z47 hp,List.flatten_cons];rfl
       rw [hfl2,show q.off+(0:Int).toNat*1=q.pre.length by rw [q.pl];simp,List.getElem?_append_right (Nat.le_refl _),Nat.sub_self];rfl
     obtain ⟨q2,hq2,hqG2⟩:=(q.cast (Z47 hp)).pop
     have hqc:(q.cast (Z47 hp)).b=q.b∧(q.cast (Z47 hp)).off=q.off∧(q.cast (Z47 hp)).cap=q.cap:=by
       generalize Z47 hp=e
       generalize [Value.int .i64 ((u,zu).1:Int)]::irows ((vb V).drop (j+1))=r at e
       subst e;exact ⟨rfl,rfl,rfl⟩
     rw [hqc.1,hqc.2.1,hqc.2.2,irl,List.length_drop,ZaO] at hq2
     rw [OQ.cast_G] at hqG2
     refine Z3 (Z2 (sqt 5 rfl (spL rfl rfl (lh Z2w rfl rfl) rfl (sp rfl (PE.indexAddr Z0D rfl rfl (by omega) (by omega)) rfl (spL rfl rfl (lh sc3 rfl hat) rfl (alc rfl zl3 rfl (fun b15=>?_)))))))
     refine sto rfl rfl rfl cn3 rfl rfl rfl rfl ?_
     refine sqt 3 rfl (spL rfl rfl (lh Z2w rfl rfl) rfl (sp rfl (PE.slLoA (l:=1) Z1H rfl rfl (by omega)) rfl ?_))
     have hq2e:Value.slice (if q.cap=1 then some ⟨q.b,q.off,none⟩ else (some (⟨q.b,q.off,none⟩:Addr)).map (·.add (1*1))) (V.length-j-1) (q.cap-1)=q2.fs:=by
       rw [hq2,Option.map_some,ZR,show V.length-(j+1)=V.length-j-1 by omega]
     rw [hq2e]
     refine Zy (l':=[q2.fs]) rfl rfl rfl ZiB rfl rfl rfl rfl (Nat.le_refl _) ?_
     refine Sy.heap (H':=(b15,cel 3 [.int .i64 (u:Int)])::(b14,cel 3 [.int .i64 (-1)])::(b13,cel 23 [q2.fs])::(q2.G++((b10,cel 268 [.map (some m)])::(m,ZJ false (vkv (V)))::(b7,cel 23 [.slice at_ to_.length ct])::(b5,cel 267 (Ze fl))::(b4,cel 173 [.pointer (some ⟨d.bd,0,none⟩)])::(mkh mk++H)))) (fun w h=>by rw [hqG2];exact h) ?_
     refine sqt 3 rfl (spL rfl rfl (lh Z7c rfl rfl) rfl (spL rfl rfl (lh sc3 rfl rfl) rfl ?_))
     refine cl rfl Zl6 rfl rfl (ZoI d.bd (u:Int) _ _) ?_
     rintro _ _ _ ⟨xd,xb,rfl,rfl,rfl⟩
     refine Z2 ?_
     refine Z3D rfl ZlP (fun c0 bl0 bd0 hcp0 hca0 hcb0 hck0=>?_)
     refine ⟨fun st pend T R'=>(st = .ready∧pend=none∧∃ (E:List (Nat×Int)) (q3:OQ 3 1 (irows ((vb (V++E)).drop (j+1)))),WI d.h.gaps (fun i=>!d.cl.testBit i) (na fl) (msk fr) (msk to_) (V++E)∧(∀ i<d.h.gaps.length,∀ v,Stp d.h.gaps (fun i=>!d.cl.testBit i) (na fl) u i v→v∈(V++E).map (·.1))∧T=(bd0,.deferred (some []))::(b15,cel 3 [.int .i64 (u:Int)])::(b14,cel 3 [.int .i64 (-1)])::(b13,cel 23 [q3.fs])::(q3.G++((b10,cel 268 [.map (some m)])::(m,ZJ false (vkv (V++E)))::(b7,cel 23 [.slice at_ to_.length ct])::(b5,cel 267 (Ze fl))::(b4,cel 173 [.pointer (some ⟨d.bd,0,none⟩)])::(mkh mk++H)))∧R'=RowsA (some ⟨xb,0,none⟩) 1 [[.int .i64 (u:Int)]]::RowsA (some ⟨xd,0,none⟩) 1 [[.pointer (some ⟨d.bd,0,none⟩)]]::R)∨(st = .done∧pend=some (.exit 2)∧∃ (V2:List (Nat×Int)) (w:Nat) (q3:OQ 3 1 (irows ((vb V2).drop (j+1)))),Srch d.h.gaps (fun i=>!d.cl.testBit i) (na fl) (msk fr) (msk to_) V2∧(msk to_).testBit w=true∧w∈V2.map (·.1)∧(∀ x∈V2,(msk to_).testBit x.1=true→x.1=w)∧T=(bd0,.deferred (some []))::(b15,cel 3 [.int .i64 (u:Int)])::(b14,cel 3 [.int .i64 (w)])::(b13,cel 23 [q3.fs])::(q3.G++((b10,cel 268 [.map (some m)])::(m,ZJ false (vkv (V2)))::(b7,cel 23 [.slice at_ to_.length ct])::(b5,cel 267 (Ze fl))::(b4,cel 173 [.pointer (some ⟨d.bd,0,none⟩)])::(mkh mk++H)))∧R'=RowsA (some ⟨xb,0,none⟩) 1 [[.int .i64 (u:Int)]]::RowsA (some ⟨xd,0,none⟩) 1 [[.pointer (some ⟨d.bd,0,none⟩)]]::R),
       Fn.mono (ZkG d hd u ⟨by omega,by omega⟩ xd xb bl0 (fun k H' R'=>∃ (E:List (Nat×Int)) (q3:OQ 3 1 (irows ((vb (V++E)).drop (j+1)))),WI d.h.gaps (fun i=>!d.cl.testBit i) (na fl) (msk fr) (msk to_) (V++E)∧(∀ i<k,∀ v,Stp d.h.gaps (fun i=>!d.cl.testBit i) (na fl) u i v→v∈(V++E).map (·.1))∧H'=(bl0,lob c0 .ready none)::(bd0,.deferred (some []))::(b15,cel 3 [.int .i64 (u:Int)])::(b14,cel 3 [.int .i64 (-1)])::(b13,cel 23 [q3.fs])::(q3.G++((b10,cel 268 [.map (some m)])::(m,ZJ false (vkv (V++E)))::(b7,cel 23 [.slice at_ to_.length ct])::(b5,cel 267 (Ze fl))::(b4,cel 173 [.pointer (some ⟨d.bd,0,none⟩)])::(mkh mk++H)))∧R'=RowsA (some ⟨xb,0,none⟩) 1 [[.int .i64 (u:Int)]]::RowsA (some ⟨xd,0,none⟩) 1 [[.pointer (some ⟨d.bd,0,none⟩)]]::R) (fun H' R'=>∃ (V2:List (Nat×Int)) (w:Nat) (q3:OQ 3 1 (irows ((vb V2).drop (j+1)))),Srch d.h.gaps (fun i=>!d.cl.testBit i) (na fl) (msk fr) (msk to_) V2∧(msk to_).testBit w=true∧w∈V2.map (·.1)∧(∀ x∈V2,(msk to_).testBit x.1=true→x.1=w)∧H'=(bl0,lob c0 .done (some (.exit 2)))::(bd0,.deferred (some []))::(b15,cel 3 [.int .i64 (u:Int)])::(b14,cel 3 [.int .i64 (w)])::(b13,cel 23 [q3.fs])::(q3.G++((b10,cel 268 [.map (some m)])::(m,ZJ false (vkv (V2)))::(b7,cel 23 [.slice at_ to_.length ct])::(b5,cel 267 (Ze fl))::(b4,cel 173 [.pointer (some ⟨d.bd,0,none⟩)])::(mkh mk++H)))∧R'=RowsA (some ⟨xb,0,none⟩) 1 [[.int .i64 (u:Int)]]::RowsA (some ⟨xd,0,none⟩) 1 [[.pointer (some ⟨d.bd,0,none⟩)]]::R)
         (fun i H' R' h9=>by obtain ⟨_,_,_,_,_,rfl⟩:=h9;exact ⟨List.mem_cons_of_mem _ (List.mem_cons_of_mem _ hD.mem),List.mem_cons_of_mem _ (List.mem_cons_of_mem _ hG.mem),by simp,by simp,fun g hg=>List.mem_cons_of_mem _ (List.mem_cons_of_mem _ (sR.sub g hg))⟩)
         (fun i g H' R' hg hn h9=>by
           obtain ⟨E,q3,h1,h2,h3,h4⟩:=h9
           refine ⟨E,q3,h1,fun i' hi' v hs=>?_,h3,h4⟩
           rcases Nat.lt_or_ge i' i with h5 | h5
           · exact h2 i' h5 v hs
           · obtain rfl:i'=i:=by omega
             obtain ⟨g',h6,h7,h8⟩:=hs
             rw [hg] at h6
             obtain rfl:=Option.some.inj h6
             have:=hok.gaps g (List.mem_of_getElem? hg)
             rcases hn with h9 | h9
             · have h7':(!d.cl.testBit i')=true:=h7
               rw [h9] at h7';cases h7'
             · omega)
         (fun k g q9 o9 H' R' hg hop hinc hI=>?_) _ _ ⟨[],q2.cast (by rw [List.append_nil]),by rw [List.append_nil];exact hwi,fun i hi=>absurd hi (Nat.not_lt_zero _),by rw [OQ.cast_fs,OQ.cast_G,List.append_nil],rfl⟩) (fun v H' R' h9=>?_),?_⟩
     rotate_left
     · rcases h9 with ⟨E,q3,h1,h2,rfl,rfl⟩ | ⟨V2,w,q3,h1,h2,h3,h4,rfl,rfl⟩
       · exact ⟨.ready,none,_,by simp,.refl _,.inl ⟨rfl,rfl,E,q3,h1,h2,rfl,rfl⟩⟩
       · exact ⟨.done,some (.exit 2),_,by simp,.refl _,.inr ⟨rfl,rfl,V2,w,q3,h1,h2,h3,h4,rfl,rfl⟩⟩
     rotate_left
     obtain ⟨E,q3,h1,h2,rfl,rfl⟩:=hI
     have hgo:=hok.gaps g (List.mem_of_getElem? hg)
     obtain ⟨v,hv,hv7,hadj,huq,hends⟩:=ZiO hg hop ⟨⟨by omega,by omega⟩,⟨by omega,by omega⟩,hgo.2.2⟩ hinc
     rw [hv]
     have hkg:=(List.getElem?_eq_some_iff.1 hg).1
     have hk10:=hok.gl
     have hfe:=h1.s.few
     obtain ⟨go,hgt⟩:∃ go,(vkv (V++E)).get [(v:Int)]=go:=⟨_,rfl⟩
     have hstep:∀ V2:List (Nat×Int),v∈V2.map (·.1)→∀ v2,Stp d.h.gaps (fun i=>!d.cl.testBit i) (na fl) u k v2→v2∈V2.map (·.1):=fun V2 hm v2 hs=>by
       obtain ⟨g',h6,h7,h8⟩:=hs
       rw [hg] at h6
       obtain rfl:=Option.some.inj h6
       rw [huq v2 (h8.imp (fun h=>⟨h.1,h.2.1⟩) (fun h=>⟨h.1,h.2.1⟩))]
       exact hm
     refine ZnZ hcp0 hca0 hcb0 hck0 rfl rfl ?_
     refine sqt 1 rfl (pur 1 rfl (sqr 1 rfl (pur 1 rfl ?_)))
     refine Z0A ?_
     refine Z2 (Z0 (sqt 8 rfl (spL rfl rfl (lh Z9g rfl rfl) rfl (pur 1 rfl ?_))))
     refine spK rfl rfl rfl (Z19 (b:=false) (vkv (V++E)) [(v:Int)] Z5m (KeyT.of Z2h Z2Y) (ZQ zv3) rfl Z2C true) rfl ?_
     rw [hgt]
     refine pur 5 rfl (sqt 9 rfl (pur 2 rfl ?_))
     refine Zq 55 rfl ?_ ?_<;>intro g55
     have hvm:=Z9t (hgt▸g55)
     refine pur 7 rfl ?_
     refine ZK rfl ?_
     refine Z7 (Z8 (Zi ?_))
     exact ZX (.inl ⟨rfl,_,rfl,E,q3,h1,fun i hi v2 hs=>(Nat.lt_succ_iff_lt_or_eq.1 hi).elim (fun h=>h2 i h v2 hs) (fun e=>by subst e;exact hstep _ hvm v2 hs),rfl,rfl⟩) idH
     have hvn:=Z9u h1.s.nd (hgt▸g55)
     refine Z0e rfl rfl rfl rfl rfl (lh Z7c rfl rfl) rfl (Z0e rfl rfl rfl rfl rfl (lhI fl ZeW rfl rfl (hfl)) rfl (pur 1 rfl (Z0e rfl rfl rfl rfl rfl (lh sc3 rfl rfl) rfl ?_)))
     refine Z6x rfl rfl rfl rfl Zmp rfl rfl (Zky d hd fl hfl k g hg (u:Int) _ _) ?_
     refine pur 2 rfl ?_
     refine Z1 rfl ?_ ?_<;>intro hc2
     have hfb:frB d.h.gaps fl k u=false:=by simpa using hc2
     refine Z7 (Z8 (Zi ?_))
     exact ZX (.inl ⟨rfl,_,rfl,E,q3,h1,fun i hi v2 hs=>(Nat.lt_succ_iff_lt_or_eq.1 hi).elim (fun h=>h2 i h v2 hs) (fun e=>by subst e;exact absurd hs (Zpu hg ⟨by omega,by omega⟩ hgo.2.2 hfb)),rfl,rfl⟩) idH
     have hfb:frB d.h.gaps fl k u=true:=by simpa using hc2
     have hst:Stp d.h.gaps (fun i=>!d.cl.testBit i) (na fl) u k v:=Zn9 hg ⟨by omega,by omega⟩ (by simp [hop]) hends hgo.2.2 hfb
     have hsm:=h1.s.more (j:=j) (y:=(u,zu)) (by rw [List.getElem?_append_left (List.getElem?_eq_some_iff.1 hp).1];exact hp) (hwi.no _ (List.mem_of_getElem? hp)) hst hv7 hvn
     have hsf:=hsm.few
     refine Z3 (sqt 4 rfl (spL rfl rfl (lh Z9g rfl rfl) rfl (pur 2 rfl ?_)))
     refine mpu (vkv (V++E)) [(v:Int)] (v:=.int .i64 (k:Int)) rfl Z5m (KeyT.of Z2h Z2Y) rfl rfl rfl rfl Z2C ?_
     rw [ZeD hvn]
     refine sqt 5 rfl (spL rfl rfl (lh Z2w rfl rfl) rfl (pur 1 rfl ?_))
     refine bsl (out:=[_]) rfl Z1H zl3 rfl rfl rfl rfl rfl rfl (fun b68=>?_)
     refine apQ q3 rfl Z6j rfl rfl (Z0y (row:=[.int .i64 (v:Int)]) rfl) rfl (by simp) rfl (by rw [irl,List.length_drop,ZaO];simp only [List.length_singleton];omega) rfl (fun q4=>?_)
     refine Zy (l':=[q4.fs]) rfl rfl rfl ZiB rfl rfl rfl rfl (Nat.le_refl _) ?_
     refine sqt 3 rfl ?_
     obtain ⟨q5,e5,g5⟩:∃ q5:OQ 3 1 (irows ((vb (V++E++[(v,(k:Int))])).drop (j+1))),q5.fs=q4.fs∧q5.G=q4.G:=⟨q4.cast (ZnS (by rw [List.length_append];omega) v k),OQ.cast_fs _ _,OQ.cast_G _ _⟩
     have hvm:v∈(V++E++[(v,(k:Int))]).map (·.1):=by simp
     refine spL rfl rfl (lh Z2w rfl rfl) rfl (pur 1 rfl ?_)
     refine clV rfl Zis rfl rfl (Z1t to_ at_ ct v (by omega) _ _) ?_
     refine Z1 rfl ?_ ?_<;>intro hc3
     have hkv:(msk to_).testBit v=true:=(ZU (fun k hk=>(hto k hk).1) v).2 (hasI_iff.1 hc3)
     refine sqt 2 rfl (pur 1 rfl ?_)
     refine sto rfl rfl rfl cn3 rfl rfl rfl rfl ?_
     refine Z7 (ZW (by decide) ?_)
     exact Z8p (.inr ⟨rfl,_,rfl,V++E++[(v,(k:Int))],v,q5,hsm,hkv,hvm,fun x hx hxk=>by
       rcases List.mem_append.1 hx with h5 | h5
       · rw [h1.no x h5] at hxk;cases hxk
       · rw [List.mem_singleton.1 h5],rfl,rfl⟩) (fun _ h=>by rw [e5,g5];exact h.del b68)
     have hkv:(msk to_).testBit v=false:=by
       cases hb:(msk to_).testBit v with
       | false=>rfl
       | true=>have h8:Z6S to_ v=false:=hc3;rw [hasI_iff.2 ((ZU (fun k hk=>(hto k hk).1) v).1 hb)] at h8;cases h8
     refine Z3 ?_
     obtain ⟨q6,e6,g6⟩:∃ q6:OQ 3 1 (irows ((vb (V++(E++[(v,(k:Int))]))).drop (j+1))),q6.fs=q5.fs∧q6.G=q5.G:=⟨q5.cast (by rw [List.append_assoc]),OQ.cast_fs _ _,OQ.cast_G _ _⟩
     exact ZX (.inl ⟨rfl,_,rfl,E++[(v,(k:Int))],q6,by
         rw [← List.append_assoc]
         exact ⟨hsm,fun x hx=>by
           rcases List.mem_append.1 hx with h5 | h5
           · exact h1.no x h5
           · rw [List.mem_singleton.1 h5];exact hkv⟩,fun i hi v2 hs=>by
         rw [← List.append_assoc]
         rcases Nat.lt_succ_iff_lt_or_eq.1 hi with h | h
         · have:=h2 i h v2 hs;rw [List.map_append];exact List.mem_append_left _ this
         · subst h;exact hstep _ hvm v2 hs,rfl,rfl⟩) (fun _ h=>by rw [e6,g6,e5,g5,← List.append_assoc];exact h.del b68)
     rintro _ _ _ _ (⟨rfl,rfl,E,q3,h1,h2,rfl,rfl⟩ | ⟨rfl,rfl,V2,w,q3,hsr,hkw,hwm,hun,rfl,rfl⟩)
     rotate_left
     refine Sy.heap (H':=(b14,cel 3 [.int .i64 (w:Int)])::(b10,cel 268 [.map (some m)])::(m,ZJ false (vkv (V2)))::(b5,cel 267 (Ze fl))::(b4,cel 173 [.pointer (some ⟨d.bd,0,none⟩)])::(mkh (bd0::mk)++H)) (R':=R) (fun w9 h=>St.sub ((St.drop (G:=q3.G) ((((h.del b15).del b13).del b7).perm (ZF [_,_] q3.G _))).perm (ZF [_] [_,_,_,_,_] _))) ?_
     rotate_left
     refine Zev ?_
     have hj1:=(List.getElem?_eq_some_iff.1 hp).1
     exact Z4K ⟨⟨(V++E,j+1,bd0::mk),h1,by dsimp only;rw [List.length_append];omega,fun q x hq hx i v hs=>by
       rcases Nat.lt_or_ge q j with h5 | h5
       · rw [List.getElem?_append_left (by omega)] at hx
         have:=hcl q x h5 hx i v hs
         rw [List.map_append];exact List.mem_append_left _ this
       · obtain rfl:q=j:=by dsimp only at hq;omega
         rw [List.getElem?_append_left (by omega),hp] at hx
         obtain rfl:=Option.some.inj hx
         exact h2 i (by obtain ⟨g',h6,_⟩:=hs;exact (List.getElem?_eq_some_iff.1 h6).1) v hs⟩,QN.of q3⟩ (by dsimp only;omega) sbA rfl (fun w h=>by
       have e9:q3.fs = .slice (some ⟨q3.b,q3.off,none⟩) ((V++E).length-(j+1)) q3.cap:=by unfold OQ.fs;rw [irl,List.length_drop,ZaO]
       rw [e9] at h
       exact St.sub ((h.del b15).perm ((ZF [_] [_,_] _).trans (List.Perm.append_left [_,_] ((ZF [_] q3.G _).trans (List.Perm.append_left q3.G (ZF [_] [_,_,_,_,_] _)))))))
     refine ZnN ?_
     refine Z7 (ZW (by decide) (ZW (by decide) (Z8 (Zi (sqt 1 rfl (pur 1 rfl (Z0 (sqt 2 rfl (spL rfl rfl (lh sc3 rfl rfl) rfl (pur 1 rfl (Z2 ?_)))))))))))
     obtain ⟨xw,hxw,hxe⟩:=List.mem_map.1 hwm
     obtain ⟨w',zw⟩:=xw
     dsimp only at hxe
     subst hxe
     obtain ⟨qw,hqw⟩:=List.getElem?_of_mem hxw
     refine Z3C (ι:=(x:{x:Nat×Nat×List (Nat×Nat) // Back d.h.gaps (fun i=>!d.cl.testBit i) (na fl) (msk fr) (msk to_) V2 w' x.1 x.2.1 x.2.2})×OSl 3 1 (irows (Zga x.1.2.2))) (fun y=>⟨[(4,.pointer (some ⟨b4,0,none⟩)),(10,.pointer (some ⟨b10,0,none⟩)),(20,y.2.fs),(21,.int .i64 (y.1.1.2.1:Int))],mks (bd0::mk),y.2.G++((b14,cel 3 [.int .i64 (w':Int)])::(b10,cel 268 [.map (some m)])::(m,ZJ false (vkv (V2)))::(b5,cel 267 (Ze fl))::(b4,cel 173 [.pointer (some ⟨d.bd,0,none⟩)])::(mkh (bd0::mk)++H)),R⟩) (fun y=>y.1.1.1) ⟨⟨(qw,w',[]),Back.start hqw⟩,OSl.nil _ _⟩ ?_ (fun y=>?_)
     exact Z8o sbA rfl idH
     obtain ⟨⟨⟨q,u2,l⟩,hb⟩,o⟩:=y
     dsimp only at hb o ⊢
     obtain ⟨z,hz2⟩:=hb.at_
     have hget:=ZeC hsr.nd (List.mem_of_getElem? hz2)
     have hqf:=hsr.few
     have hq7:=(List.getElem?_eq_some_iff.1 hz2).1
     have hll:l.length≤10:=by
       have h9:=hb.nd.length_le_of_subset (l₂:=List.range 10) fun v hv=>by
         obtain ⟨x,hx,rfl⟩:=List.mem_map.1 hv
         obtain ⟨g,y,h1,_⟩:=hb.way.mem x hx
         have:=(List.getElem?_eq_some_iff.1 h1).1
         have:=hok.gl
         exact List.mem_range.2 (by omega)
       simpa using h9
     refine Z0 (sqt 8 rfl (pur 3 rfl ?_))
     refine Zq 77 rfl ?_ ?_<;>intro g77
     refine Z0e rfl rfl rfl rfl rfl (lh Z9g rfl rfl) rfl (pur 1 rfl ?_)
     refine Zrn rfl rfl rfl rfl rfl rfl ((Z1n Z2C hget)) rfl ?_
     refine pur 2 rfl ?_
     refine Z1 rfl ?_ ?_<;>intro hc4<;>try simp only [cS] at hc4
     obtain ⟨gi,p2,y2,g2,rfl,hpq,hgi,hend,hb2⟩:=hb.more hsr hab hz2 hc4
     have hgo2:=hok.gaps g2 (List.mem_of_getElem? hgi)
     have hgil:=(List.getElem?_eq_some_iff.1 hgi).1
     have hg10:=hok.gl
     refine Zj (a:=d.ag) (sz:=2) (rows:=grows d.h.gaps) (by intro h0;have:=congrArg List.length h0;rw [Z5h] at this;simp only [List.length_nil] at this;have:=(List.getElem?_eq_some_iff.1 hgi).1;omega) (fun bg og he=>?_)
     haveI:MemRows (some ⟨bg,og,none⟩) 2 (grows d.h.gaps) R:=⟨he▸hG.mem⟩
     refine Z3 (Z2 (sqt 4 rfl (spL rfl rfl (lh Z9g rfl rfl) rfl (pur 1 rfl ?_))))
     refine spK rfl rfl rfl ((Z1n Z2C hget)) rfl ?_
     refine pur 1 rfl (sqt 5 rfl (pur 2 rfl ?_))
     refine bsl (out:=[_]) rfl Z1H zl3 rfl rfl rfl rfl rfl rfl (fun b88=>?_)
     refine apO (o) rfl Z6j rfl rfl (Z0y (row:=[.int .i64 (gi:Int)]) rfl) rfl rfl ((by rw [irl];unfold Zga;rw [List.length_reverse,List.length_map];simp only [List.length_singleton];omega)) rfl (fun o89=>?_)
     refine pur 1 rfl ?_
     refine Za [0,1,3,7,15,0,63,127,255,0,512,1536,3584,7680,0,32256,65024,130560,262143,0,1048575,2097151] (.ld 0 (tks 1 3 (.ld 4 (tks 5 3 (.ld 8 (.ld 9 (tks 10 3 (.ld 13 (tks 14 3 (.ld 17 (tks 18 4 .done))))))))))) Zl (by kernel_rfl) ?_
     refine ld rfl rfl (lh Z7c rfl rfl) rfl (tk rfl (PE.nilCheck rfl) rfl (tk rfl (PE.fA Z2i rfl) rfl (tk rfl (PE.fA Z2m rfl) rfl (ld rfl rfl (lfB (sz:=4) (x:=.slice (some ⟨bg,og,none⟩) d.h.gaps.length d.cg) Zbu (by show some (d.h.sg d.ag d.cg)=_;unfold Hse.sg;rw [he])) rfl (Zg 1 rfl (tk rfl (PE.indexAddr ZfH rfl rfl (by omega) (by omega)) rfl (tk rfl (PE.fA Z1l rfl) rfl (ld rfl rfl (lf0 sc3 (Z25 hgi) rfl) rfl (ld rfl rfl (lh Z7c rfl rfl) rfl (tk rfl (PE.nilCheck rfl) rfl (tk rfl (PE.fA Z2i rfl) rfl (tk rfl (PE.fA Z2m rfl) rfl (ld rfl rfl (lfB (sz:=4) (x:=.slice (some ⟨bg,og,none⟩) d.h.gaps.length d.cg) Zbu (by show some (d.h.sg d.ag d.cg)=_;unfold Hse.sg;rw [he])) rfl (Zg 1 rfl (tk rfl (PE.indexAddr ZfH rfl rfl (by omega) (by omega)) rfl ?_)))))))))))))))
     refine tk rfl (PE.fA Z1m rfl) rfl (ld rfl rfl (lf (j:=1) sc3 (Z25 hgi) rfl) rfl (tk rfl (PE.add rfl rfl (by omega)) rfl (Zg 1 rfl (tk rfl (PE.sub rfl rfl (by omega)) rfl ?_))))
     rw [show g2.a+g2.b-(u2:Int)=((y2:Nat):Int) from by omega]
     refine Zg 1 rfl ?_
     exact Z4K ⟨⟨(p2,y2,(gi,u2)::l),hb2⟩,o89.cast (by rw [Ze0];simp [irows])⟩ hpq sbA rfl (fun w h=>h.del b88)
     have hz1:z = -1:=Classical.byContradiction fun e=>hc4 e
     subst hz1
     have hwk:=hb.stop hsr hz2 hkw
     have hl0:l≠[]:=fun e=>by
       subst e
       have h9:=hwk.way
       cases h9
       have:=hns _ hwk.from_
       rw [hkw] at this;cases this
     refine Z7 (Z8 (Z8 (Zi (sqt 2 rfl (pur 1 rfl ?_)))))
     refine cl rfl Zh3 rfl rfl (Z4R (Zga l) o (by unfold Zga;rw [List.length_reverse,List.length_map];omega) _ _) ?_
     rintro _ _ R1 ⟨o2,hof,rfl,rfl,hR1⟩
     obtain rfl:=hR1.symm
     clear hR1
     rw [← hof]
     obtain ⟨o3,e3,g3⟩:∃ o3:OSl 3 1 (irows (l.map fun x=>(x.1:Int))),o3.fs=o2.fs∧o3.G=o2.G:=⟨o2.cast (by rw [Zgb]),rfl,rfl⟩
     rw [← e3,← g3]
     refine Z0 ?_
     refine Za [0,0,1,7] (.tk 0 (.ld 1 (.tk 2 (.tk 3 .done)))) Zl (by kernel_rfl) ?_
     refine Zg 1 rfl (ld rfl rfl (lh Z9g rfl rfl) rfl (Zg 2 rfl (Z4 ?_)))
     exact Z0p (bd0::mk) (H:=o3.G++((m,ZJ false (vkv (V2)))::H)) (fun w h=>((((h.del b14).del b10).del b5).del b4).perm (pW9 o3.G (mkh (bd0::mk)) H _)) rfl (.cons (RV.tmp rfl) (.cons (RV.tmp rfl) .nil)) rfl ⟨V2,m,l,o3,rfl,rfl,rfl,hsr,.inr ⟨hl0,u2,w',hwk,hwm,hun⟩⟩ idH
     simp only [decide_eq_false_iff_not] at g77
     omega
    obtain rfl:j=V.length:=by omega
    have hshn:Shn d.h.gaps (fun i=>!d.cl.testBit i) (na fl) (msk fr) (msk to_) V:=⟨hwi.s,hwi.no,fun u v i hu hs=>by
      obtain ⟨x,hx,rfl⟩:=List.mem_map.1 hu
      obtain ⟨q,hq⟩:=List.getElem?_of_mem hx
      exact hcl q x (List.getElem?_eq_some_iff.1 hq).1 hq i v hs⟩
    refine Z7 (Z8 (Z8 (Zi (sqt 1 rfl (pur 1 rfl (Z0 (sqt 2 rfl (spL rfl rfl (lh sc3 rfl rfl) rfl (pur 1 rfl (Z2 ?_))))))))))
    refine Z3C (ι:=Unit) (fun _=>⟨[(4,.pointer (some ⟨b4,0,none⟩)),(10,.pointer (some ⟨b10,0,none⟩)),(20,.slice none 0 0),(21,.int .i64 (-1))],mks mk,(b14,cel 3 [.int .i64 (-1)])::(b13,cel 23 [.slice a (V.length-V.length) c])::(G++((b10,cel 268 [.map (some m)])::(m,ZJ false (vkv (V)))::(b7,cel 23 [.slice at_ to_.length ct])::(b5,cel 267 (Ze fl))::(b4,cel 173 [.pointer (some ⟨d.bd,0,none⟩)])::(mkh mk++H))),R⟩) (fun _=>0) () ?_ (fun x=>?_)
    exact Z8o sbA rfl idH
    refine Z0 (sqt 8 rfl (pur 3 rfl ?_))
    refine Zq 77 rfl ?_ ?_<;>intro g77
    exact absurd g77 (by decide)
    refine pur 5 rfl ?_
    refine Zt rfl ?_
    refine Z7 (Z8 (Z8 (Zi (sqt 2 rfl (pur 1 rfl ?_)))))
    refine clV rfl Zh3 rfl rfl (Z9H _ _) ?_
    refine Z0 ?_
    refine Za [0,0,1,7] (.tk 0 (.ld 1 (.tk 2 (.tk 3 .done)))) Zl (by kernel_rfl) ?_
    refine Zg 1 rfl (ld rfl rfl (lh Z9g rfl rfl) rfl (Zg 2 rfl (Z4 ?_)))
    exact Z0p mk (H:=(m,ZJ false (vkv (V)))::H) (R:=R) (fun w h=>((((((St.drop (G:=G) ((h.del b14).del b13)).del b10).del b7).del b5).del b4).perm (List.perm_middle (l₁:=mkh mk)).symm)) rfl (.cons (RV.tmp rfl) (.cons (RV.tmp rfl) .nil)) rfl ⟨V,m,[],OSl.nil _ _,rfl,rfl,rfl,hwi.s,.inl ⟨rfl,hshn⟩⟩ idH
theorem ZoJ (d:Dk) (hd:d.Ok) (fl:List Int) (hfl:fl.length=10) (fr to_:List Int) (af at_:Option Addr) (cf ct:Nat) (hfr:∀ x∈fr,0≤x∧x<7) (hto:∀ x∈to_,0≤x∧x<7) (hnf:fr.Nodup) (hnt:to_.length≤1000000) (hdis:∀ x∈fr,x∉to_) (H:Z6) (R:Z5) [hD:MemRows (some ⟨d.bd,0,none⟩) 4 [d.row] R] [hG:MemRows d.ag 2 (grows d.h.gaps) R] [hS:MemRows d.as_ 3 (srows d.h.sights) R] [sR:SubF d.R0 R] [hF:MemRows af 1 (irows fr) R] [hT:MemRows at_ 1 (irows to_) R]:Fn Tryz.prog 225 [.pointer (some ⟨d.bd,0,none⟩),.agg (Ze fl).toArray,.slice af fr.length cf,.slice at_ to_.length ct] H R (ZqJ d.h.gaps (fun i=>!d.cl.testBit i) (na fl) (msk fr) (msk to_) H R):=fun w hw=>by
 refine CallsIn.mono (ZkN d hd fl hfl fr to_ af at_ cf ct hfr hto hnf hnt hdis H R w hw) ?_
 rintro e' w' ⟨v,H',R',⟨V,m,l,o,rfl,rfl,rfl,h1,h2⟩,he,hs'⟩
 obtain ⟨a,c,heo,hfz⟩:=o.freeze
 rw [irl,List.length_map] at heo
 exact ⟨_,_,_,⟨V,m,a,c,l,by rw [heo],rfl,rfl,h1,h2⟩,he,hfz hs'⟩
theorem Zl9:cal Tryz.prog 150=true:=by kernel_rfl
theorem ZlU:cal Tryz.prog 225=true:=by kernel_rfl
theorem ZmS:Zz Tryz.prog 267=some 10:=by kernel_rfl
theorem ZjZ:Zp Tryz.prog 267=some ([.int .i64 0,.int .i64 0,.int .i64 0,.int .i64 0,.int .i64 0,.int .i64 0,.int .i64 0,.int .i64 0,.int .i64 0,.int .i64 0]):=by kernel_rfl
theorem Way.at_ {gs:List Gp} {op:Nat→Bool} {f:Nat→Int} {S K:Nat}:∀ {l:List (Nat×Nat)} {u w:Nat},Way gs op f S K u l w→∀ {q:Nat} {x:Nat×Nat},l[q]?=some x→∃ (g:Gp) (y:Nat),gs[x.1]?=some g∧((g.a.toNat=y∧g.b.toNat=x.2)∨(g.b.toNat=y∧g.a.toNat=x.2))∧(q=0→y=u)∧∀ q',q=q'+1→∃ z,l[q']?=some z∧z.2=y
 | [],_,_,_,q,x,hx=>by simp at hx
 | (i,v)::l,u,w,.cons (g:=g) hg _ _ _ hs h,0,x,hx=>by
   rw [List.getElem?_cons_zero,Option.some.injEq] at hx
   subst hx
   exact ⟨g,u,hg,hs.imp (fun h=>⟨h.1,h.2.1⟩) (fun h=>⟨h.1,h.2.1⟩),fun _=>rfl,fun q' e=>by omega⟩
 | (i,v)::l,u,w,.cons hg _ _ _ hs h,q+1,x,hx=>by
   rw [List.getElem?_cons_succ] at hx
   obtain ⟨g,y,h1,h2,h3,h4⟩:=Way.at_ h hx
   refine ⟨g,y,h1,h2,fun e=>by omega,fun q' e=>?_⟩
   obtain rfl:q=q':=by omega
   cases q with
   | zero=>exact ⟨(i,v),rfl,(h3 rfl).symm⟩
   | succ q=>obtain ⟨z,h5,h6⟩:=h4 q rfl;exact ⟨z,by rw [List.getElem?_cons_succ];exact h5,h6⟩
theorem Way.last {gs:List Gp} {op:Nat→Bool} {f:Nat→Int} {S K:Nat}:∀ {l:List (Nat×Nat)} {u w:Nat},Way gs op f S K u l w→l≠[]→∃ i,l[l.length-1]?=some (i,w)
 | [],_,_,_,h=>absurd rfl h
 | (i,v)::l,u,w,.cons _ _ _ _ _ h,_=>by
   cases l with
   | nil=>cases h;exact ⟨i,rfl⟩
   | cons x l=>obtain ⟨j,hj⟩:=Way.last h (by simp);exact ⟨j,by simpa using hj⟩
theorem ZhM (gs:List Gp) (f:Nat→Int) (l:List (Nat×Nat)) (i:Nat):f i-1≤Z4x gs f l i∧Z4x gs f l i≤f i+1:=by
 unfold Z4x
 cases l.find? fun x=>decide (x.1=i) with
 | none=>dsimp only;omega
 | some x =>
   dsimp only
   unfold Zbw
   cases gs[x.1]? with
   | none=>dsimp only;omega
   | some g=>dsimp only;cases decide (g.b.toNat=x.2)<;>simp only [cond_true,cond_false]<;>omega
theorem Za7 {f:Nat→Int} {S K:Nat} {gs:List Gp} (h:Flw f S K gs) (X:Nat):Z1k f X gs≤gs.length:=by
 have h1:=ZcM (X:=X) (gs:=gs) h.one
 rw [Z6A] at h1
 have h2:(cutM X gs).length≤gs.length:=by
   unfold cutM
   rw [List.length_map]
   exact Nat.le_trans (List.length_filter_le _ _) (by simp)
 omega
theorem Zjm (n:Nat):na (List.replicate n 0)=fun _=>0:=by
 funext i
 unfold na
 rw [List.getD_eq_getElem?_getD,List.getElem?_replicate]
 split<;>rfl
def atK (l:List Int) (w:Int):Int:=bif Z6S l w then w else -1
theorem Zkl {l:List Int} {w:Int}:atK (l++[w]) w=w:=by unfold atK;rw [hasI_iff.2 (by simp)];rfl
theorem Zi1 {l:List Int} {w x:Int} (h:x≠w):atK (l++[x]) w=atK l w:=by
 unfold atK
 have:Z6S (l++[x]) w=Z6S l w:=by
   rw [Bool.eq_iff_iff,hasI_iff,hasI_iff,List.mem_append,List.mem_singleton]
   exact ⟨fun h1=>h1.resolve_right fun e=>h e.symm,.inl⟩
 rw [this]
def Zoo (gs:List Gp) (op:Nat→Bool) (S K:Nat) (H:Z6) (R:Z5):Value→Z6→Z5→Prop:=fun v H' R'=>∃ (fl:List Int) (V:List (Nat×Int)) (m:Nat),v = .tuple #[.agg (Ze fl).toArray,.map (some m)]∧H'=(m,ZJ false (vkv V))::H∧R'=R∧fl.length=10∧Flw (na fl) S K gs∧Shn gs op (na fl) S K V
def ZfB (gs:List Gp) (cl X k:Nat):Bool:=(match gs[k]? with | some g=>crs X g | none=>false)&&!cl.testBit k
def ZiF (gs:List Gp) (cl X:Nat):List Int:=Zbr (ZfB gs cl X) gs.length
theorem Z7P (gs:List Gp) (X:Nat):ZiF gs 0 X=cutM X gs:=by
 unfold ZiF Zbr cutM ZfB
 congr 2
 funext k
 simp
 cases gs[k]?<;>rfl
theorem ZdD {gs:List Gp} {op:Nat→Bool} {f:Nat→Int} {S K:Nat} {V:List (Nat×Int)} (h:Srch gs op f S K V) (v:Nat):((vkv V).get [(v:Int)]).isSome=(Z2T V).testBit v:=by
 rw [Bool.eq_iff_iff,Z01]
 exact ⟨Z9t,fun hm=>by
   cases hb:((vkv V).get [(v:Int)]).isSome with
   | true=>rfl
   | false=>exact absurd hm (Z9u h.nd hb)⟩
set_option maxHeartbeats 1000000 in
theorem ZkE (d:Dk) (hd:d.Ok) (fr to_:List Int) (af at_:Option Addr) (cf ct:Nat) (hfr:∀ x∈fr,0≤x∧x<7) (hto:∀ x∈to_,0≤x∧x<7) (hnf:fr.Nodup) (hnt:to_.length≤1000000) (hdis:∀ x∈fr,x∉to_) (H:Z6) (R:Z5) [hD:MemRows (some ⟨d.bd,0,none⟩) 4 [d.row] R] [hG:MemRows d.ag 2 (grows d.h.gaps) R] [hS:MemRows d.as_ 3 (srows d.h.sights) R] [sR:SubF d.R0 R] [hF:MemRows af 1 (irows fr) R] [hT:MemRows at_ 1 (irows to_) R] :
    Fn Tryz.prog 150 [.pointer (some ⟨d.bd,0,none⟩),.slice af fr.length cf,.slice at_ to_.length ct] H R (Zoo d.h.gaps (fun i=>!d.cl.testBit i) (msk fr) (msk to_) H R):=by
 refine Zc Tryz.func150 rfl Tryz.ntmps150 rfl ?_
 refine sqt 2 rfl (alc rfl ZjZ rfl (fun b6=>pur 1 rfl (sqt 1 rfl (alc rfl ZjZ rfl (fun b8=>Z2 ?_)))))
 have hok:=hd.ok
 have hab:∀ (i:Nat) (g:Gp),d.h.gaps[i]?=some g→g.a.toNat≠g.b.toNat:=fun i g hg=>by have:=hok.gaps g (List.mem_of_getElem? hg);omega
 have hns:∀ v:Nat,(msk fr).testBit v=true→(msk to_).testBit v=false:=fun v hv=>by
   cases hk:(msk to_).testBit v with
   | false=>rfl
   | true=>exact absurd ((ZU (fun k hk=>(hto k hk).1) v).1 hk) (hdis _ ((ZU (fun k hk=>(hfr k hk).1) v).1 hv))
 have hgl:=hok.gl
 have hbn:=hok.bins
 have hf0:Flw (na (List.replicate 10 0)) (msk fr) (msk to_) d.h.gaps∧Z1k (na (List.replicate 10 0)) (msk fr) d.h.gaps=0:=by rw [Zjm];exact Flw.zero _ _ _
 refine Zd (ι:={fl:List Int // fl.length=10∧Flw (na fl) (msk fr) (msk to_) d.h.gaps∧0≤Z1k (na fl) (msk fr) d.h.gaps}) (fun fl=>⟨[(0,.pointer (some ⟨d.bd,0,none⟩)),(1,.slice af fr.length cf),(2,.slice at_ to_.length ct),(6,.pointer (some ⟨b6,0,none⟩)),(8,.pointer (some ⟨b8,0,none⟩))],(b8,cel 267 (Ze fl.1))::(b6,cel 267 (Ze (List.replicate 10 0)))::H,R⟩) (fun fl=>11-(Z1k (na fl.1) (msk fr) d.h.gaps).toNat) ⟨(List.replicate 10 0),by simp,hf0.1,by rw [hf0.2];omega⟩ ?_ (fun fl=>?_)
 exact Zf idH
 obtain ⟨fl,hfl,hfw,hfx⟩:=fl
 dsimp only at hfl hfw hfx ⊢
 have hft:=Za7 hfw (msk fr)
 refine Z2 (sqt 10 rfl (pur 1 rfl (spL rfl rfl (lhI fl ZeW rfl rfl (hfl)) rfl (pur 2 rfl ?_))))
 refine cl rfl ZlU rfl rfl (ZoJ d hd fl hfl fr to_ af at_ cf ct hfr hto hnf hnt hdis _ _) ?_
 rintro _ _ _ ⟨V,m,a,c,l,rfl,rfl,rfl,hsr,hlw⟩
 refine pur 5 rfl (Z0 (sqt 3 rfl (pur 1 rfl (sp rfl (PE.lenSl ZO rfl) rfl (pur 1 rfl ?_)))))
 refine Z1 rfl ?_ ?_<;>intro hc0<;>try simp only [cS] at hc0
 obtain ⟨rfl,hshn⟩:=hlw.resolve_right (fun h=>h.1 (List.length_eq_zero_iff.1 (by omega)))
 refine sqt 4 rfl (spL rfl rfl (lhI fl ZeW rfl rfl (hfl)) rfl (pur 1 rfl ?_))
 refine Z2V rfl rfl rfl ZmS rfl (by rw [ints_length];exact hfl) rfl (Zs _) ?_
 refine pur 1 rfl (Z4 ?_)
 exact Z9 (vs:=[_,_]) rfl (.cons (RV.cell rfl (lhI fl ZeW rfl rfl (hfl))) (.cons (RV.tmp rfl) .nil)) rfl ⟨fl,V,m,rfl,rfl,rfl,hfl,hfw,hshn⟩ (fun w h=>((h.del b8).del b6).ftail)
 obtain ⟨hl0,u,w,hwk,hwm,hun⟩:=hlw.resolve_left (fun h=>by rw [h.1] at hc0;exact hc0 rfl)
 have hwto:(w:Int)∈to_:=(ZU (fun k hk=>(hto k hk).1) w).1 hwk.to
 have hll:l.length≤10:=by
   have h9:=hwk.nd.length_le_of_subset (l₂:=List.range 10) fun v hv=>by
     obtain ⟨x,hx,rfl⟩:=List.mem_map.1 hv
     obtain ⟨g,y,h1,_⟩:=hwk.way.mem x hx
     have:=(List.getElem?_eq_some_iff.1 h1).1
     exact List.mem_range.2 (by omega)
   simpa using h9
 refine Z3 (sqt 1 rfl (pur 1 rfl (Z0 (sqt 3 rfl (pur 1 rfl (sp rfl (PE.lenSl ZO rfl) rfl (pur 1 rfl (Z2 ?_))))))))
 refine Zd (ι:={k:Nat // k≤to_.length}) (fun k=>⟨[(0,.pointer (some ⟨d.bd,0,none⟩)),(1,.slice af fr.length cf),(2,.slice at_ to_.length ct),(6,.pointer (some ⟨b6,0,none⟩)),(8,.pointer (some ⟨b8,0,none⟩)),(9,.slice a l.length c),(10,.map (some m)),(11,.int .i64 (atK (to_.take k.1) w)),(31,.slice at_ to_.length ct),(32,.int .i64 to_.length),(33,.int .i64 k.1)],(m,ZJ false (vkv V))::(b8,cel 267 (Ze fl))::(b6,cel 267 (Ze (List.replicate 10 0)))::H,RowsA a 1 (irows (l.map fun x:Nat×Nat=>(x.1:Int)))::R⟩) (fun k=>to_.length-k.1) ⟨0,Nat.zero_le _⟩ ?_ (fun k=>?_)
 exact Zf idH
 obtain ⟨k,hk⟩:=k
 dsimp only at hk ⊢
 refine sqt 1 rfl (pur 1 rfl (Z0 ?_))
 refine Z1 rfl ?_ ?_<;>intro hc1<;>try simp only [cS] at hc1
 obtain ⟨x,hx⟩:∃ x,to_[k]?=some x:=⟨_,List.getElem?_eq_getElem (by omega)⟩
 have hx7:=hto x (List.mem_of_getElem? hx)
 obtain ⟨xn,rfl⟩:∃ n:Nat,x=n:=⟨x.toNat,by omega⟩
 have htk:to_.take (k+1)=to_.take k++[(xn:Int)]:=by rw [List.take_add_one,hx];rfl
 have hxk:(msk to_).testBit xn=true:=(ZU (fun k hk=>(hto k hk).1) xn).2 (List.mem_of_getElem? hx)
 obtain ⟨go,hgo⟩:∃ go,(vkv V).get [(xn:Int)]=go:=⟨_,rfl⟩
 refine Zj (a:=at_) (sz:=1) (rows:=irows to_) (ne0 (by rw [irl];omega)) (fun ba oa he=>?_)
 subst he
 refine Z3 (Z0 (Z2 (sqt 3 rfl (sp rfl (PE.indexAddr Z0D rfl rfl (by omega) (by omega)) rfl (spL rfl rfl (lf0 sc3 (ir_get hx) rfl) rfl (pur 1 rfl (sqt 8 rfl (pur 2 rfl ?_))))))))
 refine spK rfl rfl rfl (Z19 (b:=false) (vkv V) [(xn:Int)] Z5m (KeyT.of Z2h Z2Y) (ZQ zv3) rfl Z2C true) rfl ?_
 rw [hgo]
 refine pur 5 rfl (sqt 1 rfl (pur 1 rfl ?_))
 refine Z1 rfl ?_ ?_<;>intro hc2
 have hxm:=Z9t (hgo▸hc2)
 obtain ⟨y,hy,hye⟩:=List.mem_map.1 hxm
 have hxw:xn=w:=hye▸hun y hy (hye▸hxk)
 subst hxw
 refine sqr 2 rfl (pur 2 rfl (sqr 2 rfl (sp rfl (PE.add rfl rfl (by omega)) rfl (pur 1 rfl ?_))))
 exact Zv ⟨k+1,by omega⟩ (by dsimp only;omega) (by rw [htk,Zkl];repeat' first | exact Sub.nil | apply Sub.cons | rfl | (simp [lk];omega)) idH
 have hxm:=Z9u hsr.nd (hgo▸hc2)
 have hxw:(xn:Int)≠w:=fun e=>hxm (by rw [show xn=w by omega];exact hwm)
 refine Z3 (sqr 2 rfl (sp rfl (PE.add rfl rfl (by omega)) rfl (pur 1 rfl ?_)))
 exact Zv ⟨k+1,by omega⟩ (by dsimp only;omega) (by rw [htk,Zi1 hxw];repeat' first | exact Sub.nil | apply Sub.cons | rfl | (simp [lk];omega)) idH
 obtain rfl:k=to_.length:=by omega
 rw [List.take_length,show atK to_ w=w by unfold atK;rw [hasI_iff.2 hwto];rfl]
 refine Z7 (Z8 (Z8 (Zi (sqt 4 rfl (pur 1 rfl (sp rfl (PE.lenSl ZO rfl) rfl (sp rfl (PE.sub rfl rfl (by omega)) rfl (pur 1 rfl (Z2 ?_)))))))))
 refine Zd (ι:={y:Nat×List Int×Nat // y.1≤l.length∧y.2.1.length=10∧(∀ j,na y.2.1 j=Z4x d.h.gaps (na fl) (l.drop y.1) j)∧(0<y.1→∃ gi,l[y.1-1]?=some (gi,y.2.2))}) (fun y=>⟨[(0,.pointer (some ⟨d.bd,0,none⟩)),(1,.slice af fr.length cf),(2,.slice at_ to_.length ct),(6,.pointer (some ⟨b6,0,none⟩)),(8,.pointer (some ⟨b8,0,none⟩)),(9,.slice a l.length c),(11,.int .i64 (y.1.2.2:Int)),(16,.int .i64 ((y.1.1:Int)-1))],(b8,cel 267 (Ze y.1.2.1))::(b6,cel 267 (Ze (List.replicate 10 0)))::H,RowsA a 1 (irows (l.map fun x:Nat×Nat=>(x.1:Int)))::R⟩) (fun y=>y.1.1) ⟨(l.length,fl,w),Nat.le_refl _,hfl,fun j=>by rw [List.drop_length];simp [Z4x],fun _=>hwk.way.last hl0⟩ ?_ (fun y=>?_)
 exact Zf (fun w h=>h.del m)
 obtain ⟨⟨k1,f2,at2⟩,hk1,h2l,h2a,h2t⟩:=y
 dsimp only at hk1 h2l h2a h2t ⊢
 refine Z0 (sqt 2 rfl (pur 2 rfl ?_))
 refine Z1 rfl ?_ ?_<;>intro hc3<;>try simp only [cS] at hc3
 obtain ⟨k,rfl⟩:∃ k,k1=k+1:=⟨k1-1,by omega⟩
 obtain ⟨gi,hgi⟩:=h2t (by omega)
 rw [show k+1-1=k by omega] at hgi
 obtain ⟨g,y,hgg,hend,_,hprev⟩:=hwk.way.at_ hgi
 dsimp only at hgg hend
 have hgo2:=hok.gaps g (List.mem_of_getElem? hgg)
 have hgil:=(List.getElem?_eq_some_iff.1 hgg).1
 have hpk:(l.map fun x:Nat×Nat=>(x.1:Int))[k]?=some (gi:Int):=by rw [List.getElem?_map,hgi];rfl
 have hdr:l.drop k=(gi,at2)::l.drop (k+1):=by rw [List.drop_eq_getElem_cons (List.getElem?_eq_some_iff.1 hgi).1,(List.getElem?_eq_some_iff.1 hgi).2]
 have hnin:∀ x∈l.drop (k+1),x.1≠gi:=fun x hx e=>by
   have hnd:=hwk.nd
   have h8:(l.drop k).map (·.1)=gi::(l.drop (k+1)).map (·.1):=by rw [hdr];rfl
   have h9:((l.drop k).map (·.1)).Nodup:=by rw [List.map_drop];exact hnd.sublist (List.drop_sublist _ _)
   rw [h8,List.nodup_cons] at h9
   exact h9.1 (List.mem_map.2 ⟨x,hx,e⟩)
 have hbd:=ZhM d.h.gaps (na fl) (l.drop (k+1)) gi
 have hone:=hfw.one gi
 have hgv:=h2a gi
 rw [show ((k+1:Nat):Int)-1=((k:Nat):Int) from by omega]
 refine Zj (a:=a) (sz:=1) (rows:=irows (l.map fun x:Nat×Nat=>(x.1:Int))) (by intro h0;have:=congrArg List.length h0;rw [irl,List.length_map] at this;simp only [List.length_nil] at this;omega) (fun ba oa hea=>?_)
 subst hea
 refine Zj (a:=d.ag) (sz:=2) (rows:=grows d.h.gaps) (by intro h0;have:=congrArg List.length h0;rw [Z5h] at this;simp only [List.length_nil] at this;have:=(List.getElem?_eq_some_iff.1 hgg).1;omega) (fun bq og he=>?_)
 have hG9:=hG.mem
 rw [he] at hG9
 haveI:=MemRows.mk hG9
 refine Z3 (Z0 (Z2 (Z0 ?_)))
 refine Za [0,1,3,7,15,0,0,96,224,511,1023,0,4095] (tks 0 4 (.ld 4 (tks 5 3 (.ld 8 (.tk 9 (.ld 10 (.big 11 (.big 12 .done)))))))) Zl (by kernel_rfl) ?_
 refine Zg 1 rfl (tk rfl (PE.nilCheck rfl) rfl (tk rfl (PE.fA Z2i rfl) rfl (tk rfl (PE.fA Z2m rfl) rfl (ld rfl rfl (lfB (sz:=4) (x:=.slice (some ⟨bq,og,none⟩) d.h.gaps.length d.cg) Zbu (by show some (d.h.sg d.ag d.cg)=_;unfold Hse.sg;rw [he])) rfl (Zg 2 rfl (tk rfl (PE.indexAddr Z0D rfl rfl (by omega) (by omega)) rfl (ld rfl rfl (lf0 sc3 (ir_get hpk) rfl) rfl (tk rfl (PE.indexAddr ZfH rfl rfl (by omega) (by omega)) rfl (ld rfl rfl (lfA ZeX (row:=grow g) (Z25 hgg) rfl) rfl (alc rfl ZeI rfl (fun b17=>?_)))))))))))
 refine bg (fun w hs=>⟨(lfA ZeX (row:=grow g) (Z25 hgg) rfl) w hs,(lf0 sc3 (ir_get hpk) rfl) w hs,(lfB (sz:=4) (x:=.slice (some ⟨bq,og,none⟩) d.h.gaps.length d.cg) Zbu (by show some (d.h.sg d.ag d.cg)=_;unfold Hse.sg;rw [he])) w hs,trivial⟩) ?_
 refine Zy (l':=grow g) rfl rfl rfl ZmT rfl rfl rfl rfl (nl rfl) ?_
 refine bgT (Z0 (sqt 4 rfl (sp rfl (PE.fA Z1m rfl) rfl (spL rfl rfl (lh sc3 rfl rfl) rfl (pur 2 rfl ?_)))))
 refine Z1 rfl ?_ ?_<;>intro hc4<;>try simp only [cS] at hc4
 have hstp:Zbw d.h.gaps gi at2=1:=by unfold Zbw;rw [hgg];dsimp only;rw [dT (show g.b.toNat=at2 by omega)];rfl
 refine sqr 9 rfl (pur 2 rfl (sp rfl (PE.indexAddr Z0D rfl rfl (by omega) (by omega)) rfl (spL rfl rfl (lf0 sc3 (ir_get hpk) rfl) rfl (sp rfl (PE.indexArr ZaV rfl rfl (by omega) (by omega)) rfl (spL rfl rfl (lh sc3 rfl (Z1D (w:=f2) (k:=gi) (by omega) (by show 0+((gi:Nat):Int).toNat*1=gi;omega))) rfl (sp rfl (PE.add rfl rfl (by omega)) rfl (sp rfl (PE.indexArr ZaV rfl rfl (by omega) (by omega)) rfl ?_)))))))
 refine Zy (l':=Ze (f2.set gi (na f2 gi+1))) rfl rfl rfl cn3 rfl rfl rfl (Zej (by omega) (by show 0+((gi:Nat):Int).toNat*1=gi;omega)) (by rw [ints_length,h2l];show 0+((gi:Nat):Int).toNat*1+1≤10;omega) ?_
 refine sqr 8 rfl (sp rfl (PE.fA Z1l rfl) rfl (spL rfl rfl (lh sc3 rfl rfl) rfl (sp rfl (PE.fA Z1m rfl) rfl (spL rfl rfl (lh sc3 rfl rfl) rfl (sp rfl (PE.add rfl rfl (by omega)) rfl (pur 1 rfl (sp rfl (PE.sub rfl rfl (by omega)) rfl ?_)))))))
 rw [show g.a+g.b-(at2:Int)=((y:Nat):Int) from by omega]
 refine pur 1 rfl (sqr 3 rfl (pur 1 rfl (sp rfl (PE.sub rfl rfl (by omega)) rfl (pur 1 rfl ?_))))
 have hst:∀ j,na (f2.set gi (na f2 gi+1)) j=Z4x d.h.gaps (na fl) (l.drop k) j:=fun j=>by
   rw [hdr,Z4P hnin,Z0w (by omega),h2a j]
   by_cases e:gi=j
   · subst e;rw [decide_eq_true rfl];simp only [cond_true,hstp];omega
   · rw [decide_eq_false e,dF (fun e2=>e e2.symm)];simp
 have h2l2:(f2.set gi (na f2 gi+1)).length=10:=by rw [List.length_set];exact h2l
 exact Zv ⟨(k,f2.set gi (na f2 gi+1),y),by dsimp only;omega,h2l2,hst,fun h0=>by
   obtain ⟨z,h5,h6⟩:=hprev (k-1) (by dsimp only at h0;omega)
   exact ⟨z.1,by dsimp only;rw [h5,← h6]⟩⟩ (by dsimp only;omega) sbA (fun w h=>h.del b17)
 have hstp:Zbw d.h.gaps gi at2 = -1:=by unfold Zbw;rw [hgg];dsimp only;rw [dF (show ¬ g.b.toNat=at2 by omega)];rfl
 refine sqr 9 rfl (pur 2 rfl (sp rfl (PE.indexAddr Z0D rfl rfl (by omega) (by omega)) rfl (spL rfl rfl (lf0 sc3 (ir_get hpk) rfl) rfl (sp rfl (PE.indexArr ZaV rfl rfl (by omega) (by omega)) rfl (spL rfl rfl (lh sc3 rfl (Z1D (w:=f2) (k:=gi) (by omega) (by show 0+((gi:Nat):Int).toNat*1=gi;omega))) rfl (sp rfl (PE.sub rfl rfl (by omega)) rfl (sp rfl (PE.indexArr ZaV rfl rfl (by omega) (by omega)) rfl ?_)))))))
 refine Zy (l':=Ze (f2.set gi (na f2 gi-1))) rfl rfl rfl cn3 rfl rfl rfl (Zej (by omega) (by show 0+((gi:Nat):Int).toNat*1=gi;omega)) (by rw [ints_length,h2l];show 0+((gi:Nat):Int).toNat*1+1≤10;omega) ?_
 refine sqr 8 rfl (sp rfl (PE.fA Z1l rfl) rfl (spL rfl rfl (lh sc3 rfl rfl) rfl (sp rfl (PE.fA Z1m rfl) rfl (spL rfl rfl (lh sc3 rfl rfl) rfl (sp rfl (PE.add rfl rfl (by omega)) rfl (pur 1 rfl (sp rfl (PE.sub rfl rfl (by omega)) rfl ?_)))))))
 rw [show g.a+g.b-(at2:Int)=((y:Nat):Int) from by omega]
 refine pur 1 rfl (sqr 3 rfl (pur 1 rfl (sp rfl (PE.sub rfl rfl (by omega)) rfl (pur 1 rfl ?_))))
 have hst:∀ j,na (f2.set gi (na f2 gi-1)) j=Z4x d.h.gaps (na fl) (l.drop k) j:=fun j=>by
   rw [hdr,Z4P hnin,Z0w (by omega),h2a j]
   by_cases e:gi=j
   · subst e;rw [decide_eq_true rfl];simp only [cond_true,hstp];omega
   · rw [decide_eq_false e,dF (fun e2=>e e2.symm)];simp
 have h2l2:(f2.set gi (na f2 gi-1)).length=10:=by rw [List.length_set];exact h2l
 exact Zv ⟨(k,f2.set gi (na f2 gi-1),y),by dsimp only;omega,h2l2,hst,fun h0=>by
   obtain ⟨z,h5,h6⟩:=hprev (k-1) (by dsimp only at h0;omega)
   exact ⟨z.1,by dsimp only;rw [h5,← h6]⟩⟩ (by dsimp only;omega) sbA (fun w h=>h.del b17)
 obtain rfl:k1=0:=by omega
 have hfe:na f2=Z4x d.h.gaps (na fl) l:=by funext j;rw [h2a j,List.drop_zero]
 have hfm:=hfw.more hns hab hwk
 rw [← hfe] at hfm
 have hft2:=Za7 hfm.1 (msk fr)
 refine Z7 (Z8 (Z8 (Zi ?_)))
 exact Zh ⟨f2,h2l,hfm.1,by rw [hfm.2];omega⟩ (by dsimp only;rw [hfm.2];omega) (fun w h=>h.ftail)
set_option maxHeartbeats 1000000 in
theorem Zkw (d:Dk) (hd:d.Ok) (fr to_:List Int) (af at_:Option Addr) (cf ct:Nat) (hfr:∀ x∈fr,0≤x∧x<7) (hto:∀ x∈to_,0≤x∧x<7) (hnf:fr.Nodup) (hnt:to_.length≤1000000) (hdis:∀ x∈fr,x∉to_) (H:Z6) (R:Z5) [hD:MemRows (some ⟨d.bd,0,none⟩) 4 [d.row] R] [hG:MemRows d.ag 2 (grows d.h.gaps) R] [hS:MemRows d.as_ 3 (srows d.h.sights) R] [sR:SubF d.R0 R] [hF:MemRows af 1 (irows fr) R] [hT:MemRows at_ 1 (irows to_) R] :
    Fn Tryz.prog 79 [.pointer (some ⟨d.bd,0,none⟩),.slice af fr.length cf,.slice at_ to_.length ct] H R (fun v H' R'=>∃ (fl:List Int) (V:List (Nat×Int)) (a:Option Addr) (c:Nat),fl.length=10∧Flw (na fl) (msk fr) (msk to_) d.h.gaps∧Shn d.h.gaps (fun i=>!d.cl.testBit i) (na fl) (msk fr) (msk to_) V∧v = .slice a (ZiF d.h.gaps d.cl (Z2T V)).length c∧(ZiF d.h.gaps d.cl (Z2T V)).length≤c∧H'=H∧R'=RowsA a 1 (irows (ZiF d.h.gaps d.cl (Z2T V)))::R):=by
 refine Zc Tryz.func79 rfl Tryz.ntmps79 rfl ?_
 refine sqt 1 rfl (pur 1 rfl (sqt 10 rfl (pur 3 rfl ?_)))
 refine cl rfl Zl9 rfl rfl (ZkE d hd fr to_ af at_ cf ct hfr hto hnf hnt hdis _ _) ?_
 rintro _ _ R1 ⟨fl,V,m,rfl,rfl,hR1,hfl,hfw,hsh⟩
 obtain rfl:=hR1.symm
 clear hR1
 refine pur 3 rfl (alc rfl ZjZ rfl (fun b7=>?_))
 refine Z2V rfl rfl rfl ZmS rfl (by rw [ints_length];exact hfl) rfl (Zs _) ?_
 refine pur 1 rfl (sqt 1 rfl (pur 1 rfl (Z0 (sqt 7 rfl (pur 1 rfl (sp rfl (PE.nilCheck rfl) rfl (sp rfl (PE.fA Z2i rfl) rfl (sp rfl (PE.fA Z2m rfl) rfl (spL rfl rfl (lfB (sz:=4) Zbu rfl) rfl (sp rfl (PE.lenSl Zba rfl) rfl (pur 1 rfl (Z2 ?_))))))))))))
 have hok:=hd.ok
 have hgl:=hok.gl
 refine Zd (ι:=(k:{k:Nat // k≤d.h.gaps.length})×OSl 3 1 (irows (Zbr (ZfB d.h.gaps d.cl (Z2T V)) k.1))) (fun y=>⟨[(0,.pointer (some ⟨d.bd,0,none⟩)),(8,.map (some m)),(9,y.2.fs),(27,d.h.sg d.ag d.cg),(28,.int .i64 d.h.gaps.length),(29,.int .i64 y.1.1)],y.2.G++((m,ZJ false (vkv V))::H),R⟩) (fun y=>d.h.gaps.length-y.1.1) ⟨⟨0,Nat.zero_le _⟩,OSl.nil _ _⟩ ?_ (fun y=>?_)
 exact Zf (fun w h=>h.del b7)
 obtain ⟨⟨k,hk⟩,o⟩:=y
 dsimp only at hk o ⊢
 have hcn:=ZfK (ZfB d.h.gaps d.cl (Z2T V)) k
 refine sqt 1 rfl (pur 1 rfl (Z0 ?_))
 refine Z1 rfl ?_ ?_<;>intro hc0<;>try simp only [cS] at hc0
 obtain ⟨g,hgg⟩:∃ g,d.h.gaps[k]?=some g:=⟨_,List.getElem?_eq_getElem (by omega)⟩
 have hgo2:=hok.gaps g (List.mem_of_getElem? hgg)
 obtain ⟨xa,hxa⟩:∃ n:Nat,g.a=n:=⟨g.a.toNat,by omega⟩
 obtain ⟨xb,hxb⟩:∃ n:Nat,g.b=n:=⟨g.b.toNat,by omega⟩
 obtain ⟨goa,hga⟩:∃ go,(vkv V).get [(xa:Int)]=go:=⟨_,rfl⟩
 obtain ⟨gob,hgb⟩:∃ go,(vkv V).get [(xb:Int)]=go:=⟨_,rfl⟩
 have hma:=ZdD hsh.s xa
 have hmb:=ZdD hsh.s xb
 rw [hga] at hma
 rw [hgb] at hmb
 have hcrs:crs (Z2T V) g=(goa.isSome != gob.isSome):=by unfold crs;rw [show g.a.toNat=xa by omega,show g.b.toNat=xb by omega,hma,hmb]
 have hcB:ZfB d.h.gaps d.cl (Z2T V) k=((goa.isSome != gob.isSome)&&!d.cl.testBit k):=by unfold ZfB;rw [hgg];dsimp only;rw [hcrs]
 refine Zj (a:=d.ag) (sz:=2) (rows:=grows d.h.gaps) (by intro h0;have:=congrArg List.length h0;rw [Z5h] at this;simp only [List.length_nil] at this;have:=(List.getElem?_eq_some_iff.1 hgg).1;omega) (fun bq og he=>?_)
 have hG9:=hG.mem
 rw [he] at hG9
 haveI:=MemRows.mk hG9
 rw [show d.h.sg d.ag d.cg = .slice (some ⟨bq,og,none⟩) d.h.gaps.length d.cg by unfold Hse.sg;rw [he]]
 refine Z3 (Z0 (Z2 (sqt 6 rfl (pur 1 rfl (sp rfl (PE.indexAddr ZfH rfl rfl (by omega) (by omega)) rfl (spL rfl rfl (lfA ZeX (row:=grow g) (Z25 hgg) rfl) rfl (alc rfl ZeI rfl (fun b11=>pur 1 rfl ?_))))))))
 refine Zy (l':=grow g) rfl rfl rfl ZmT rfl rfl rfl rfl (nl rfl) ?_
 refine sqt 9 rfl (pur 1 rfl (sp rfl (PE.fA Z1l rfl) rfl (spL rfl rfl (lh sc3 rfl rfl) rfl ?_)))
 rw [hxa]
 refine spK rfl rfl rfl (Z19 (b:=false) (vkv V) [(xa:Int)] Z5m (KeyT.of Z2h Z2Y) (ZQ zv3) rfl Z2C true) rfl ?_
 rw [hga]
 refine pur 5 rfl (sqt 9 rfl (pur 1 rfl (sp rfl (PE.fA Z1m rfl) rfl (spL rfl rfl (lh sc3 rfl rfl) rfl ?_))))
 rw [hxb]
 refine spK rfl rfl rfl (Z19 (b:=false) (vkv V) [(xb:Int)] Z5m (KeyT.of Z2h Z2Y) (ZQ zv3) rfl Z2C true) rfl ?_
 rw [hgb]
 refine pur 5 rfl (sqt 11 rfl (pur 2 rfl (sp rfl (PE.neqBool ub4 rfl rfl) rfl (pur 1 rfl ?_))))
 refine Zq 51 rfl ?_ ?_<;>intro g51
 refine pur 1 rfl ?_
 refine spG rfl rfl rfl rfl (PE.nilCheck rfl) rfl ?_
 refine spG rfl rfl rfl rfl (PE.fA ZcW rfl) rfl ?_
 refine Z0e rfl rfl rfl rfl rfl (lfB (sz:=4) Z1G rfl) rfl (pur 1 rfl ?_)
 refine ZaZ rfl rfl rfl rfl rfl (hd.cal) rfl rfl (hd.op k _ _ (by omega) (fun g hg=>sR.sub g hg)) ?_
 refine pur 1 rfl ?_
 refine Z1 rfl ?_ ?_<;>intro hc1
 have hb2:ZfB d.h.gaps d.cl (Z2T V) k=true:=by rw [hcB];simp_all
 refine sqr 5 rfl (pur 2 rfl ?_)
 refine bsl (out:=[_]) rfl Z1H zl3 rfl rfl rfl rfl rfl rfl (fun b61=>?_)
 refine apO (o) rfl Z6j rfl rfl (Z0y (row:=[.int .i64 k]) rfl) rfl rfl ((by rw [irl];simp only [List.length_singleton];omega)) rfl (fun o62=>?_)
 refine pur 1 rfl (sqr 2 rfl (sp rfl (PE.add rfl rfl (by omega)) rfl (pur 1 rfl ?_)))
 exact Zb ⟨⟨k+1,by omega⟩,o62.cast (by rw [ZiQ hb2];simp [irows])⟩ (fun w h9=>(h9.del b61).del b11)
 have hb2:ZfB d.h.gaps d.cl (Z2T V) k=false:=by rw [hcB];simp_all
 refine Z3 (sqr 2 rfl (sp rfl (PE.add rfl rfl (by omega)) rfl (pur 1 rfl ?_)))
 exact Zb ⟨⟨k+1,by omega⟩,o.cast (by rw [Za5 hb2])⟩ (fun w h9=>h9.del b11)
 have hb2:ZfB d.h.gaps d.cl (Z2T V) k=false:=by rw [hcB];simp_all
 refine pur 7 rfl ?_
 refine Zt rfl ?_
 refine Z3 (sqr 2 rfl (sp rfl (PE.add rfl rfl (by omega)) rfl (pur 1 rfl ?_)))
 exact Zb ⟨⟨k+1,by omega⟩,o.cast (by rw [Za5 hb2])⟩ (fun w h9=>h9.del b11)
 obtain rfl:k=d.h.gaps.length:=by omega
 obtain ⟨ac,cc,he,hcc,hf⟩:=o.freezeC
 rw [irl] at hcc
 rw [he,irl]
 refine Sy.heap (fun w h9=>hf h9) ?_
 refine Z7 (Z8 (Z8 (Zi (sqt 2 rfl (pur 2 rfl (Z4 ?_))))))
 exact rtA rfl rfl rfl ⟨fl,V,ac,cc,hfl,hfw,hsh,rfl,hcc,rfl,rfl⟩ (fun w h=>h.del m)
theorem ZmH:cal Tryz.prog 78=true:=by kernel_rfl
theorem ZmI:cal Tryz.prog 79=true:=by kernel_rfl
theorem Z8X:ZG Tryz.prog 322 0=some 0:=by kernel_rfl
theorem Z03:ZG Tryz.prog 324 0=some 0:=by kernel_rfl
theorem Z3U:ZG Tryz.prog 324 1=some 1:=by kernel_rfl
theorem Zh9 (h:Hse) (ag as_:Option Addr) (cg cs:Nat) (bd:Nat):(fun i=>!(dkA h ag as_ cg cs bd).cl.testBit i)=fun _=>true:=by
 funext i
 show (!(Nat.testBit 0 i))=true
 rw [Nat.zero_testBit];rfl
theorem Z3g {h:Hse} {l k:List Int} (hb:h.Bot l k):(∀ x∈l,0≤x∧x<7)∧(∀ x∈k,0≤x∧x<7)∧l.Nodup∧k.Nodup∧l.length≤7∧k.length≤7:=by
 have hbn:=hb.ok.bins
 have h1:=Z64 hb.el
 have h2:=Z64 hb.ek
 have key:∀ m:List Int,(∀ x∈m,0≤x∧x<7)→m.Nodup→m.length≤7:=fun m hm hn=>by
   have h3:=(Zdc (fun x hx=>(hm x hx).1) hn).length_le_of_subset (l₂:=List.range 7) fun v hv=>by
     obtain ⟨x,hx,rfl⟩:=List.mem_map.1 hv
     have:=hm x hx
     exact List.mem_range.2 (by omega)
   simpa using h3
 have q1:∀ x∈l,0≤x∧x<7:=fun x hx=>by have:=h1.1 x hx;omega
 have q2:∀ x∈k,0≤x∧x<7:=fun x hx=>by have:=h2.1 x hx;omega
 exact ⟨q1,q2,h1.2,h2.2,key l q1 h1.2,key k q2 h2.2⟩
def ZqG (h:Hse) (fr to_:List Int) (H:Z6) (R:Z5):Value→Z6→Z5→Prop:=fun v H' R'=>H'=H∧((h.botE fr to_≠0∧v = .tuple #[.slice none 0 0,.int .i64 (h.botE fr to_)]∧R'=R) ∨
 (h.botE fr to_=0∧∃ (f:Nat→Int) (V:List (Nat×Int)) (a:Option Addr) (c:Nat),Flw f (msk fr) (msk to_) h.gaps∧Shn h.gaps (fun _=>true) f (msk fr) (msk to_) V∧(cutM (Z2T V) h.gaps).length≤c∧v = .tuple #[.slice a (cutM (Z2T V) h.gaps).length c,.int .i64 0]∧R'=RowsA a 1 (irows (cutM (Z2T V) h.gaps))::R))
theorem Zg2 (l:List Int) (k:Int):msk (l++[k])=msk l|||2 ^ k.toNat:=by unfold msk;rw [List.foldl_append];rfl
theorem Z2G (m k:Nat):decide (((((m>>>k)&&&1:Nat)):Int)=0)=!m.testBit k:=by
 rw [← Z13]
 have h:(m>>>k)&&&1<2:=by rw [Nat.and_one_is_mod];exact Nat.mod_lt _ (by decide)
 rcases (show (m>>>k)&&&1=0∨(m>>>k)&&&1=1 by omega) with h1 | h1<;>rw [h1]<;>rfl
theorem ZbG (m k:Nat):decide (((((m>>>k)&&&1:Nat)):Int)=1)=decide (m / 2 ^ k%2=1):=by
 rw [Nat.and_one_is_mod,Nat.shiftRight_eq_div_pow];exact decide_eq_decide.2 (by omega)
theorem Z8n (cl m:Nat) (g:Gp):∀ (gs:List Gp) (i acc:Nat),Zeo cl m (gs++[g]) i acc=bif cl.testBit (i+gs.length) then Zeo cl m gs i acc else Zeo cl m gs i acc|||gpo m g
 | [],i,acc=>by simp [Zeo]
 | x::gs,i,acc=>by
   rw [List.cons_append]
   unfold Zeo
   rw [Z8n cl m g gs,List.length_cons,show i+1+gs.length=i+(gs.length+1) by omega]
def Z5v (gs:List Gp) (cl m k:Nat):Nat:=Zeo cl m (gs.take k) 0 m
theorem ZaG (gs:List Gp) (cl m:Nat):Z5v gs cl m gs.length=spr gs cl m:=by unfold Z5v spr;rw [List.take_length]
theorem Z2x {gs:List Gp} {cl m k:Nat} {g:Gp} (h:gs[k]?=some g):Z5v gs cl m (k+1)=bif cl.testBit k then Z5v gs cl m k else Z5v gs cl m k|||gpo m g:=by
 unfold Z5v
 have hk:=(List.getElem?_eq_some_iff.1 h).1
 rw [List.take_add_one,h,Option.toList_some,Z8n,List.length_take,Nat.zero_add,show min k gs.length=k by omega]
theorem Zep {gs:List Gp} (hw:Wth gs 7) {cl m:Nat} (hm:m<2 ^ 7) (k:Nat):Z5v gs cl m k<2 ^ 7:=Z0o fun v hv=>by
 unfold Z5v at hv
 rcases (Z3y _ _ _).1 hv with h | ⟨j,g,h1,_,h3⟩
 · exact Z2e hm h
 · have hg:=hw g (List.mem_of_mem_take (List.mem_of_getElem? h1))
   rcases gpo_test.1 h3 with ⟨_,h5⟩ | ⟨_,h5⟩<;>omega
theorem Zad {m xa xb:Nat} {g:Gp} (ha:g.a=xa) (hb:g.b=xb):gpo m g=(bif m.testBit xa then 2 ^ xb else 0)|||(bif m.testBit xb then 2 ^ xa else 0):=by
 unfold gpo;rw [ha,hb];rfl
theorem ZnR {gs:List Gp} {m c k:Nat} {g:Gp} {xa xb:Nat} (h:gs[k]?=some g) (ha:g.a=xa) (hb:g.b=xb):usf gs m c k=(!c.testBit k&&!(m.testBit xa&&m.testBit xb)):=by
 unfold usf;rw [h];dsimp only;rw [ha,hb];rfl
theorem Z4F (p:Nat→Bool) (n:Nat):msF p (n+1)=msF p n|||(bif p n then 2 ^ n else 0):=rfl
theorem Znq (p:Nat→Bool) (n:Nat):msF p n<2 ^ n:=Z0o fun v hv=>by
 rw [Z72,Bool.and_eq_true,decide_eq_true_eq] at hv;exact hv.1
theorem Z9a {j n:Nat} (h:j<n) (hn:n≤10):1*2 ^ j≤1024∧1*2 ^ j<2 ^ 62:=by
 have:2 ^ j≤2 ^ 10:=Nat.pow_le_pow_right (by decide) (by omega)
 have e:(2:Nat) ^ 10=1024:=rfl
 have e2:(1024:Nat)<2 ^ 62:=by decide
 omega
structure Rc where
 d:Dk
 br:Nat
 K:Nat
 sp:Nat
 mm:Nat
def Rc.row (r:Rc):List Value:=[.pointer (some ⟨r.d.bd,0,none⟩),.int .i64 (r.K:Int),.int .i64 (r.sp:Int),.map (some r.mm)]
def plc (m c:Nat):List Value:=[.int .i64 (m:Int),.int .i64 (c:Int)]
set_option maxHeartbeats 400000 in
theorem Zoz (h:Hse) (ag as_:Option Addr) (cg cs:Nat) (hlg:h.gaps.length≤9223372036854775807) (hls:h.sights.length≤9223372036854775807) (fr to_:List Int) (af at_:Option Addr) (cf ct:Nat) (hlf:fr.length≤1000000) (hlt:to_.length≤1000000) (hfc:fr.length≤cf) (htc:to_.length≤ct) (H:Z6) (R:Z5) [hG:MemRows ag 2 (grows h.gaps) R] [hS:MemRows as_ 3 (srows h.sights) R] [hF:MemRows af 1 (irows fr) R] [hT:MemRows at_ 1 (irows to_) R] :
    Fn Tryz.prog 33 [h.v (h.sg ag cg) (h.ss as_ cs),.slice af fr.length cf,.slice at_ to_.length ct] H R (ZqG h fr to_ H R):=by
 refine Zc Tryz.func33 rfl Tryz.ntmps33 rfl ?_
 refine sqt 3 rfl (bx rfl rfl rfl (fun b3=>pur 2 rfl (Z0 (sqt 5 rfl (spL rfl rfl (lhA (htl h (h.sg ag cg) (h.ss as_ cs)) ZeP rfl rfl rfl) rfl (pur 2 rfl ?_))))))
 refine clV rfl ZmH rfl rfl (ZgE h ag as_ cg cs hlg hls fr to_ af at_ cf ct (by omega) (by omega) hfc htc _ _) ?_
 refine pur 1 rfl (sqt 2 rfl (pur 2 rfl ?_))
 refine Z1 rfl ?_ ?_<;>intro hc0
 have hbe:h.botE fr to_≠0:=of_decide_eq_true hc0
 refine sqt 3 rfl (pur 3 rfl (Z4 ?_))
 exact rtB rfl rfl rfl rfl ⟨rfl,.inl ⟨hbe,rfl,rfl⟩⟩ (fun w h9=>h9.del b3)
 have hbe:h.botE fr to_=0:=Classical.byContradiction fun e=>by rw [decide_eq_true e] at hc0;cases hc0
 have hb:=Z9B hbe
 obtain ⟨q1,q2,q3,q4,q5,q6⟩:=Z3g hb
 refine Z3 (sqt 7 rfl (spL rfl rfl (lhA (htl h (h.sg ag cg) (h.ss as_ cs)) ZeP rfl rfl rfl) rfl ?_))
 refine cl rfl ZmG rfl rfl (Zfa h ag as_ cg cs _ _) ?_
 rintro _ _ _ ⟨bd,rfl,rfl,rfl⟩
 refine pur 2 rfl ?_
 refine cl rfl ZmI rfl rfl (Zkw (dkA h ag as_ cg cs bd) (Z5W h ag as_ cg cs hb.ok bd) fr to_ af at_ cf ct q1 q2 q3 (by omega) hb.no _ _) ?_
 rintro _ _ _ ⟨fl,V,a,c,hfl,hfw,hsh,rfl,hcc,rfl,rfl⟩
 have hop:=Zh9 h ag as_ cg cs bd
 rw [hop] at hsh
 rw [show ZiF (dkA h ag as_ cg cs bd).h.gaps (dkA h ag as_ cg cs bd).cl (Z2T V)=cutM (Z2T V) h.gaps from Z7P _ _] at hcc ⊢
 refine pur 2 rfl (Z4 ?_)
 exact rtB rfl rfl rfl rfl ⟨rfl,.inr ⟨hbe,na fl,V,a,c,hfw,hsh,hcc,rfl,rfl⟩⟩ drp
theorem ZkJ (l:List Int) (hl:∀ k∈l,0≤k∧k<10) (hll:l.length≤1000000) (a:Option Addr) (c:Nat) (H:Z6) (R:Z5) [hL:MemRows a 1 (irows l) R] :
    FnV Tryz.prog 215 [.slice a l.length c] H R (.int .i64 (msk l:Nat)):=by
 refine Zc Tryz.func215 rfl Tryz.ntmps215 rfl ?_
 refine sqt 1 rfl (pur 1 rfl (sqt 1 rfl (pur 1 rfl (Z0 (sqt 3 rfl (pur 1 rfl (sp rfl (PE.lenSl ZO rfl) rfl (pur 1 rfl (Z2 ?_)))))))))
 refine Zd (ι:={k:Nat // k≤l.length}) (fun k=>⟨[(3,.int .i64 (msk (l.take k.1):Nat)),(6,.slice a l.length c),(7,.int .i64 l.length),(8,.int .i64 k.1)],H,R⟩) (fun k=>l.length-k.1) ⟨0,Nat.zero_le _⟩ ?_ (fun k=>?_)
 exact Zf idH
 obtain ⟨k,hk⟩:=k
 dsimp only at hk ⊢
 refine sqt 1 rfl (pur 1 rfl (Z0 ?_))
 refine Z1 rfl ?_ ?_<;>intro hc0<;>try simp only [cS] at hc0
 obtain ⟨x,hx⟩:∃ x,l[k]?=some x:=⟨_,List.getElem?_eq_getElem (by omega)⟩
 have hx10:=hl x (List.mem_of_getElem? hx)
 obtain ⟨j,rfl⟩:∃ j:Nat,x=j:=⟨x.toNat,by omega⟩
 have hlt:msk (l.take k)<2 ^ 10:=Z4l (n:=10) fun i hi=>by have:=hl i (List.mem_of_mem_take hi);omega
 have hp:=Z9a (show j<10 by omega) (Nat.le_refl _)
 have hst:msk (l.take (k+1))=msk (l.take k)|||(1*2 ^ j):=by rw [List.take_add_one,hx,Option.toList_some,Zg2,Nat.one_mul];rfl
 refine Zj (a:=a) (sz:=1) (rows:=irows l) (ne0 (by rw [irl];omega)) (fun ba oa he=>?_)
 subst he
 refine Z3 (Z0 (Z2 (sqt 3 rfl (sp rfl (PE.indexAddr Z0D rfl rfl (by omega) (by omega)) rfl (spL rfl rfl (lf0 sc3 (ir_get hx) rfl) rfl (pur 1 rfl (sqr 5 rfl (pur 2 rfl (sp rfl (PE.shlN (m:=1) (n:=j) rfl rfl rfl (by omega) (by omega)) rfl (sp rfl (PE.orN (m:=msk (l.take k)) (n:=1*2 ^ j) rfl rfl (Nat.lt_trans hlt (by decide)) (by omega)) rfl (pur 1 rfl (sqr 2 rfl (sp rfl (PE.add rfl rfl (by omega)) rfl (pur 1 rfl ?_))))))))))))))
 exact Zv ⟨k+1,by omega⟩ (by dsimp only;omega) (by rw [hst];exact sbA) idH
 obtain rfl:k=l.length:=by omega
 rw [List.take_length]
 refine Z7 (Z8 (Z8 (Zi (sqt 2 rfl (pur 2 rfl (Z4 ?_))))))
 exact rtA rfl rfl rfl ⟨rfl,rfl,rfl⟩ idH
theorem ZgG (s:Nat) (hs:s<2 ^ 10) (H:Z6) (R:Z5) :
    Fn Tryz.prog 217 [.int .i64 s] H R (fun v H' R'=>∃ o:OSl 3 1 (irows (Z3s s)),v=o.fs∧H'=o.G++H∧R'=R):=by
 refine Zc Tryz.func217 rfl Tryz.ntmps217 rfl ?_
 refine sqt 1 rfl (pur 1 rfl (sqt 1 rfl (pur 1 rfl (Z0 (sqt 1 rfl (pur 1 rfl (Z2 ?_)))))))
 refine Zd (ι:=(k:{k:Nat // k≤10})×OSl 3 1 (irows (Zbs s k.1))) (fun x=>⟨[(0,.int .i64 s),(3,x.2.fs),(4,.int .i64 x.1.1)],x.2.G++H,R⟩) (fun x=>10-x.1.1) ⟨⟨0,by omega⟩,OSl.nil _ _⟩ ?_ (fun x=>?_)
 exact Zf idH
 obtain ⟨⟨k,hk⟩,o⟩:=x
 dsimp only at hk o ⊢
 have hml:=ZfY s k
 refine Z0 (sqt 4 rfl (pur 2 rfl (sp rfl (PE.shrN (m:=s) (n:=k) rfl rfl (by omega)) rfl (pur 1 rfl ?_))))
 refine Z1 rfl ?_ ?_<;>intro hc0<;>try simp only [cS] at hc0
 have hk4:k<10:=by
   rcases Nat.lt_or_ge k 10 with h1 | h1
   · exact h1
   · obtain rfl:k=10:=by omega
     have:s>>>10=0:=by rw [Nat.shiftRight_eq_div_pow];exact Nat.div_eq_of_lt hs
     omega
 refine Z3 (Z0 (Z2 (sqt 5 rfl (pur 2 rfl (sp rfl (PE.shrN (m:=s) (n:=k) rfl rfl (by omega)) rfl (sp rfl (PE.andN (m:=s>>>k) (n:=1) rfl rfl rfl (Nat.le_trans (Nat.shiftRight_le _ _) (by omega)) (by decide)) rfl (pur 1 rfl ?_)))))))
 refine Z1 rfl ?_ ?_<;>intro hc1
 rw [ZbG] at hc1
 have eb:=Zjh (of_decide_eq_true hc1)
 refine sqr 5 rfl (pur 2 rfl ?_)
 refine bsl (out:=[_]) rfl Z1H zl3 rfl rfl rfl rfl rfl rfl (fun b18=>?_)
 refine apO (o) rfl Z6j rfl rfl (Z0y (row:=[.int .i64 k]) rfl) rfl rfl ((by rw [irl];simp only [List.length_singleton];omega)) rfl (fun o19=>?_)
 refine pur 1 rfl (sqr 3 rfl (pur 1 rfl (sp rfl (PE.add rfl rfl (by omega)) rfl (pur 1 rfl ?_))))
 first
   | exact Zh ⟨⟨k+1,by omega⟩,o19.cast (by rw [eb];simp [irows])⟩ (by dsimp only;omega) (fun w h=>h.del b18)
   | exact Zh ⟨⟨k+1,by omega⟩,o.cast (by rw [eb])⟩ (by dsimp only;omega) idH
 rw [ZbG] at hc1
 have eb:=Zaq (of_decide_eq_false hc1)
 refine Z3 (sqr 3 rfl (pur 1 rfl (sp rfl (PE.add rfl rfl (by omega)) rfl (pur 1 rfl ?_))))
 first
   | exact Zh ⟨⟨k+1,by omega⟩,o19.cast (by rw [eb];simp [irows])⟩ (by dsimp only;omega) (fun w h=>h.del b18)
   | exact Zh ⟨⟨k+1,by omega⟩,o.cast (by rw [eb])⟩ (by dsimp only;omega) idH
 have hz:s / 2 ^ k=0:=by
   have h5:s>>>k=0:=Nat.le_zero.1 (Int.ofNat_le.1 hc0)
   rw [Nat.shiftRight_eq_div_pow] at h5;exact h5
 refine Z7 (Z8 (Z8 (Zi (sqt 2 rfl (pur 2 rfl (Z4 ?_))))))
 exact rtA rfl rfl rfl ⟨o.cast (by rw [Zjf hz (by omega)]),rfl,rfl,rfl⟩ idH
set_option maxHeartbeats 600000 in
theorem Z4z (r:Rc) (hd:r.d.Ok) (m c:Nat) (hm:m<2 ^ 7) (hc:c<2 ^ 10) (H:Z6) (R:Z5) [hD:MemRows (some ⟨r.d.bd,0,none⟩) 4 [r.d.row] R] [hG:MemRows r.d.ag 2 (grows r.d.h.gaps) R] [hS:MemRows r.d.as_ 3 (srows r.d.h.sights) R] [sR:SubF r.d.R0 R] [hX:MemRows (some ⟨r.br,0,none⟩) 4 [r.row] R] :
    FnV Tryz.prog 218 [.pointer (some ⟨r.br,0,none⟩),.agg (plc m c).toArray] H R (.int .i64 (spr r.d.h.gaps c m:Nat)):=by
 refine Zc Tryz.func218 rfl Tryz.ntmps218 rfl ?_
 refine sqt 2 rfl (bx rfl rfl rfl (fun b3=>pur 1 rfl (sqt 3 rfl (sp rfl (PE.fA Z03 rfl) rfl (spL rfl rfl (lh sc3 rfl rfl) rfl (pur 1 rfl (Z0 (sqt 10 rfl (pur 1 rfl (sp rfl (PE.nilCheck rfl) rfl (sp rfl (PE.fA Z8X rfl) rfl (spL rfl rfl (lfB (sz:=4) Z7c rfl) rfl (sp rfl (PE.nilCheck rfl) rfl (sp rfl (PE.fA Z2i rfl) rfl (sp rfl (PE.fA Z2m rfl) rfl ?_)))))))))))))))
 refine spL rfl rfl (lfB (sz:=4) Zbu rfl) rfl (sp rfl (PE.lenSl Zba rfl) rfl (pur 1 rfl (Z2 ?_)))
 have hok:=hd.ok
 have hgl:=hok.gl
 have hbn:=hok.bins
 have hm9:m≤1000000:=by have:(2:Nat) ^ 7=128:=rfl;omega
 have hc9:c≤1000000:=by have:(2:Nat) ^ 10=1024:=rfl;omega
 have hw7:Wth r.d.h.gaps 7:=fun g hg=>by have:=hok.gaps g hg;omega
 refine Zd (ι:={k:Nat // k≤r.d.h.gaps.length}) (fun k=>⟨[(3,.pointer (some ⟨b3,0,none⟩)),(5,.int .i64 (Z5v r.d.h.gaps c m k.1:Nat)),(17,r.d.h.sg r.d.ag r.d.cg),(18,.int .i64 r.d.h.gaps.length),(19,.int .i64 k.1)],(b3,cel 324 (plc m c))::H,R⟩) (fun k=>r.d.h.gaps.length-k.1) ⟨0,Nat.zero_le _⟩ ?_ (fun k=>?_)
 exact Zf idH
 obtain ⟨k,hk⟩:=k
 dsimp only at hk ⊢
 have hlt:=Zep hw7 (cl:=c) hm k
 refine sqt 1 rfl (pur 1 rfl (Z0 ?_))
 refine Z1 rfl ?_ ?_<;>intro hc0<;>try simp only [cS] at hc0
 obtain ⟨g,hgg⟩:∃ g,r.d.h.gaps[k]?=some g:=⟨_,List.getElem?_eq_getElem (by omega)⟩
 have hgo2:=hok.gaps g (List.mem_of_getElem? hgg)
 obtain ⟨xa,hxa⟩:∃ n:Nat,g.a=n:=⟨g.a.toNat,by omega⟩
 obtain ⟨xb,hxb⟩:∃ n:Nat,g.b=n:=⟨g.b.toNat,by omega⟩
 have hp1:=Z9a (show xa<10 by omega) (Nat.le_refl _)
 have hp2:=Z9a (show xb<10 by omega) (Nat.le_refl _)
 have hp3:=Z9a (show k<10 by omega) (Nat.le_refl _)
 refine Zj (a:=r.d.ag) (sz:=2) (rows:=grows r.d.h.gaps) (by intro h0;have:=congrArg List.length h0;rw [Z5h] at this;simp only [List.length_nil] at this;have:=(List.getElem?_eq_some_iff.1 hgg).1;omega) (fun bq og he=>?_)
 have hG9:=hG.mem
 rw [he] at hG9
 haveI:=MemRows.mk hG9
 rw [show r.d.h.sg r.d.ag r.d.cg = .slice (some ⟨bq,og,none⟩) r.d.h.gaps.length r.d.cg by unfold Hse.sg;rw [he]]
 refine Z3 (Z0 (Z2 (sqt 6 rfl (pur 1 rfl (sp rfl (PE.indexAddr ZfH rfl rfl (by omega) (by omega)) rfl (spL rfl rfl (lfA ZeX (row:=grow g) (Z25 hgg) rfl) rfl (alc rfl ZeI rfl (fun b7=>pur 1 rfl ?_))))))))
 refine Zy (l':=grow g) rfl rfl rfl ZmT rfl rfl rfl rfl (nl rfl) ?_
 refine Z0 (sqt 6 rfl (sp rfl (PE.fA Z3U rfl) rfl (spL rfl rfl (lh sc3 rfl rfl) rfl (pur 1 rfl (sp rfl (PE.shrN (m:=c) (n:=k) rfl rfl (by omega)) rfl (sp rfl (PE.andN (m:=c>>>k) (n:=1) rfl rfl rfl (Nat.le_trans (Nat.shiftRight_le _ _) (by omega)) (by decide)) rfl (pur 1 rfl ?_)))))))
 refine Z1 rfl ?_ ?_<;>intro hc1
 rw [Z13] at hc1
 refine Z7 (Z8 (Zi (sqr 2 rfl (sp rfl (PE.add rfl rfl (by omega)) rfl (pur 1 rfl ?_)))))
 have hn:Z5v r.d.h.gaps c m (k+1)=Z5v r.d.h.gaps c m k:=by rw [Z2x hgg,hc1];rfl
 exact Zv ⟨k+1,by omega⟩ (by dsimp only;omega) (by rw [hn];exact sbA) (fun w h=>h.del b7)
 rw [Z13] at hc1
 refine Z3 (Z0 (sqt 7 rfl (sp rfl (PE.fA Z03 rfl) rfl (spL rfl rfl (lh sc3 rfl rfl) rfl (sp rfl (PE.fA Z1l rfl) rfl (spL rfl rfl (lh sc3 rfl rfl) rfl ?_))))))
 rw [hxa]
 refine sp rfl (PE.shrN (m:=m) (n:=xa) rfl rfl (by omega)) rfl (sp rfl (PE.andN (m:=m>>>xa) (n:=1) rfl rfl rfl (Nat.le_trans (Nat.shiftRight_le _ _) (by omega)) (by decide)) rfl (pur 1 rfl ?_))
 refine Z1 rfl ?_ ?_<;>intro hc2
 rw [Z13] at hc2
 have hor:Z5v r.d.h.gaps c m k|||1*2 ^ xb<2 ^ 62:=Nat.or_lt_two_pow (Nat.lt_trans hlt (by decide)) (by omega)
 refine sqr 6 rfl (pur 1 rfl (sp rfl (PE.fA Z1m rfl) rfl (spL rfl rfl (lh sc3 rfl rfl) rfl ?_)))
 rw [hxb]
 refine sp rfl (PE.shlN (m:=1) (n:=xb) rfl rfl rfl (by omega) (by omega)) rfl (sp rfl (PE.orN (m:=Z5v r.d.h.gaps c m k) (n:=1*2 ^ xb) rfl rfl (Nat.lt_trans hlt (by decide)) (by omega)) rfl (pur 1 rfl (sqt 7 rfl (sp rfl (PE.fA Z03 rfl) rfl (spL rfl rfl (lh sc3 rfl rfl) rfl (sp rfl (PE.fA Z1m rfl) rfl (spL rfl rfl (lh sc3 rfl rfl) rfl ?_)))))))
 rw [hxb]
 refine sp rfl (PE.shrN (m:=m) (n:=xb) rfl rfl (by omega)) rfl (sp rfl (PE.andN (m:=m>>>xb) (n:=1) rfl rfl rfl (Nat.le_trans (Nat.shiftRight_le _ _) (by omega)) (by decide)) rfl (pur 1 rfl ?_))
 refine Z1 rfl ?_ ?_<;>intro hc3
 rw [Z13] at hc3
 refine sqr 6 rfl (pur 1 rfl (sp rfl (PE.fA Z1l rfl) rfl (spL rfl rfl (lh sc3 rfl rfl) rfl ?_)))
 rw [hxa]
 refine sp rfl (PE.shlN (m:=1) (n:=xa) rfl rfl rfl (by omega) (by omega)) rfl (sp rfl (PE.orN (m:=Z5v r.d.h.gaps c m k|||1*2 ^ xb) (n:=1*2 ^ xa) rfl rfl hor (by omega)) rfl (pur 1 rfl (sqr 2 rfl (sp rfl (PE.add rfl rfl (by omega)) rfl (pur 1 rfl ?_)))))
 have hn:Z5v r.d.h.gaps c m (k+1)=(Z5v r.d.h.gaps c m k|||1*2 ^ xb)|||1*2 ^ xa:=by rw [Z2x hgg,hc1,cond_false,Zad hxa hxb];rw [hc2,hc3,cond_true,cond_true,Nat.one_mul,Nat.one_mul,Nat.or_assoc]
 exact Zv ⟨k+1,by omega⟩ (by dsimp only;omega) (by rw [hn];exact sbA) (fun w h=>h.del b7)
 rw [Z13] at hc3
 refine Z3 (sqr 2 rfl (sp rfl (PE.add rfl rfl (by omega)) rfl (pur 1 rfl ?_)))
 have hn:Z5v r.d.h.gaps c m (k+1)=Z5v r.d.h.gaps c m k|||1*2 ^ xb:=by rw [Z2x hgg,hc1,cond_false,Zad hxa hxb];rw [hc2,hc3,cond_true,cond_false,Nat.one_mul,Nat.or_zero]
 exact Zv ⟨k+1,by omega⟩ (by dsimp only;omega) (by rw [hn];exact sbA) (fun w h=>h.del b7)
 rw [Z13] at hc2
 refine Z3 (sqt 7 rfl (sp rfl (PE.fA Z03 rfl) rfl (spL rfl rfl (lh sc3 rfl rfl) rfl (sp rfl (PE.fA Z1m rfl) rfl (spL rfl rfl (lh sc3 rfl rfl) rfl ?_)))))
 rw [hxb]
 refine sp rfl (PE.shrN (m:=m) (n:=xb) rfl rfl (by omega)) rfl (sp rfl (PE.andN (m:=m>>>xb) (n:=1) rfl rfl rfl (Nat.le_trans (Nat.shiftRight_le _ _) (by omega)) (by decide)) rfl (pur 1 rfl ?_))
 refine Z1 rfl ?_ ?_<;>intro hc3
 rw [Z13] at hc3
 refine sqr 6 rfl (pur 1 rfl (sp rfl (PE.fA Z1l rfl) rfl (spL rfl rfl (lh sc3 rfl rfl) rfl ?_)))
 rw [hxa]
 refine sp rfl (PE.shlN (m:=1) (n:=xa) rfl rfl rfl (by omega) (by omega)) rfl (sp rfl (PE.orN (m:=Z5v r.d.h.gaps c m k) (n:=1*2 ^ xa) rfl rfl (Nat.lt_trans hlt (by decide)) (by omega)) rfl (pur 1 rfl (sqr 2 rfl (sp rfl (PE.add rfl rfl (by omega)) rfl (pur 1 rfl ?_)))))
 have hn:Z5v r.d.h.gaps c m (k+1)=Z5v r.d.h.gaps c m k|||1*2 ^ xa:=by rw [Z2x hgg,hc1,cond_false,Zad hxa hxb];rw [hc2,hc3,cond_true,cond_false,Nat.one_mul,Nat.zero_or]
 exact Zv ⟨k+1,by omega⟩ (by dsimp only;omega) (by rw [hn];exact sbA) (fun w h=>h.del b7)
 rw [Z13] at hc3
 refine Z3 (sqr 2 rfl (sp rfl (PE.add rfl rfl (by omega)) rfl (pur 1 rfl ?_)))
 have hn:Z5v r.d.h.gaps c m (k+1)=Z5v r.d.h.gaps c m k:=by rw [Z2x hgg,hc1,cond_false,Zad hxa hxb];rw [hc2,hc3,cond_false,cond_false,Nat.or_zero,Nat.or_zero]
 exact Zv ⟨k+1,by omega⟩ (by dsimp only;omega) (by rw [hn];exact sbA) (fun w h=>h.del b7)
 obtain rfl:k=r.d.h.gaps.length:=by omega
 rw [ZaG]
 refine Z7 (Z8 (Z8 (Zi (sqt 2 rfl (pur 2 rfl (Z4 ?_))))))
 exact rtA rfl rfl rfl ⟨rfl,rfl,rfl⟩ (fun w h=>h.del b3)
set_option maxHeartbeats 600000 in
theorem Zfo (r:Rc) (hd:r.d.Ok) (m c:Nat) (hm:m<2 ^ 7) (hc:c<2 ^ 10) (H:Z6) (R:Z5) [hD:MemRows (some ⟨r.d.bd,0,none⟩) 4 [r.d.row] R] [hG:MemRows r.d.ag 2 (grows r.d.h.gaps) R] [hS:MemRows r.d.as_ 3 (srows r.d.h.sights) R] [sR:SubF r.d.R0 R] [hX:MemRows (some ⟨r.br,0,none⟩) 4 [r.row] R] :
    FnV Tryz.prog 262 [.pointer (some ⟨r.br,0,none⟩),.agg (plc m c).toArray] H R (.int .i64 (Z0l r.d.h.gaps m c:Nat)):=by
 refine Zc Tryz.func262 rfl Tryz.ntmps262 rfl ?_
 refine sqt 2 rfl (bx rfl rfl rfl (fun b3=>pur 1 rfl (sqt 1 rfl (pur 1 rfl (Z0 (sqt 10 rfl (pur 1 rfl (sp rfl (PE.nilCheck rfl) rfl (sp rfl (PE.fA Z8X rfl) rfl (spL rfl rfl (lfB (sz:=4) Z7c rfl) rfl (sp rfl (PE.nilCheck rfl) rfl (sp rfl (PE.fA Z2i rfl) rfl (sp rfl (PE.fA Z2m rfl) rfl (spL rfl rfl (lfB (sz:=4) Zbu rfl) rfl (sp rfl (PE.lenSl Zba rfl) rfl ?_)))))))))))))))
 refine pur 1 rfl (Z2 ?_)
 have hok:=hd.ok
 have hgl:=hok.gl
 have hbn:=hok.bins
 have hm9:m≤1000000:=by have:(2:Nat) ^ 7=128:=rfl;omega
 have hc9:c≤1000000:=by have:(2:Nat) ^ 10=1024:=rfl;omega
 have hw7:Wth r.d.h.gaps 7:=fun g hg=>by have:=hok.gaps g hg;omega
 refine Zd (ι:={k:Nat // k≤r.d.h.gaps.length}) (fun k=>⟨[(3,.pointer (some ⟨b3,0,none⟩)),(5,.int .i64 (msF (usf r.d.h.gaps m c) k.1:Nat)),(15,r.d.h.sg r.d.ag r.d.cg),(16,.int .i64 r.d.h.gaps.length),(17,.int .i64 k.1)],(b3,cel 324 (plc m c))::H,R⟩) (fun k=>r.d.h.gaps.length-k.1) ⟨0,Nat.zero_le _⟩ ?_ (fun k=>?_)
 exact Zf idH
 obtain ⟨k,hk⟩:=k
 dsimp only at hk ⊢
 have hlt:msF (usf r.d.h.gaps m c) k<2 ^ 62:=Nat.lt_of_lt_of_le (Znq _ k) (Nat.pow_le_pow_right (by decide) (by omega))
 refine sqt 1 rfl (pur 1 rfl (Z0 ?_))
 refine Z1 rfl ?_ ?_<;>intro hc0<;>try simp only [cS] at hc0
 obtain ⟨g,hgg⟩:∃ g,r.d.h.gaps[k]?=some g:=⟨_,List.getElem?_eq_getElem (by omega)⟩
 have hgo2:=hok.gaps g (List.mem_of_getElem? hgg)
 obtain ⟨xa,hxa⟩:∃ n:Nat,g.a=n:=⟨g.a.toNat,by omega⟩
 obtain ⟨xb,hxb⟩:∃ n:Nat,g.b=n:=⟨g.b.toNat,by omega⟩
 have hp1:=Z9a (show xa<10 by omega) (Nat.le_refl _)
 have hp2:=Z9a (show xb<10 by omega) (Nat.le_refl _)
 have hp3:=Z9a (show k<10 by omega) (Nat.le_refl _)
 refine Zj (a:=r.d.ag) (sz:=2) (rows:=grows r.d.h.gaps) (by intro h0;have:=congrArg List.length h0;rw [Z5h] at this;simp only [List.length_nil] at this;have:=(List.getElem?_eq_some_iff.1 hgg).1;omega) (fun bq og he=>?_)
 have hG9:=hG.mem
 rw [he] at hG9
 haveI:=MemRows.mk hG9
 rw [show r.d.h.sg r.d.ag r.d.cg = .slice (some ⟨bq,og,none⟩) r.d.h.gaps.length r.d.cg by unfold Hse.sg;rw [he]]
 have hus:=ZnR (m:=m) (c:=c) hgg hxa hxb
 refine Z3 (Z0 (Z2 (sqt 6 rfl (pur 1 rfl (sp rfl (PE.indexAddr ZfH rfl rfl (by omega) (by omega)) rfl (spL rfl rfl (lfA ZeX (row:=grow g) (Z25 hgg) rfl) rfl (alc rfl ZeI rfl (fun b7=>pur 1 rfl ?_))))))))
 refine Zy (l':=grow g) rfl rfl rfl ZmT rfl rfl rfl rfl (nl rfl) ?_
 refine sqt 24 rfl (sp rfl (PE.fA Z3U rfl) rfl (spL rfl rfl (lh sc3 rfl rfl) rfl (pur 1 rfl (sp rfl (PE.shrN (m:=c) (n:=k) rfl rfl (by omega)) rfl (sp rfl (PE.andN (m:=c>>>k) (n:=1) rfl rfl rfl (Nat.le_trans (Nat.shiftRight_le _ _) (by omega)) (by decide)) rfl (pur 2 rfl ?_))))))
 refine Zq 28 rfl ?_ ?_<;>intro g28
 rw [Z2G] at g28
 refine spG rfl rfl rfl rfl (PE.fA Z03 rfl) rfl ?_
 refine Z0e rfl rfl rfl rfl rfl (lh sc3 rfl rfl) rfl ?_
 refine spG rfl rfl rfl rfl (PE.fA Z1l rfl) rfl ?_
 refine Z0e rfl rfl rfl rfl rfl (lh sc3 rfl rfl) rfl ?_
 rw [hxa]
 refine spG rfl rfl rfl rfl (PE.shrN (m:=m) (n:=xa) rfl rfl (by omega)) rfl ?_
 refine spG rfl rfl rfl rfl (PE.andN (m:=m>>>xa) (n:=1) rfl rfl rfl (Nat.le_trans (Nat.shiftRight_le _ _) (by omega)) (by decide)) rfl ?_
 refine pur 2 rfl ?_
 refine Zq 36 rfl ?_ ?_<;>intro g36
 rw [Z2G] at g36
 refine pur 9 rfl ?_
 refine ZK rfl ?_
 refine sqr 5 rfl (pur 2 rfl (sp rfl (PE.shlN (m:=1) (n:=k) rfl rfl rfl (by omega) (by omega)) rfl (sp rfl (PE.orN (m:=msF (usf r.d.h.gaps m c) k) (n:=1*2 ^ k) rfl rfl hlt (by omega)) rfl (pur 1 rfl (sqr 2 rfl (sp rfl (PE.add rfl rfl (by omega)) rfl (pur 1 rfl ?_)))))))
 have hn:msF (usf r.d.h.gaps m c) (k+1)=msF (usf r.d.h.gaps m c) k|||1*2 ^ k:=by rw [Z4F,Nat.one_mul,show usf r.d.h.gaps m c k=true by rw [hus];simp_all];rfl
 exact Zv ⟨k+1,by omega⟩ (by dsimp only;omega) (by rw [hn];exact sbA) (fun w h=>h.del b7)
 rw [Z2G] at g36
 refine spG rfl rfl rfl rfl (PE.fA Z03 rfl) rfl ?_
 refine Z0e rfl rfl rfl rfl rfl (lh sc3 rfl rfl) rfl ?_
 refine spG rfl rfl rfl rfl (PE.fA Z1m rfl) rfl ?_
 refine Z0e rfl rfl rfl rfl rfl (lh sc3 rfl rfl) rfl ?_
 rw [hxb]
 refine spG rfl rfl rfl rfl (PE.shrN (m:=m) (n:=xb) rfl rfl (by omega)) rfl ?_
 refine spG rfl rfl rfl rfl (PE.andN (m:=m>>>xb) (n:=1) rfl rfl rfl (Nat.le_trans (Nat.shiftRight_le _ _) (by omega)) (by decide)) rfl ?_
 refine pur 3 rfl ?_
 refine Z1 rfl ?_ ?_<;>intro hc1
 try rw [Z2G] at hc1
 refine sqr 5 rfl (pur 2 rfl (sp rfl (PE.shlN (m:=1) (n:=k) rfl rfl rfl (by omega) (by omega)) rfl (sp rfl (PE.orN (m:=msF (usf r.d.h.gaps m c) k) (n:=1*2 ^ k) rfl rfl hlt (by omega)) rfl (pur 1 rfl (sqr 2 rfl (sp rfl (PE.add rfl rfl (by omega)) rfl (pur 1 rfl ?_)))))))
 have hn:msF (usf r.d.h.gaps m c) (k+1)=msF (usf r.d.h.gaps m c) k|||1*2 ^ k:=by rw [Z4F,Nat.one_mul,show usf r.d.h.gaps m c k=true by rw [hus];simp_all];rfl
 exact Zv ⟨k+1,by omega⟩ (by dsimp only;omega) (by rw [hn];exact sbA) (fun w h=>h.del b7)
 try rw [Z2G] at hc1
 refine Z3 (sqr 2 rfl (sp rfl (PE.add rfl rfl (by omega)) rfl (pur 1 rfl ?_)))
 have hn:msF (usf r.d.h.gaps m c) (k+1)=msF (usf r.d.h.gaps m c) k:=by rw [Z4F,show usf r.d.h.gaps m c k=false by rw [hus];simp_all,cond_false,Nat.or_zero]
 exact Zv ⟨k+1,by omega⟩ (by dsimp only;omega) (by rw [hn];exact sbA) (fun w h=>h.del b7)
 rw [Z2G] at g28
 refine pur 8 rfl ?_
 repeat refine spU rfl rfl rfl rfl rfl rfl rfl ?_
 refine pur 2 rfl ?_
 refine Zt rfl ?_
 refine Z3 (sqr 2 rfl (sp rfl (PE.add rfl rfl (by omega)) rfl (pur 1 rfl ?_)))
 have hn:msF (usf r.d.h.gaps m c) (k+1)=msF (usf r.d.h.gaps m c) k:=by rw [Z4F,show usf r.d.h.gaps m c k=false by rw [hus];simp_all,cond_false,Nat.or_zero]
 exact Zv ⟨k+1,by omega⟩ (by dsimp only;omega) (by rw [hn];exact sbA) (fun w h=>h.del b7)
 obtain rfl:k=r.d.h.gaps.length:=by omega
 refine Z7 (Z8 (Z8 (Zi (sqt 2 rfl (pur 2 rfl (Z4 ?_))))))
 exact rtA rfl rfl rfl ⟨rfl,rfl,rfl⟩ (fun w h=>h.del b3)
end Go.Proofs.YtcfdanhklbklkaaGreat.Wv
