/- Walks of the functions of the program, and the laws that join them: what the last theorem of this claim needs, in order. -/
import Derived.Test.YtcfdanhklbklkaaGreatTs5
namespace Go.Proofs.YtcfdanhklbklkaaGreat.Sk
set_option linter.unusedSimpArgs false
set_option linter.unusedVariables false
open Go
theorem Zer:Z2q Tryz.prog 231=some 8:=by kernel_rfl
theorem Zg9:arN Tryz.prog 231=some (8,1):=by kernel_rfl
theorem Z3s:cal Tryz.prog 250=true:=by kernel_rfl
theorem ZjB:ZJ Tryz.prog 231=some 8:=by kernel_rfl
theorem Z7b:ZJ Tryz.prog 307=some 4:=by kernel_rfl
theorem cn4:ZJ Tryz.prog 4=some 1:=by kernel_rfl
theorem Z0G:elN Tryz.prog 23=some 1:=by kernel_rfl
theorem ZaQ:Z0m Tryz.prog 235 0=some 0:=by kernel_rfl
theorem Zfg:Z0m Tryz.prog 235 1=some 1:=by kernel_rfl
theorem Z1f:Z0m Tryz.prog 238 0=some 0:=by kernel_rfl
theorem Z1g:Z0m Tryz.prog 238 1=some 4:=by kernel_rfl
theorem Z0A:Z0m Tryz.prog 238 2=some 5:=by kernel_rfl
theorem Z3a:Z0m Tryz.prog 307 0=some 0:=by kernel_rfl
theorem Z3b:Z0m Tryz.prog 307 1=some 1:=by kernel_rfl
theorem Z2z:Z0m Tryz.prog 307 2=some 2:=by kernel_rfl
theorem Z3c:Z0m Tryz.prog 307 3=some 3:=by kernel_rfl
theorem Z1S:Z0m Tryz.prog 312 0=some 0:=by kernel_rfl
theorem Z5z:Z0m Tryz.prog 312 1=some 1:=by kernel_rfl
theorem ZT:Z3G Tryz.prog 23=true:=by kernel_rfl
theorem Z0x:Z17 Tryz.prog 23=true:=by kernel_rfl
theorem Z3J:Z17 Tryz.prog 236=true:=by kernel_rfl
theorem sc4:Z17 Tryz.prog 4=true:=by kernel_rfl
theorem ub4:Tryz.prog.underlying 4=some .bool:=by kernel_rfl
theorem ZiG:ZD Tryz.prog 231=some ([.bool false,.bool false,.bool false,.bool false,.bool false,.bool false,.bool false,.bool false]):=by kernel_rfl
theorem Z3p:ZD Tryz.prog 307=some ([.int .i64 0,.int .i64 0,.int .i64 0,.int .i64 0]):=by kernel_rfl
def DKp (b:Nat) (l:List Value) (H:Z8) (R:Z4):Prop:=∀ w,St H R w→∀ j v,l[j]?=some v→w.cell? ⟨b,j,none⟩=some v
theorem DKp.t {b:Nat} {l:List Value} {H:Z8} {R:Z4} {p:Nat×Obj} (h:DKp b l H R):DKp b l (p::H) R:=fun w hs=>h w hs.tail
theorem DKp.fact {b sz:Nat} {l x row:List Value} {H:Z8} {R:Z4} [m:MemRows (some ⟨b,0,none⟩) sz [row] R] (e:row=l++x):DKp b l H R:=fun w hs j v hv=>by
 have h1:=Z0L (hs.now m.mem) (i:=0) (row:=row) rfl (j:=j) (x:=v) (by rw [e,List.getElem?_append_left (List.getElem?_eq_some_iff.1 hv).1];exact hv)
 simpa using h1
theorem DKp.held {b e:Nat} {l x:List Value} {H:Z8} {R:Z4} [m:Mem1 b (cel e (l++x)) H]:DKp b l H R:=fun w hs j v hv=>by
 rw [Z1x (hs.held _ m.mem)]
 simp only [List.getElem?_toArray]
 rw [List.getElem?_append_left (List.getElem?_eq_some_iff.1 hv).1];exact hv
theorem lDK {P:Program} {T b j:Nat} {l:List Value} {x:Value} {H:Z8} {R:Z4} (h:DKp b l H R) (hT:Z17 P T=true) (hx:l[j]?=some x):∀ w,St H R w→Ld P T ⟨b,j,none⟩ x w:=fun w hs=>Z35 hT (h w hs _ _ hx)
structure DD where
 y:Yrd
 a1:Option Addr
 a2:Option Addr
 a3:Option Addr
 k1:Nat
 k2:Nat
 k3:Nat
 fb:Nat
 cf:Nat
 bd:Nat
 ba:Nat
 ca:Nat
 J:List Value
def DD.l (d:DD):List Value:=ydl d.y d.a1 d.a2 d.a3 d.k1 d.k2 d.k3++[.slice (some ⟨d.fb,0,none⟩) d.y.flows.length d.cf,.slice (some ⟨d.ba,0,none⟩) d.y.flows.length d.ca]
def wyr (w:Wy):List Value:=[.int .i64 (w.i:Int),.bool w.more]
def wyv (w:Wy):Value:=.agg (wyr w).toArray
abbrev Zq (l:List Wy):List (List Value):=l.map wyr
theorem Z57 {l:List Fl} {k:Nat} {f:Fl} (h:l[k]?=some f):(ZM l)[k]?=some (Z0e f):=by simp [ZM,h]
theorem frl (l:List Fl):(ZM l).length=l.length:=List.length_map _
theorem Z7Q {l:List SBin} {k:Nat} {f:SBin} (h:l[k]?=some f):(Zf l)[k]?=some (Z0l f):=by simp [Zf,h]
theorem Z2s {l:List SMov} {k:Nat} {f:SMov} (h:l[k]?=some f):(Zn l)[k]?=some (Z07 f):=by simp [Zn,h]
theorem Z8q {l:List SLev} {k:Nat} {f:SLev} (h:l[k]?=some f):(Zy l)[k]?=some (Z1r f):=by simp [Zy,h]
theorem Z1L {l:List Wy} {k:Nat} {f:Wy} (h:l[k]?=some f):(Zq l)[k]?=some (wyr f):=by simp [Zq,h]
theorem ZR {l:List Int} {k:Nat} (h:k<l.length):l[k]?=some (na l k):=by
 unfold na;rw [List.getD_eq_getElem?_getD,List.getElem?_eq_getElem h];rfl
theorem Z7t {l:List Int} {k:Nat} {x:Int} (h:l[k]?=some x):na l k=x:=by
 unfold na;rw [List.getD_eq_getElem?_getD,h];rfl
theorem Z2P {A:List Int} {J:List Value} {k i:Nat} (hk:k<A.length) (e:i=k):(Zp A++J)[i]?=some (.int .i64 (na A k)):=by
 subst e;rw [List.getElem?_append_left (by rw [Zj];exact hk)];exact Z2Q (ZR hk)
theorem Z7s {l:List Int} {k:Nat} (h:l.length≤k):na l k=0:=by
 unfold na;rw [List.getD_eq_getElem?_getD,List.getElem?_eq_none h];rfl
structure AOk (F:List Fl) (A:List Int):Prop where
 len:A.length=F.length
 bnd:∀ i,0≤na A i∧na A i≤300
theorem Ze7 {b t:Nat}:∀ (ls:List SLev) (f:Fl),(∀ l∈ls,l.s.ok)→(0≤f.lo∧f.lo≤300)∧0≤f.hi∧f.hi≤300→(0≤(ls.foldl (Z0B b t) f).lo∧(ls.foldl (Z0B b t) f).lo≤300)∧0≤(ls.foldl (Z0B b t) f).hi∧(ls.foldl (Z0B b t) f).hi≤300
 | [],f,_,h=>h
 | l::ls,f,hl,h=>by
   rw [List.foldl_cons]
   refine Ze7 ls _ (fun x hx=>hl x (by simp [hx])) ?_
   obtain ⟨h1,h2,h3⟩:=hl l (by simp)
   unfold Z0B
   cases decide (l.bin=(b:Int))&&decide (l.day=(t:Int))
   · exact h
   · simp only [cond_true];omega
theorem Z41 {y:Yrd} (hy:y.ok) {b:Nat} (hb:b<y.bins.length):((0≤(y.binD b).holds∧(y.binD b).holds≤300)∧(y.binD b).fst.ok)∧y.bins[b]?=some (y.binD b):=by
 have h:y.bins[b]?=some (y.binD b):=by unfold Yrd.binD;rw [List.getD_eq_getElem?_getD,List.getElem?_eq_getElem hb];rfl
 exact ⟨hy.bin _ (List.mem_of_getElem? h),h⟩
theorem ZeB {y:Yrd} {b t:Nat} {x:SBin} (h:(0≤x.holds∧x.holds≤300)∧x.fst.ok):(0≤(y.base b t x).lo∧(y.base b t x).lo≤300)∧0≤(y.base b t x).hi∧(y.base b t x).hi≤300:=by
 obtain ⟨h1,h2,h3,h4⟩:=h
 unfold Yrd.base
 cases decide (0<t)<;>simp only [cond_true,cond_false]<;>omega
theorem Z5w {y:Yrd} (hy:y.ok):∀ f∈y.flows,(0≤f.lo∧f.lo≤300)∧0≤f.hi∧f.hi≤300:=fun f hf=>by
 obtain ⟨i,hi⟩:=List.mem_iff_getElem?.1 hf
 rcases Z0Z hi with ⟨b,t,hb,ht,_,rfl⟩ | ⟨j,m,hm,_,rfl⟩
 · exact Ze7 _ _ (fun l hl=>(hy.lev l hl).2.2) (ZeB (Z41 hy hb).1)
 · obtain ⟨h1,h2,h3⟩:=(hy.mov m (List.mem_of_getElem? hm)).2.2.2.2
   unfold Yrd.movF;dsimp only;omega
theorem Z04 {y:Yrd} (hy:y.ok):2≤y.flows.length∧y.flows.length≤34:=by
 have h1:=hy.days;have h2:=hy.bins;have h3:=hy.nm
 have e:y.flows.length=y.bins.length*(y.days+1)+y.moves.length:=by unfold Yrd.flows;rw [List.length_append,Zs,List.length_map]
 have h4:y.bins.length*(y.days+1)≤4*6:=Nat.mul_le_mul h2.2 (by omega)
 have h5:1*2≤y.bins.length*(y.days+1):=Nat.mul_le_mul h2.1 (by omega)
 omega
theorem Z28 {y:Yrd} (hy:y.ok):1≤y.cells∧y.cells≤20:=by
 have h1:=hy.days;have h2:=hy.bins
 have h4:y.bins.length*y.days≤4*5:=Nat.mul_le_mul h2.2 (by omega)
 have h5:1*1≤y.bins.length*y.days:=Nat.mul_le_mul h2.1 (by omega)
 unfold Yrd.cells;omega
theorem Zaz (y:Yrd):(y.bins.length:Int)*(y.days:Int)=((y.cells:Nat):Int):=by unfold Yrd.cells;rw [Int.natCast_mul]
theorem Zec {y:Yrd} (hy:y.ok) {b:Int} (h:0≤b∧b<y.bins.length):0≤b*(y.days:Int)∧b*(y.days:Int)≤20∧0≤b*((y.days:Int)+1)∧b*((y.days:Int)+1)≤24:=by
 have h1:=hy.days;have h2:=hy.bins
 have h3:b*(y.days:Int)≤4*5:=Int.mul_le_mul (by omega) (by omega) (by omega) (by omega)
 have h4:b*((y.days:Int)+1)≤4*6:=Int.mul_le_mul (by omega) (by omega) (by omega) (by omega)
 exact ⟨Int.mul_nonneg h.1 (by omega),by omega,Int.mul_nonneg h.1 (by omega),by omega⟩
theorem ZcB {y:Yrd} {b:Int} {t:Int} (hb:0≤b) (ht:0≤t):b*(y.days:Int)+t=((y.cell b t.toNat:Nat):Int):=by
 unfold Yrd.cell
 rw [decide_eq_false (by omega),cond_false,Int.natCast_add,Int.natCast_mul,Int.toNat_of_nonneg hb,Int.toNat_of_nonneg ht]
def wtl (S:Nat→Bool) (less:Bool) (i:Nat):Int:=bif S i then (bif less then -1 else 1) else 0
theorem Zds (S:Nat→Bool) (less:Bool) (w:Wy):w.g (wtl S less)=bif S w.i then (bif (!(w.more == less)) then 1 else -1) else 0:=by
 unfold Wy.g Wy.s wtl
 cases S w.i<;>cases w.more<;>cases less<;>rfl
theorem Zk7 (S:Nat→Bool) (less:Bool) (w:Wy) : -1≤w.g (wtl S less)∧w.g (wtl S less)≤1:=by
 rw [Zds];cases S w.i<;>cases (!(w.more == less))<;>decide
theorem ZhH {k i:Nat} (h:k<8) (e:i=k):spl (List.replicate k (Value.bool true)++List.replicate (8-k) (Value.bool false)) i [.bool true]=List.replicate (k+1) (Value.bool true)++List.replicate (8-(k+1)) (Value.bool false):=by
 subst e
 match i,h with
 | 0,_=>rfl
 | 1,_=>rfl
 | 2,_=>rfl
 | 3,_=>rfl
 | 4,_=>rfl
 | 5,_=>rfl
 | 6,_=>rfl
 | 7,_=>rfl
def Z6y (g:Nat) (vf vc:List Value) (less:Bool):List Value:=[.func (.func g) vf.toArray vc.toArray,.bool less]
theorem Z1Q (y:Yrd) (a1 a2 a3:Option Addr) (k1 k2 k3:Nat) (hy:y.ok) (bd:Nat) (H:Z8) (R:Z4) (hK:DKp bd (ydl y a1 a2 a3 k1 k2 k3) H R) :
    FnV Tryz.prog 250 [.pointer (some ⟨bd,0,none⟩)] H R (.int .i64 (y.cells:Int)):=by
 have hm:=Zaz y
 have hc:=Z28 hy
 refine Zc Tryz.func250 rfl Tryz.ntmps250 rfl ?_
 refine sqt 1 rfl (pur 1 rfl (Z0 ?_))
 refine Zd [0,1,3,7,15,31,0,64,192,448,960,2047,4095] (tks 0 4 (.ld 4 (tks 5 5 (.ld 10 (.tk 11 (.tk 12 .done)))))) Zt (by kernel_rfl) ?_
 refine Zm 1 rfl (tk rfl (PE.nilCheck rfl) rfl (tk rfl (PE.fA Z1f rfl) rfl (tk rfl (PE.fA Z0o rfl) rfl (ld rfl rfl (lDK hK Z2I rfl) rfl (tk rfl (PE.lenSl Z2R rfl) rfl (Zm 1 rfl (tk rfl (PE.nilCheck rfl) rfl (tk rfl (PE.fA Z1f rfl) rfl (tk rfl (PE.fA Z18 rfl) rfl (ld rfl rfl (lDK hK sc3 rfl) rfl (tk rfl (PE.mul rfl rfl (by omega)) rfl (Zm 1 rfl (Z5 ?_)))))))))))))
 exact rtA rfl rfl rfl ⟨congrArg (Value.int .i64) hm,rfl,rfl⟩ drp
theorem Z7V (y:Yrd) (a1 a2 a3:Option Addr) (k1 k2 k3:Nat) (hy:y.ok) (bd:Nat) (b t:Int) (hb : -1≤b∧b<y.bins.length) (ht:0≤t∧t≤y.days) (H:Z8) (R:Z4) (hK:DKp bd (ydl y a1 a2 a3 k1 k2 k3) H R) :
    FnV Tryz.prog 251 [.pointer (some ⟨bd,0,none⟩),.int .i64 b,.int .i64 t] H R (.int .i64 ((y.cell b t.toNat:Nat):Int)):=by
 refine Zc Tryz.func251 rfl Tryz.ntmps251 rfl ?_
 refine sqt 1 rfl (pur 1 rfl (Z0 (sqt 2 rfl (pur 2 rfl ?_))))
 refine Z1 rfl ?_ ?_<;>intro hc0<;>try simp only [cS] at hc0
 refine sqt 3 rfl (pur 1 rfl ?_)
 refine clV rfl Z3s rfl rfl (Z1Q y a1 a2 a3 k1 k2 k3 hy bd _ _ hK) ?_
 refine pur 1 rfl (Z5 ?_)
 exact rtA rfl rfl rfl ⟨by simp only [ZP];unfold Yrd.cell;rw [hc0];rfl,rfl,rfl⟩ drp
 have hmb:=Zec hy (b:=b) (by omega)
 have hday:=hy.days
 refine Z2 (sqt 10 rfl (pur 2 rfl (sp rfl (PE.nilCheck rfl) rfl (sp rfl (PE.fA Z1f rfl) rfl (sp rfl (PE.fA Z18 rfl) rfl (spL rfl rfl (lDK hK sc3 rfl) rfl (sp rfl (PE.mul rfl rfl (by omega)) rfl (pur 1 rfl (sp rfl (PE.add rfl rfl (by omega)) rfl (pur 1 rfl (Z5 ?_)))))))))))
 exact rtA rfl rfl rfl ⟨congrArg (Value.int .i64) (ZcB (y:=y) (by omega) ht.1),rfl,rfl⟩ drp
theorem Zgp (y:Yrd) (a1 a2 a3:Option Addr) (k1 k2 k3:Nat) (hy:y.ok) (bd:Nat) (b t:Nat) (hb:b<y.bins.length) (ht:t≤y.days) (H:Z8) (R:Z4) (hK:DKp bd (ydl y a1 a2 a3 k1 k2 k3) H R) :
    FnV Tryz.prog 57 [.pointer (some ⟨bd,0,none⟩),.int .i64 (b:Int),.int .i64 (t:Int)] H R (.int .i64 ((b*(y.days+1)+t:Nat):Int)):=by
 have hmb:=Zec hy (b:=(b:Int)) (by omega)
 have hday:=hy.days
 refine Zc Tryz.func57 rfl Tryz.ntmps57 rfl ?_
 refine sqt 1 rfl (pur 1 rfl (sqt 11 rfl (pur 2 rfl (sp rfl (PE.nilCheck rfl) rfl (sp rfl (PE.fA Z1f rfl) rfl (sp rfl (PE.fA Z18 rfl) rfl (spL rfl rfl (lDK hK sc3 rfl) rfl (sp rfl (PE.add rfl rfl (by omega)) rfl (sp rfl (PE.mul rfl rfl (by omega)) rfl (pur 1 rfl (sp rfl (PE.add rfl rfl (by omega)) rfl (pur 1 rfl (Z5 ?_)))))))))))))
 exact rtA rfl rfl rfl ⟨congrArg (Value.int .i64) (by rw [Int.natCast_add,Int.natCast_mul];rfl),rfl,rfl⟩ drp
theorem Z48 (n x:Int) (b c:Nat) (H:Z8) (R:Z4) [hM:Mem1 b (cel 3 [.int .i64 x]) H] :
    FnV Tryz.prog 202 [.int .i64 n,.slice (some ⟨b,0,none⟩) 1 c] H R (.int .i64 (min n x)):=by
 refine Zc Tryz.func202 rfl Tryz.ntmps202 rfl ?_
 refine sqt 1 rfl (pur 1 rfl (Z0 (sqt 3 rfl (pur 1 rfl (sp rfl (PE.lenSl ZT rfl) rfl (pur 1 rfl (Z3 ?_)))))))
 refine Zb (ι:={k:Nat // k≤1}) (fun k=>⟨[(0,.int .i64 (bif Nat.beq k.1 0 then n else min n x)),(7,.slice (some ⟨b,0,none⟩) 1 c),(8,.int .i64 1),(9,.int .i64 (k.1:Int))],H,R⟩) (fun k=>1-k.1) ⟨0,by decide⟩ ?_ (fun k=>?_)
 exact Ze idH
 obtain ⟨k,hk⟩:=k
 dsimp only
 refine sqt 1 rfl (pur 1 rfl (Z0 ?_))
 refine Z1 rfl ?_ ?_<;>intro hc0<;>try simp only [cS] at hc0
 obtain rfl:k=0:=by omega
 refine Z2 (Z0 (Z3 (sqt 3 rfl (sp rfl (PE.indexAddr Z0G rfl rfl (by decide) (by decide)) rfl (spL rfl rfl (lh sc3 rfl rfl) rfl (pur 1 rfl (sqr 4 rfl (pur 2 rfl (sp rfl (PE.min rfl rfl) rfl (pur 1 rfl (sqr 2 rfl (sp rfl (PE.add rfl rfl (by decide)) rfl (pur 1 rfl ?_)))))))))))))
 exact Z7 ⟨1,by decide⟩ idH
 obtain rfl:k=1:=by omega
 refine Z9 (Za (Za (Zh (sqt 2 rfl (pur 2 rfl (Z5 ?_))))))
 exact rtA rfl rfl rfl ⟨rfl,rfl,rfl⟩ drp
theorem Zgf (H:Z8) (R:Z4) :
    FnV Tryz.prog 115 [] H R (.agg (List.replicate 8 (Value.bool true)).toArray):=by
 refine Zc Tryz.func115 rfl Tryz.ntmps115 rfl ?_
 refine sqt 1 rfl (alc rfl ZiG rfl (fun b0=>sqt 1 rfl (alc rfl ZiG rfl (fun b1=>Z0 (sqt 1 rfl (pur 1 rfl (Z3 ?_)))))))
 refine Zb (ι:={k:Nat // k≤8}) (fun k=>⟨[(0,.pointer (some ⟨b0,0,none⟩)),(1,.pointer (some ⟨b1,0,none⟩)),(3,.int .i64 (k.1:Int))],(b1,cel 231 (List.replicate k.1 (Value.bool true)++List.replicate (8-k.1) (Value.bool false)))::(b0,cel 231 (List.replicate 8 (Value.bool false)))::H,R⟩) (fun k=>8-k.1) ⟨0,by decide⟩ ?_ (fun k=>?_)
 exact Ze idH
 obtain ⟨k,hk⟩:=k
 dsimp only
 refine sqt 1 rfl (pur 1 rfl (Z0 ?_))
 refine Z1 rfl ?_ ?_<;>intro hc0<;>try simp only [cS] at hc0
 refine Z2 (Z0 (Z3 (sqt 2 rfl (pur 2 rfl (sqr 3 rfl (pur 1 rfl (sp rfl (PE.indexArr Zg9 rfl rfl (by omega) (by omega)) rfl ?_)))))))
 refine ZB (l':=List.replicate (k+1) (Value.bool true)++List.replicate (8-(k+1)) (Value.bool false)) rfl rfl rfl cn4 rfl rfl rfl (ZhH (k:=k) (by omega) (by show 0+((k:Nat):Int).toNat*1=_;omega)) (by rw [List.length_append,List.length_replicate,List.length_replicate];show 0+((k:Nat):Int).toNat*1+1≤_;omega) ?_
 refine sqr 2 rfl (sp rfl (PE.add rfl rfl (by omega)) rfl (pur 1 rfl ?_))
 exact Z7 ⟨k+1,by omega⟩ idH
 obtain rfl:k=8:=by omega
 refine Z9 (Za (Za (Zh (sqt 2 rfl (spL rfl rfl (lhA (List.replicate 8 (Value.bool true)) Zer rfl (rest:=[]) rfl rfl) rfl ?_)))))
 refine sto rfl rfl rfl ZjB rfl rfl rfl rfl ?_
 refine Z5 ?_
 exact Zr (vs:=[_]) rfl (.cons (RV.cell rfl (lhA (List.replicate 8 (Value.bool true)) Zer rfl (rest:=[]) rfl rfl)) .nil) rfl ⟨rfl,rfl,rfl⟩ (fun w h=>(h.del b1).del b0)
theorem Z5k (d:DD) (w9:Wy) (hw:w9.i<d.y.flows.length) (H:Z8) (R:Z4) [hD:MemRows (some ⟨d.bd,0,none⟩) 6 [d.l] R] [hF:MemRows (some ⟨d.fb,0,none⟩) 4 (ZM d.y.flows) R] :
    FnV Tryz.prog 257 [.pointer (some ⟨d.bd,0,none⟩),wyv w9] H R (.int .i64 (w9.fr d.y.flows:Int)):=by
 have hfg:=Z3w hw
 refine Zc Tryz.func257 rfl Tryz.ntmps257 rfl ?_
 refine sqt 2 rfl (bx rfl rfl rfl (fun b3=>pur 1 rfl (Z0 (sqt 2 rfl (sp rfl (PE.fA Z5z rfl) rfl (spL rfl rfl (lh (v:=.bool w9.more) sc4 rfl rfl) rfl ?_))))))
 refine Z1 rfl ?_ ?_<;>intro hc0<;>try simp only [cS] at hc0
 refine Z0 ?_
 refine Zd [0,1,3,7,0,16,63,127,255,511] (tks 0 3 (.ld 3 (.tk 4 (.ld 5 (.tk 6 (.tk 7 (.ld 8 (.tk 9 .done)))))))) Zt (by kernel_rfl) ?_
 refine Zm 1 rfl (tk rfl (PE.nilCheck rfl) rfl (tk rfl (PE.fA Z1g rfl) rfl (ld rfl rfl (lfB (sz:=6) Z3J rfl) rfl (tk rfl (PE.fA Z1S rfl) rfl (ld rfl rfl (lh (v:=.int .i64 (w9.i:Int)) sc3 rfl rfl) rfl (tk rfl (PE.indexAddr Z97 rfl rfl (by omega) (by omega)) rfl (tk rfl (PE.fA Z3a rfl) rfl (ld rfl rfl (lf sc3 (Z57 hfg) rfl) rfl (Zm 1 rfl (Z5 ?_))))))))))
 exact rtA rfl rfl rfl ⟨by simp only [ZP];unfold Wy.fr;rw [hc0];rfl,rfl,rfl⟩ drp
 refine Z2 (Z0 ?_)
 refine Zd [0,1,3,7,0,16,63,127,255,511] (tks 0 3 (.ld 3 (.tk 4 (.ld 5 (.tk 6 (.tk 7 (.ld 8 (.tk 9 .done)))))))) Zt (by kernel_rfl) ?_
 refine Zm 1 rfl (tk rfl (PE.nilCheck rfl) rfl (tk rfl (PE.fA Z1g rfl) rfl (ld rfl rfl (lfB (sz:=6) Z3J rfl) rfl (tk rfl (PE.fA Z1S rfl) rfl (ld rfl rfl (lh (v:=.int .i64 (w9.i:Int)) sc3 rfl rfl) rfl (tk rfl (PE.indexAddr Z97 rfl rfl (by omega) (by omega)) rfl (tk rfl (PE.fA Z3b rfl) rfl (ld rfl rfl (lf sc3 (Z57 hfg) rfl) rfl (Zm 1 rfl (Z5 ?_))))))))))
 exact rtA rfl rfl rfl ⟨by simp only [ZP];unfold Wy.fr;rw [hc0];rfl,rfl,rfl⟩ drp
theorem Zco (d:DD) (hy:d.y.ok) (w9:Wy) (hw:w9.i<d.y.flows.length) (A:List Int) (hA:AOk d.y.flows A) (H:Z8) (R:Z4) [hD:MemRows (some ⟨d.bd,0,none⟩) 6 [d.l] R] [hF:MemRows (some ⟨d.fb,0,none⟩) 4 (ZM d.y.flows) R] [hM:Mem1 d.ba (cel 3 (Zp A++d.J)) H] :
    FnV Tryz.prog 201 [.pointer (some ⟨d.bd,0,none⟩),wyv w9] H R (.tuple #[.int .i64 (w9.to d.y.flows:Int),.int .i64 (w9.res d.y.flows A)]):=by
 have hfg:=Z3w hw
 have hab:=hA.bnd w9.i
 have hfb:=Z5w hy _ (List.mem_of_getElem? hfg)
 refine Zc Tryz.func201 rfl Tryz.ntmps201 rfl ?_
 refine sqt 3 rfl (bx rfl rfl rfl (fun b3=>pur 2 rfl (Z0 ?_)))
 refine Zd [0,1,3,7,0,16,63,127,0,511] (tks 0 3 (.ld 3 (.tk 4 (.ld 5 (.tk 6 (.ld 7 (.big 8 (.big 9 .done)))))))) Zt (by kernel_rfl) ?_
 refine Zm 1 rfl (tk rfl (PE.nilCheck rfl) rfl (tk rfl (PE.fA Z1g rfl) rfl (ld rfl rfl (lfB (sz:=6) Z3J rfl) rfl (tk rfl (PE.fA Z1S rfl) rfl (ld rfl rfl (lh (v:=.int .i64 (w9.i:Int)) sc3 rfl rfl) rfl (tk rfl (PE.indexAddr Z97 rfl rfl (by omega) (by omega)) rfl (ld rfl rfl (lfA Z5g (Z57 hfg) rfl) rfl (alc rfl Z3p rfl (fun b6=>?_)))))))))
 refine bg (fun w hs=>⟨(lfA Z5g (Z57 hfg) rfl) w hs,(lh (v:=.int .i64 (w9.i:Int)) sc3 rfl rfl) w hs,(lfB (sz:=6) Z3J rfl) w hs,trivial⟩) ?_
 refine sto rfl rfl rfl Z7b rfl rfl rfl rfl ?_
 refine bgT (Z0 (sqt 2 rfl (sp rfl (PE.fA Z5z rfl) rfl (spL rfl rfl (lh (v:=.bool w9.more) sc4 rfl rfl) rfl ?_))))
 refine Z1 rfl ?_ ?_<;>intro hc0<;>try simp only [cS] at hc0
 refine Z0 ?_
 refine Zd [0,1,0,4,0,16,48,112,0,256,1008,2032,4092,3,16383] (.tk 0 (.ld 1 (.tk 2 (.ld 3 (tks 4 3 (.ld 7 (.tk 8 (.ld 9 (.tk 10 (.ld 11 (tks 12 3 .done))))))))))) Zt (by kernel_rfl) ?_
 refine tk rfl (PE.fA Z3b rfl) rfl (ld rfl rfl (lh sc3 rfl rfl) rfl (tk rfl (PE.fA Z3c rfl) rfl (ld rfl rfl (lh sc3 rfl rfl) rfl (Zm 1 rfl (tk rfl (PE.nilCheck rfl) rfl (tk rfl (PE.fA Z0A rfl) rfl (ld rfl rfl (lfB (sz:=6) Z0x rfl) rfl (tk rfl (PE.fA Z1S rfl) rfl (ld rfl rfl (lh (v:=.int .i64 (w9.i:Int)) sc3 rfl rfl) rfl (tk rfl (PE.indexAddr Z0G rfl rfl (by omega) (by omega)) rfl (ld rfl rfl (lh sc3 rfl (Z2P (k:=w9.i) (by rw [hA.len];exact hw) (by show 0+((w9.i:Nat):Int).toNat*1=_;omega))) rfl (tk rfl (PE.sub rfl rfl (by omega)) rfl (Zm 2 rfl (Z5 ?_))))))))))))))
 exact rtB rfl rfl rfl rfl ⟨by simp only [ZP];unfold Wy.to Wy.res;rw [hc0];rfl,rfl,rfl⟩ drp
 refine Z2 (Z0 ?_)
 refine Zd [0,1,0,4,12,28,0,64,252,508,0,1024,4092,3,16383] (.tk 0 (.ld 1 (tks 2 3 (.ld 5 (.tk 6 (.ld 7 (.tk 8 (.ld 9 (.tk 10 (.ld 11 (tks 12 3 .done))))))))))) Zt (by kernel_rfl) ?_
 refine tk rfl (PE.fA Z3a rfl) rfl (ld rfl rfl (lh sc3 rfl rfl) rfl (Zm 1 rfl (tk rfl (PE.nilCheck rfl) rfl (tk rfl (PE.fA Z0A rfl) rfl (ld rfl rfl (lfB (sz:=6) Z0x rfl) rfl (tk rfl (PE.fA Z1S rfl) rfl (ld rfl rfl (lh (v:=.int .i64 (w9.i:Int)) sc3 rfl rfl) rfl (tk rfl (PE.indexAddr Z0G rfl rfl (by omega) (by omega)) rfl (ld rfl rfl (lh sc3 rfl (Z2P (k:=w9.i) (by rw [hA.len];exact hw) (by show 0+((w9.i:Nat):Int).toNat*1=_;omega))) rfl (tk rfl (PE.fA Z2z rfl) rfl (ld rfl rfl (lh sc3 rfl rfl) rfl (tk rfl (PE.sub rfl rfl (by omega)) rfl (Zm 2 rfl (Z5 ?_))))))))))))))
 exact rtB rfl rfl rfl rfl ⟨by simp only [ZP];unfold Wy.to Wy.res;rw [hc0];rfl,rfl,rfl⟩ drp
theorem Zag (g:Nat) (vf vc:List Value) (S:Nat→Bool) (less:Bool) (G:Z4) (hcal:cal Tryz.prog g=true) (hg:∀ (i:Nat) (H:Z8) (R:Z4) [SubF G R],FnV Tryz.prog g (vf++[.int .i64 (i:Int)]++vc) H R (.bool (S i))) (w9:Wy) (H:Z8) (R:Z4) [hG:SubF G R] :
    FnV Tryz.prog 259 [.agg (Z6y g vf vc less).toArray,wyv w9] H R (.int .i64 (w9.g (wtl S less))):=by
 refine Zc Tryz.func259 rfl Tryz.ntmps259 rfl ?_
 refine sqt 3 rfl (bx rfl rfl rfl (fun b2=>bx rfl rfl rfl (fun b3=>pur 1 rfl (Z0 (sqt 6 rfl (sp rfl (PE.fA ZaQ rfl) rfl (spL rfl rfl (lh Z3k rfl rfl) rfl (sp rfl (PE.fA Z1S rfl) rfl (spL rfl rfl (lh (v:=.int .i64 (w9.i:Int)) sc3 rfl rfl) rfl ?_)))))))))
 refine Z3t rfl rfl (hcal) rfl rfl (hg w9.i _ _) ?_
 refine pur 1 rfl ?_
 refine Z1 rfl ?_ ?_<;>intro hc0<;>try simp only [cS] at hc0
 refine sqt 1 rfl (pur 1 rfl (Z5 ?_))
 exact rtA rfl rfl rfl ⟨by simp only [ZP];rw [Zds,hc0];rfl,rfl,rfl⟩ drp
 have hs9:S w9.i=true:=by simpa using hc0
 refine Z2 (Z0 (sqt 5 rfl (sp rfl (PE.fA Z5z rfl) rfl (spL rfl rfl (lh (v:=.bool w9.more) sc4 rfl rfl) rfl (sp rfl (PE.fA Zfg rfl) rfl (spL rfl rfl (lh (v:=.bool less) sc4 rfl rfl) rfl (sp rfl (PE.neqBool ub4 rfl rfl) rfl ?_)))))))
 refine Z1 rfl ?_ ?_<;>intro hc1
 refine sqt 1 rfl (pur 1 rfl (Z5 ?_))
 exact rtA rfl rfl rfl ⟨by simp only [ZP];rw [Zds,hs9,hc1];rfl,rfl,rfl⟩ drp
 refine Z2 (sqt 1 rfl (pur 1 rfl (Z5 ?_)))
 exact rtA rfl rfl rfl ⟨by simp only [ZP];rw [Zds,hs9,hc1];rfl,rfl,rfl⟩ drp
theorem Z6d:cal Tryz.prog 202=true:=by kernel_rfl
theorem Z81:cal Tryz.prog 251=true:=by kernel_rfl
theorem Z95:ZJ Tryz.prog 102=some 4:=by kernel_rfl
theorem cn3:ZJ Tryz.prog 3=some 1:=by kernel_rfl
theorem ZiL:ZJ Tryz.prog 62=some 3:=by kernel_rfl
theorem ZcH:ZJ Tryz.prog 83=some 5:=by kernel_rfl
theorem Zdd:Z00 Tryz.prog 307=some [(0,1),(1,1),(2,1),(3,1)]:=by kernel_rfl
theorem Zz:Z17 Tryz.prog 162=true:=by kernel_rfl
theorem Z0F:slE Tryz.prog 23=some (3,1):=by kernel_rfl
theorem Z4M:ZD Tryz.prog 102=some ([.int .i64 0,.int .i64 0,.int .i64 0,.int .i64 0]):=by kernel_rfl
theorem zl3:ZD Tryz.prog 3=some ([.int .i64 0]):=by kernel_rfl
theorem Zg1:ZD Tryz.prog 62=some ([.int .i64 0,.int .i64 0,.int .i64 0]):=by kernel_rfl
theorem Z7L:ZD Tryz.prog 83=some ([.int .i64 0,.int .i64 0,.int .i64 0,.int .i64 0,.int .i64 0]):=by kernel_rfl
structure EI (y:Yrd) (a1 a2 a3:Option Addr) (k1 k2 k3:Nat) (bd x1 x2:Nat) (H:Z8) (R:Z4):Prop where
 dk:DKp bd (ydl y a1 a2 a3 k1 k2 k3) H R
 f1:RowsA (some ⟨x1,0,none⟩) 1 [[.pointer (some ⟨bd,0,none⟩)]]∈R
 f2:RowsA (some ⟨x2,0,none⟩) 8 [(List.replicate 8 (Value.bool true))]∈R
 r1:RowsA a1 3 (Zf y.bins)∈R
 r2:RowsA a2 5 (Zn y.moves)∈R
 r3:RowsA a3 4 (Zy y.levels)∈R
theorem ZkC {i:Nat} (h:i<8):(List.replicate 8 (Value.bool true))[i]?=some (.bool true):=by
 rw [List.getElem?_replicate,if_pos h]
theorem ZK {α:Type} {l:List α} {i:Nat} {x:α} (h:l[i]?=some x):l≠[]:=fun e=>by rw [e] at h;simp at h
theorem ZeC {y:Yrd} {b t:Nat} {x:SBin}:(y.base b t x).fr=(bif decide (0<t) then y.cell (b:Int) ((t:Int)-1).toNat else y.cells)∧(y.base b t x).to=(bif decide (t<y.days) then y.cell (b:Int) ((t:Int)).toNat else y.cells):=by
 have h1:decide ((b:Int) = -1)=false:=decide_eq_false (by omega)
 unfold Yrd.base Yrd.cell
 rw [h1,show ((t:Int)-1).toNat=t-1 by omega]
 exact ⟨rfl,rfl⟩
theorem ZeD {y:Yrd} {b t:Nat} {x:SBin}:(y.base b t x).lo=(bif decide (0<t) then 0 else max 0 x.fst.lo)∧(y.base b t x).hi=(bif decide (0<t) then x.holds else min x.holds x.fst.hi):=⟨rfl,rfl⟩
theorem Zgn (bd:Nat) (H:Z8) (R:Z4) :
    Fn Tryz.prog 198 [.pointer (some ⟨bd,0,none⟩),.agg (List.replicate 8 (Value.bool true)).toArray] H R (fun v H' R'=>∃ x1 x2,v = .func (.func 249) #[] #[.pointer (some ⟨x1,0,none⟩),.pointer (some ⟨x2,0,none⟩)]∧H'=H∧R'=RowsA (some ⟨x2,0,none⟩) 8 [(List.replicate 8 (Value.bool true))]::RowsA (some ⟨x1,0,none⟩) 1 [[.pointer (some ⟨bd,0,none⟩)]]::R):=by
 refine Zc Tryz.func198 rfl Tryz.ntmps198 rfl ?_
 refine sqt 3 rfl (bx rfl rfl rfl (fun b2=>bx rfl rfl rfl (fun b3=>pur 1 rfl (sqt 2 rfl (sp rfl (PE.makeFunc rfl rfl) rfl (pur 1 rfl (Z5 ?_)))))))
 refine Sy.heap (fun w h=>St.rows (sz:=8) (rows:=[(List.replicate 8 (Value.bool true))]) (rest:=[]) (St.rows (sz:=1) (rows:=[[.pointer (some ⟨bd,0,none⟩)]]) (rest:=[]) ((h.pull b3).pull b2) (by simp)) (by simp)) ?_
 exact rtA rfl rfl rfl ⟨b2,b3,rfl,rfl,rfl⟩ idH
set_option maxHeartbeats 1600000 in
theorem ZeN (y:Yrd) (a1 a2 a3:Option Addr) (k1 k2 k3:Nat) (hy:y.ok) (bd x1 x2 lp:Nat) (I:Nat→Z8→Z4→Prop) (hI:∀ k H R,I k H R→EI y a1 a2 a3 k1 k2 k3 bd x1 x2 H R)
    (hyd:∀ k f H R (X:Z8),y.flows[k]?=some f→I k H R→Yd Tryz.prog lp [.agg (Z0e f).toArray] (X++H) R (fun v H' R'=>v = .bool true∧∃ H1,H'=X++H1∧I (k+1) H1 R')) (H:Z8) (R:Z4) (h0:I 0 H R) :
    Fn Tryz.prog 249 [yv lp,.pointer (some ⟨x1,0,none⟩),.pointer (some ⟨x2,0,none⟩)] H R (fun _ H' R'=>I y.flows.length H' R'):=by
 have hdays:=hy.days
 have hbins:=hy.bins
 have hnm:=hy.nm
 have e0:=hI _ _ _ h0
 haveI:MemRows (some ⟨x1,0,none⟩) 1 [[.pointer (some ⟨bd,0,none⟩)]] R:=⟨e0.f1⟩
 haveI:MemRows (some ⟨x2,0,none⟩) 8 [(List.replicate 8 (Value.bool true))] R:=⟨e0.f2⟩
 haveI:MemRows a1 3 (Zf y.bins) R:=⟨e0.r1⟩
 haveI:MemRows a2 5 (Zn y.moves) R:=⟨e0.r2⟩
 haveI:MemRows a3 4 (Zy y.levels) R:=⟨e0.r3⟩
 refine Zc Tryz.func249 rfl Tryz.ntmps249 rfl ?_
 refine Z0 (sqt 7 rfl (spL rfl rfl (lfB (sz:=1) Zz rfl) rfl (sp rfl (PE.nilCheck rfl) rfl (sp rfl (PE.fA Z1f rfl) rfl (sp rfl (PE.fA Z0o rfl) rfl (spL rfl rfl (lDK e0.dk Z2I rfl) rfl (sp rfl (PE.lenSl Z2R rfl) rfl (pur 1 rfl (Z3 ?_)))))))))
 obtain ⟨_,hb0⟩:=Z41 hy (b:=0) (by omega)
 refine Zi (a:=a1) (sz:=3) (rows:=Zf y.bins) (ZK (Z7Q hb0)) (fun ba1 oa1 he=>?_)
 subst he
 refine Zb (ι:={x:Nat×Z8×Z4 // x.1≤y.bins.length∧I (x.1*(y.days+1)) x.2.1 x.2.2}) (fun x=>⟨[(0,yv lp),(1,.pointer (some ⟨x1,0,none⟩)),(2,.pointer (some ⟨x2,0,none⟩)),(16,.slice (some ⟨ba1,oa1,none⟩) y.bins.length k1),(17,.int .i64 (y.bins.length:Int)),(18,.int .i64 (x.1.1:Int))],x.1.2.1,x.1.2.2⟩) (fun x=>y.bins.length-x.1.1) ⟨(0,H,R),Nat.zero_le _,by rw [Nat.zero_mul];exact h0⟩ ?_ (fun x=>?_)
 exact Ze idH
 obtain ⟨⟨b,H0,Q0⟩,hb,hI0⟩:=x
 dsimp only at hb hI0 ⊢
 have e0b:=hI _ _ _ hI0
 haveI:MemRows (some ⟨x1,0,none⟩) 1 [[.pointer (some ⟨bd,0,none⟩)]] Q0:=⟨e0b.f1⟩
 haveI:MemRows (some ⟨x2,0,none⟩) 8 [(List.replicate 8 (Value.bool true))] Q0:=⟨e0b.f2⟩
 haveI:MemRows (some ⟨ba1,oa1,none⟩) 3 (Zf y.bins) Q0:=⟨e0b.r1⟩
 haveI:MemRows a2 5 (Zn y.moves) Q0:=⟨e0b.r2⟩
 haveI:MemRows a3 4 (Zy y.levels) Q0:=⟨e0b.r3⟩
 refine sqt 1 rfl (pur 1 rfl (Z0 ?_))
 refine Z1 rfl ?_ ?_<;>intro hc0<;>try simp only [cS] at hc0
 obtain ⟨hbo,hbx⟩:=Z41 hy (b:=b) (by omega)
 refine Z2 (Z0 (Z3 (sqt 6 rfl (pur 1 rfl (sp rfl (PE.indexAddr ZhS rfl rfl (by omega) (by omega)) rfl (spL rfl rfl (lfA Zg2 (Z7Q hbx) rfl) rfl (alc rfl Zg1 rfl (fun b5=>pur 1 rfl ?_))))))))
 refine ZB (l':=Z0l (y.binD b)) rfl rfl rfl ZiL rfl rfl rfl rfl (nl rfl) ?_
 refine sqt 7 rfl (spL rfl rfl (lfB (sz:=1) Zz rfl) rfl (sp rfl (PE.nilCheck rfl) rfl (sp rfl (PE.fA Z1f rfl) rfl (sp rfl (PE.fA Z18 rfl) rfl (spL rfl rfl (lDK e0b.dk.t sc3 rfl) rfl (sp rfl (PE.add rfl rfl (by omega)) rfl (pur 1 rfl (Z3 ?_))))))))
 refine Zb (ι:={x:Nat×Z8×Z4 // x.1≤y.days+1∧I (b*(y.days+1)+x.1) x.2.1 x.2.2}) (fun x=>⟨[(0,yv lp),(1,.pointer (some ⟨x1,0,none⟩)),(2,.pointer (some ⟨x2,0,none⟩)),(4,.int .i64 (b:Int)),(5,.pointer (some ⟨b5,0,none⟩)),(16,.slice (some ⟨ba1,oa1,none⟩) y.bins.length k1),(17,.int .i64 (y.bins.length:Int)),(18,.int .i64 (b:Int)),(28,.int .i64 ((y.days:Int)+1)),(29,.int .i64 (x.1.1:Int))],(b5,cel 62 (Z0l (y.binD b)))::x.1.2.1,x.1.2.2⟩) (fun x=>y.days+1-x.1.1) ⟨(0,H0,Q0),Nat.zero_le _,hI0⟩ ?_ (fun x=>?_)
 exact Ze idH
 obtain ⟨⟨t,H1,Q1⟩,ht,hI1⟩:=x
 dsimp only at ht hI1 ⊢
 have e1:=hI _ _ _ hI1
 haveI:MemRows (some ⟨x1,0,none⟩) 1 [[.pointer (some ⟨bd,0,none⟩)]] Q1:=⟨e1.f1⟩
 haveI:MemRows (some ⟨x2,0,none⟩) 8 [(List.replicate 8 (Value.bool true))] Q1:=⟨e1.f2⟩
 haveI:MemRows (some ⟨ba1,oa1,none⟩) 3 (Zf y.bins) Q1:=⟨e1.r1⟩
 haveI:MemRows a2 5 (Zn y.moves) Q1:=⟨e1.r2⟩
 haveI:MemRows a3 4 (Zy y.levels) Q1:=⟨e1.r3⟩
 refine sqt 1 rfl (pur 1 rfl (Z0 ?_))
 refine Z1 rfl ?_ ?_<;>intro hc1<;>try simp only [cS] at hc1
 have hfk:=Z1o (y:=y) (b:=b) (t:=t) (by omega) (by omega)
 obtain ⟨hbf,hbt⟩:=ZeC (y:=y) (b:=b) (t:=t) (x:=y.binD b)
 obtain ⟨hbl,hbh⟩:=ZeD (y:=y) (b:=b) (t:=t) (x:=y.binD b)
 obtain ⟨hhd,hs1,hs2,hs3⟩:=hbo
 refine Z2 (Z0 (Z3 (sqt 2 rfl (pur 2 rfl (Z0 ?_)))))
 refine Z4G (ι:=Nat) (fun b7=>⟨[(0,yv lp),(1,.pointer (some ⟨x1,0,none⟩)),(2,.pointer (some ⟨x2,0,none⟩)),(4,.int .i64 (b:Int)),(5,.pointer (some ⟨b5,0,none⟩)),(16,.slice (some ⟨ba1,oa1,none⟩) y.bins.length k1),(17,.int .i64 (y.bins.length:Int)),(18,.int .i64 (b:Int)),(28,.int .i64 ((y.days:Int)+1)),(6,.int .i64 (t:Int)),(7,.pointer (some ⟨b7,0,none⟩)),(29,.int .i64 (t:Int))],(b7,cel 307 ([.int .i64 (y.cells:Int),.int .i64 (y.cells:Int),.int .i64 (0),.int .i64 ((y.binD b).holds)]))::(b5,cel 62 (Z0l (y.binD b)))::H1,Q1⟩) ?_ ?_
 refine Zd [0,1,0,7,0,16,63,0,255] (.ld 0 (.ld 2 (.tk 4 (.ld 5 (.any (.alt 1 (.any (.alt 3 (.tk 6 (.big 7 (.big 8 .done))) (.alt 7 (.big 3 (.tk 6 (.big 8 .done))) .stop))) (.alt 7 (.big 1 (.big 3 (.tk 6 (.big 8 .done)))) .stop))))))) Zt (by kernel_rfl) ?_
 refine ld rfl rfl (lfB (sz:=1) Zz rfl) rfl (ld rfl rfl (lfB (sz:=1) Zz rfl) rfl (tk rfl (PE.fA Z8f rfl) rfl (ld rfl rfl (lh (v:=.int .i64 (y.binD b).holds) sc3 rfl rfl) rfl ?_)))
 refine ZI ?_ ?_
 refine clV rfl Z3s rfl rfl (Z1Q y (some ⟨ba1,oa1,none⟩) a2 a3 k1 k2 k3 hy bd _ _ (by first | exact e1.dk.t | exact e1.dk.t.t)) ?_
 refine bg (fun w hs=>⟨(lh (v:=.int .i64 (y.binD b).holds) sc3 rfl rfl) w hs,(lfB (sz:=1) Zz rfl) w hs,trivial,trivial⟩) ?_
 refine ZI ?_ ?_
 refine clV rfl Z3s rfl rfl (Z1Q y (some ⟨ba1,oa1,none⟩) a2 a3 k1 k2 k3 hy bd _ _ (by first | exact e1.dk.t | exact e1.dk.t.t)) ?_
 refine bg (fun w hs=>⟨(lh (v:=.int .i64 (y.binD b).holds) sc3 rfl rfl) w hs,trivial,trivial⟩) ?_
 refine tk rfl (PE.build (out:=[_,_,_,_]) Zdd Z3p rfl rfl) rfl (alc rfl Z3p rfl (fun b7=>?_))
 refine bg (fun w hs=>⟨(lh (v:=.int .i64 (y.binD b).holds) sc3 rfl rfl) w hs,trivial⟩) ?_
 refine sto rfl rfl rfl Z7b rfl rfl rfl rfl ?_
 refine bgT ?_
 exact Zu b7 idH
 refine ZI ?_ ?_
 refine alc rfl Z3p rfl (fun b7=>?_)
 refine bg (fun w hs=>⟨(lh (v:=.int .i64 (y.binD b).holds) sc3 rfl rfl) w hs,(lfB (sz:=1) Zz rfl) w hs,trivial⟩) ?_
 refine clV rfl Z3s rfl rfl (Z1Q y (some ⟨ba1,oa1,none⟩) a2 a3 k1 k2 k3 hy bd _ _ (by first | exact e1.dk.t | exact e1.dk.t.t)) ?_
 refine bg (fun w hs=>⟨(lh (v:=.int .i64 (y.binD b).holds) sc3 rfl rfl) w hs,trivial,trivial⟩) ?_
 refine tk rfl (PE.build (out:=[_,_,_,_]) Zdd Z3p rfl rfl) rfl ?_
 refine sto rfl rfl rfl Z7b rfl rfl rfl rfl ?_
 refine bgT ?_
 exact Zu b7 idH
 exact Z0f
 refine ZI ?_ ?_
 refine alc rfl Z3p rfl (fun b7=>?_)
 refine bg (fun w hs=>⟨(lh (v:=.int .i64 (y.binD b).holds) sc3 rfl rfl) w hs,(lfB (sz:=1) Zz rfl) w hs,(lfB (sz:=1) Zz rfl) w hs,trivial⟩) ?_
 refine clV rfl Z3s rfl rfl (Z1Q y (some ⟨ba1,oa1,none⟩) a2 a3 k1 k2 k3 hy bd _ _ (by first | exact e1.dk.t | exact e1.dk.t.t)) ?_
 refine bg (fun w hs=>⟨(lh (v:=.int .i64 (y.binD b).holds) sc3 rfl rfl) w hs,(lfB (sz:=1) Zz rfl) w hs,trivial,trivial⟩) ?_
 refine clV rfl Z3s rfl rfl (Z1Q y (some ⟨ba1,oa1,none⟩) a2 a3 k1 k2 k3 hy bd _ _ (by first | exact e1.dk.t | exact e1.dk.t.t)) ?_
 refine bg (fun w hs=>⟨(lh (v:=.int .i64 (y.binD b).holds) sc3 rfl rfl) w hs,trivial,trivial⟩) ?_
 refine tk rfl (PE.build (out:=[_,_,_,_]) Zdd Z3p rfl rfl) rfl ?_
 refine sto rfl rfl rfl Z7b rfl rfl rfl rfl ?_
 refine bgT ?_
 exact Zu b7 idH
 exact Z0f
 intro b7
 dsimp only
 refine Z0 (sqt 2 rfl (pur 2 rfl ?_))
 refine Z22 (ι:=Unit) (fun _=>⟨[(0,yv lp),(1,.pointer (some ⟨x1,0,none⟩)),(2,.pointer (some ⟨x2,0,none⟩)),(4,.int .i64 (b:Int)),(5,.pointer (some ⟨b5,0,none⟩)),(16,.slice (some ⟨ba1,oa1,none⟩) y.bins.length k1),(17,.int .i64 (y.bins.length:Int)),(18,.int .i64 (b:Int)),(28,.int .i64 ((y.days:Int)+1)),(6,.int .i64 (t:Int)),(7,.pointer (some ⟨b7,0,none⟩)),(29,.int .i64 (t:Int))],(b7,cel 307 ([.int .i64 ((y.base b t (y.binD b)).fr:Int),.int .i64 (y.cells:Int),.int .i64 ((y.base b t (y.binD b)).lo),.int .i64 ((y.base b t (y.binD b)).hi)]))::(b5,cel 62 (Z0l (y.binD b)))::H1,Q1⟩) ?_ ?_
 refine Z1 rfl ?_ ?_<;>intro hc2<;>try simp only [cS] at hc2
 have htt:decide (0<t)=true:=dT (by omega)
 rw [htt,cond_true] at hbf hbl hbh
 refine sqr 7 rfl (spL rfl rfl (lfB (sz:=1) Zz rfl) rfl (pur 2 rfl (sp rfl (PE.sub rfl rfl (by omega)) rfl ?_)))
 refine clV rfl Z81 rfl rfl (Z7V y (some ⟨ba1,oa1,none⟩) a2 a3 k1 k2 k3 hy bd (b:Int) ((t:Int)-1) (by omega) (by omega) _ _ e1.dk.t.t) ?_
 refine sp rfl (PE.fA Z3a rfl) rfl ?_
 refine ZB (l':=[.int .i64 (((y.cell (b:Int) ((t:Int)-1).toNat:Nat):Int):Int),.int .i64 ((y.cells:Int):Int),.int .i64 (0),.int .i64 ((y.binD b).holds)]) rfl rfl rfl cn3 rfl rfl rfl rfl (nl rfl) ?_
 rw [hbf,hbl,hbh]
 exact ZY () idH
 have htt:decide (0<t)=false:=dF (by omega)
 rw [htt,cond_false] at hbf hbl hbh
 refine Zd [0,1,3,7,0,16,0,64,192,448,1008,15,4095,8191,16383] (.tk 0 (.tk 1 (.ld 2 (.tk 3 (.tk 4 (.ld 5 (.tk 6 (.tk 7 (.ld 8 (.tk 11 (.big 9 (.big 10 (.big 12 (.tk 13 (.big 14 .done))))))))))))))) Zt (by kernel_rfl) ?_
 refine tk rfl (PE.fA Z8g rfl) rfl (tk rfl (PE.fA Z6t rfl) rfl (ld rfl rfl (lh (v:=.int .i64 (y.binD b).fst.lo) sc3 rfl rfl) rfl (tk rfl (PE.max rfl rfl) rfl (tk rfl (PE.fA Z8f rfl) rfl (ld rfl rfl (lh (v:=.int .i64 (y.binD b).holds) sc3 rfl rfl) rfl (tk rfl (PE.fA Z8g rfl) rfl (tk rfl (PE.fA Z6u rfl) rfl (ld rfl rfl (lh (v:=.int .i64 (y.binD b).fst.hi) sc3 rfl rfl) rfl (tk rfl (PE.fA Z2z rfl) rfl ?_)))))))))
 refine bsl (out:=[_]) rfl Z0F zl3 rfl rfl rfl rfl rfl rfl (fun b56=>?_)
 refine bg (fun w hs=>⟨trivial,(lh (v:=.int .i64 (y.binD b).holds) sc3 rfl rfl) w hs,(lh (v:=.int .i64 (y.binD b).fst.lo) sc3 rfl rfl) w hs,trivial⟩) ?_
 refine clV rfl Z6d rfl rfl (Z48 _ _ b56 _ _ _) ?_
 refine bg (fun w hs=>⟨trivial,(lh (v:=.int .i64 (y.binD b).fst.lo) sc3 rfl rfl) w hs,trivial⟩) ?_
 refine ZB (l':=[.int .i64 ((y.cells:Int):Int),.int .i64 ((y.cells:Int):Int),.int .i64 (max 0 (y.binD b).fst.lo),.int .i64 ((y.binD b).holds)]) rfl rfl rfl cn3 rfl rfl rfl rfl (nl rfl) ?_
 refine bgT (tk rfl (PE.fA Z3c rfl) rfl ?_)
 refine ZB (l':=[.int .i64 ((y.cells:Int):Int),.int .i64 ((y.cells:Int):Int),.int .i64 (max 0 (y.binD b).fst.lo),.int .i64 (min (y.binD b).holds (y.binD b).fst.hi)]) rfl rfl rfl cn3 rfl rfl rfl rfl (nl rfl) ?_
 refine bgT ?_
 rw [hbf,hbl,hbh]
 exact ZY () (fun w h=>h.del b56)
 rintro ⟨⟩
 dsimp only
 refine Z0 (sqt 7 rfl (pur 1 rfl (spL rfl rfl (lfB (sz:=1) Zz rfl) rfl (sp rfl (PE.nilCheck rfl) rfl (sp rfl (PE.fA Z1f rfl) rfl (sp rfl (PE.fA Z18 rfl) rfl (spL rfl rfl (lDK e1.dk.t.t sc3 rfl) rfl (pur 1 rfl ?_))))))))
 refine Z22 (ι:=Unit) (fun _=>⟨[(0,yv lp),(1,.pointer (some ⟨x1,0,none⟩)),(2,.pointer (some ⟨x2,0,none⟩)),(4,.int .i64 (b:Int)),(5,.pointer (some ⟨b5,0,none⟩)),(16,.slice (some ⟨ba1,oa1,none⟩) y.bins.length k1),(17,.int .i64 (y.bins.length:Int)),(18,.int .i64 (b:Int)),(28,.int .i64 ((y.days:Int)+1)),(6,.int .i64 (t:Int)),(7,.pointer (some ⟨b7,0,none⟩)),(29,.int .i64 (t:Int))],(b7,cel 307 (Z0e (y.base b t (y.binD b))))::(b5,cel 62 (Z0l (y.binD b)))::H1,Q1⟩) ?_ ?_
 refine Z1 rfl ?_ ?_<;>intro hc3<;>try simp only [cS] at hc3
 have hdd:decide (t<y.days)=true:=dT (by omega)
 rw [hdd,cond_true] at hbt
 refine sqr 6 rfl (spL rfl rfl (lfB (sz:=1) Zz rfl) rfl (pur 2 rfl ?_))
 refine clV rfl Z81 rfl rfl (Z7V y (some ⟨ba1,oa1,none⟩) a2 a3 k1 k2 k3 hy bd (b:Int) (t:Int) (by omega) (by omega) _ _ e1.dk.t.t) ?_
 refine sp rfl (PE.fA Z3b rfl) rfl ?_
 refine ZB (l':=[.int .i64 ((y.base b t (y.binD b)).fr:Int),.int .i64 (((y.cell (b:Int) (t:Int).toNat:Nat):Int):Int),.int .i64 ((y.base b t (y.binD b)).lo),.int .i64 ((y.base b t (y.binD b)).hi)]) rfl rfl rfl cn3 rfl rfl rfl rfl (nl rfl) ?_
 unfold Z0e
 rw [hbt]
 exact ZY () idH
 have hdd:decide (t<y.days)=false:=dF (by omega)
 rw [hdd,cond_false] at hbt
 refine Z2 ?_
 unfold Z0e
 rw [hbt]
 exact ZY () idH
 rintro ⟨⟩
 dsimp only
 refine Z0 (sqt 7 rfl (spL rfl rfl (lfB (sz:=1) Zz rfl) rfl (sp rfl (PE.nilCheck rfl) rfl (sp rfl (PE.fA Z1f rfl) rfl (sp rfl (PE.fA Z1T rfl) rfl (spL rfl rfl (lDK e1.dk.t.t Zdi rfl) rfl (sp rfl (PE.lenSl Zb6 rfl) rfl (pur 1 rfl (Z3 ?_)))))))))
 refine Zb (ι:={j:Nat // j≤y.levels.length}) (fun j=>⟨[(0,yv lp),(1,.pointer (some ⟨x1,0,none⟩)),(2,.pointer (some ⟨x2,0,none⟩)),(4,.int .i64 (b:Int)),(5,.pointer (some ⟨b5,0,none⟩)),(16,.slice (some ⟨ba1,oa1,none⟩) y.bins.length k1),(17,.int .i64 (y.bins.length:Int)),(18,.int .i64 (b:Int)),(28,.int .i64 ((y.days:Int)+1)),(6,.int .i64 (t:Int)),(7,.pointer (some ⟨b7,0,none⟩)),(29,.int .i64 (t:Int)),(76,.slice a3 y.levels.length k3),(77,.int .i64 (y.levels.length:Int)),(78,.int .i64 (j.1:Int))],(b7,cel 307 (Z0e ((y.levels.take j.1).foldl (Z0B b t) (y.base b t (y.binD b)))))::(b5,cel 62 (Z0l (y.binD b)))::H1,Q1⟩) (fun j=>y.levels.length-j.1) ⟨0,Nat.zero_le _⟩ ?_ (fun j=>?_)
 exact Ze idH
 obtain ⟨j,hj⟩:=j
 dsimp only at hj ⊢
 refine sqt 1 rfl (pur 1 rfl (Z0 ?_))
 refine Z1 rfl ?_ ?_<;>intro hc4<;>try simp only [cS] at hc4
 obtain ⟨l9,hl9⟩:∃ x,y.levels[j]?=some x:=⟨_,List.getElem?_eq_getElem (by omega)⟩
 have hst:(y.levels.take (j+1)).foldl (Z0B b t) (y.base b t (y.binD b))=Z0B b t ((y.levels.take j).foldl (Z0B b t) (y.base b t (y.binD b))) l9:=by rw [List.take_add_one,hl9,Option.toList_some,List.foldl_append];rfl
 have hnl:=hy.nl
 refine Zi (a:=a3) (sz:=4) (rows:=Zy y.levels) (ZK (Z8q hl9)) (fun ba3 oa3 he=>?_)
 subst he
 refine Z2 (Z0 (Z3 (sqt 6 rfl (pur 1 rfl (sp rfl (PE.indexAddr ZiN rfl rfl (by omega) (by omega)) rfl (spL rfl rfl (lfA Z70 (Z8q hl9) rfl) rfl (alc rfl Z4M rfl (fun b9=>pur 1 rfl ?_))))))))
 refine ZB (l':=Z1r l9) rfl rfl rfl Z95 rfl rfl rfl rfl (nl rfl) ?_
 refine sqt 15 rfl (pur 1 rfl (sp rfl (PE.indexArr Zg9 rfl rfl (by omega) (by omega)) rfl (spL rfl rfl (lfB (sz:=8) (x:=.bool true) sc4 (ZkC (by show 0+((j:Nat):Int).toNat*1<8;omega))) rfl (pur 1 rfl ?_))))
 refine spG rfl rfl rfl rfl (PE.fA Z4h rfl) rfl ?_
 refine Z0U rfl rfl rfl rfl rfl (lh (v:=.int .i64 l9.bin) sc3 rfl rfl) rfl (pur 4 rfl ?_)
 refine Zw 92 rfl ?_ ?_<;>intro g92
 refine spG rfl rfl rfl rfl (PE.fA Z7h rfl) rfl ?_
 refine Z0U rfl rfl rfl rfl rfl (lh (v:=.int .i64 l9.day) sc3 rfl rfl) rfl (pur 3 rfl ?_)
 refine Z1 rfl ?_ ?_<;>intro hc5<;>try simp only [cS] at hc5
 have hlv:Z0B b t ((y.levels.take j).foldl (Z0B b t) (y.base b t (y.binD b))) l9=⟨((y.levels.take j).foldl (Z0B b t) (y.base b t (y.binD b))).fr,((y.levels.take j).foldl (Z0B b t) (y.base b t (y.binD b))).to,max ((y.levels.take j).foldl (Z0B b t) (y.base b t (y.binD b))).lo l9.s.lo,min ((y.levels.take j).foldl (Z0B b t) (y.base b t (y.binD b))).hi l9.s.hi⟩:=by unfold Z0B;rw [g92,dT hc5];rfl
 refine Zd [0,1,0,4,12,31,0,64,0,256,768,1792,4032,255,16383,32767,65535] (.tk 0 (.ld 1 (.tk 2 (.tk 3 (.ld 4 (.tk 5 (.tk 6 (.ld 7 (.tk 8 (.tk 9 (.ld 10 (.tk 13 (.big 11 (.big 12 (.big 14 (.tk 15 (.big 16 .done))))))))))))))))) Zt (by kernel_rfl) ?_
 refine tk rfl (PE.fA Z2z rfl) rfl (ld rfl rfl (lh (v:=.int .i64 ((y.levels.take j).foldl (Z0B b t) (y.base b t (y.binD b))).lo) sc3 rfl rfl) rfl (tk rfl (PE.fA Z4i rfl) rfl (tk rfl (PE.fA Z6t rfl) rfl (ld rfl rfl (lh (v:=.int .i64 l9.s.lo) sc3 rfl rfl) rfl (tk rfl (PE.max rfl rfl) rfl (tk rfl (PE.fA Z3c rfl) rfl (ld rfl rfl (lh (v:=.int .i64 ((y.levels.take j).foldl (Z0B b t) (y.base b t (y.binD b))).hi) sc3 rfl rfl) rfl (tk rfl (PE.fA Z4i rfl) rfl (tk rfl (PE.fA Z6u rfl) rfl (ld rfl rfl (lh (v:=.int .i64 l9.s.hi) sc3 rfl rfl) rfl (tk rfl (PE.fA Z2z rfl) rfl ?_)))))))))))
 refine bsl (out:=[_]) rfl Z0F zl3 rfl rfl rfl rfl rfl rfl (fun b109=>?_)
 refine bg (fun w hs=>⟨trivial,(lh (v:=.int .i64 ((y.levels.take j).foldl (Z0B b t) (y.base b t (y.binD b))).hi) sc3 rfl rfl) w hs,(lh (v:=.int .i64 l9.s.lo) sc3 rfl rfl) w hs,(lh (v:=.int .i64 ((y.levels.take j).foldl (Z0B b t) (y.base b t (y.binD b))).lo) sc3 rfl rfl) w hs,trivial⟩) ?_
 refine clV rfl Z6d rfl rfl (Z48 _ _ b109 _ _ _) ?_
 refine bg (fun w hs=>⟨trivial,(lh (v:=.int .i64 l9.s.lo) sc3 rfl rfl) w hs,(lh (v:=.int .i64 ((y.levels.take j).foldl (Z0B b t) (y.base b t (y.binD b))).lo) sc3 rfl rfl) w hs,trivial⟩) ?_
 refine ZB (l':=[.int .i64 ((((y.levels.take j).foldl (Z0B b t) (y.base b t (y.binD b))).fr:Int):Int),.int .i64 ((((y.levels.take j).foldl (Z0B b t) (y.base b t (y.binD b))).to:Int):Int),.int .i64 (max ((y.levels.take j).foldl (Z0B b t) (y.base b t (y.binD b))).lo l9.s.lo),.int .i64 (((y.levels.take j).foldl (Z0B b t) (y.base b t (y.binD b))).hi)]) rfl rfl rfl cn3 rfl rfl rfl rfl (nl rfl) ?_
 refine bgT (tk rfl (PE.fA Z3c rfl) rfl ?_)
 refine ZB (l':=[.int .i64 ((((y.levels.take j).foldl (Z0B b t) (y.base b t (y.binD b))).fr:Int):Int),.int .i64 ((((y.levels.take j).foldl (Z0B b t) (y.base b t (y.binD b))).to:Int):Int),.int .i64 (max ((y.levels.take j).foldl (Z0B b t) (y.base b t (y.binD b))).lo l9.s.lo),.int .i64 (min ((y.levels.take j).foldl (Z0B b t) (y.base b t (y.binD b))).hi l9.s.hi)]) rfl rfl rfl cn3 rfl rfl rfl rfl (nl rfl) ?_
 refine bgT (sqr 2 rfl (sp rfl (PE.add rfl rfl (by omega)) rfl (pur 1 rfl ?_)))
 exact Z7 ⟨j+1,by omega⟩ (fun w h=>by dsimp only;rw [hst,hlv];exact ((h.del b109).del b9))
 have hlv:Z0B b t ((y.levels.take j).foldl (Z0B b t) (y.base b t (y.binD b))) l9=(y.levels.take j).foldl (Z0B b t) (y.base b t (y.binD b)):=by unfold Z0B;rw [dF hc5,Bool.and_false];rfl
 refine Z2 (sqr 2 rfl (sp rfl (PE.add rfl rfl (by omega)) rfl (pur 1 rfl ?_)))
 exact Z7 ⟨j+1,by omega⟩ (fun w h=>by dsimp only;rw [hst,hlv];exact h.del b9)
 try simp only [cS] at g92
 have hlv:Z0B b t ((y.levels.take j).foldl (Z0B b t) (y.base b t (y.binD b))) l9=(y.levels.take j).foldl (Z0B b t) (y.base b t (y.binD b)):=by unfold Z0B;rw [decide_eq_false g92,Bool.false_and];rfl
 refine pur 5 rfl ?_
 refine ZG rfl ?_
 refine Z2 (sqr 2 rfl (sp rfl (PE.add rfl rfl (by omega)) rfl (pur 1 rfl ?_)))
 exact Z7 ⟨j+1,by omega⟩ (fun w h=>by dsimp only;rw [hst,hlv];exact h.del b9)
 obtain rfl:j=y.levels.length:=by omega
 rw [List.take_length]
 have hyy:Yd Tryz.prog lp [.agg (Z0e (y.keptF b (y.binD b) t)).toArray] ((b7,cel 307 (Z0e (y.keptF b (y.binD b) t)))::(b5,cel 62 (Z0l (y.binD b)))::H1) Q1 _:=hyd _ _ _ _ [(b7,cel 307 (Z0e (y.keptF b (y.binD b) t))),(b5,cel 62 (Z0l (y.binD b)))] hfk hI1
 show Sy _ _ _ ((b7,cel 307 (Z0e (y.keptF b (y.binD b) t)))::(b5,cel 62 (Z0l (y.binD b)))::H1) Q1 _
 refine Z9 (Za (Za (Zh (sqt 4 rfl (pur 1 rfl (spL rfl rfl (lhA (Z0e (y.keptF b (y.binD b) t)) Z5g rfl (rest:=[]) rfl rfl) rfl ?_))))))
 refine clY rfl rfl rfl rfl (hyy) ?_
 rintro _ _ R3 ⟨rfl,H3,rfl,hI3⟩
 refine pur 1 rfl ?_
 refine ZG rfl ?_
 refine Z2 (sqr 2 rfl (sp rfl (PE.add rfl rfl (by omega)) rfl (pur 1 rfl ?_)))
 exact Z7 ⟨(t+1,H3,R3),by dsimp only;omega,hI3⟩ (fun w h=>St.tail h)
 obtain rfl:t=y.days+1:=by omega
 refine Z9 (Za (Za (Zh (sqr 2 rfl (sp rfl (PE.add rfl rfl (by omega)) rfl (pur 1 rfl ?_))))))
 exact Z7 ⟨(b+1,H1,Q1),by dsimp only;omega,by dsimp only;rw [Nat.succ_mul];exact hI1⟩ (fun w h=>St.tail h)
 obtain rfl:b=y.bins.length:=by omega
 refine Z9 (Za (Za (Zh (sqt 7 rfl (spL rfl rfl (lfB (sz:=1) Zz rfl) rfl (sp rfl (PE.nilCheck rfl) rfl (sp rfl (PE.fA Z1f rfl) rfl (sp rfl (PE.fA Z0H rfl) rfl (spL rfl rfl (lDK e0b.dk Z6M rfl) rfl (sp rfl (PE.lenSl Z6z rfl) rfl (pur 1 rfl (Z3 ?_))))))))))))
 refine Zb (ι:={x:Nat×Z8×Z4 // x.1≤y.moves.length∧I (y.bins.length*(y.days+1)+x.1) x.2.1 x.2.2}) (fun x=>⟨[(0,yv lp),(1,.pointer (some ⟨x1,0,none⟩)),(2,.pointer (some ⟨x2,0,none⟩)),(124,.slice a2 y.moves.length k2),(125,.int .i64 (y.moves.length:Int)),(126,.int .i64 (x.1.1:Int))],x.1.2.1,x.1.2.2⟩) (fun x=>y.moves.length-x.1.1) ⟨(0,H0,Q0),Nat.zero_le _,hI0⟩ ?_ (fun x=>?_)
 exact Ze idH
 obtain ⟨⟨j,H2,Q2⟩,hj,hI2⟩:=x
 dsimp only at hj hI2 ⊢
 have e2:=hI _ _ _ hI2
 haveI:MemRows (some ⟨x1,0,none⟩) 1 [[.pointer (some ⟨bd,0,none⟩)]] Q2:=⟨e2.f1⟩
 haveI:MemRows (some ⟨x2,0,none⟩) 8 [(List.replicate 8 (Value.bool true))] Q2:=⟨e2.f2⟩
 haveI:MemRows (some ⟨ba1,oa1,none⟩) 3 (Zf y.bins) Q2:=⟨e2.r1⟩
 haveI:MemRows a2 5 (Zn y.moves) Q2:=⟨e2.r2⟩
 haveI:MemRows a3 4 (Zy y.levels) Q2:=⟨e2.r3⟩
 refine sqt 1 rfl (pur 1 rfl (Z0 ?_))
 refine Z1 rfl ?_ ?_<;>intro hc7<;>try simp only [cS] at hc7
 obtain ⟨m9,hm9⟩:∃ x,y.moves[j]?=some x:=⟨_,List.getElem?_eq_getElem (by omega)⟩
 have hmo:=hy.mov m9 (List.mem_of_getElem? hm9)
 refine Zi (a:=a2) (sz:=5) (rows:=Zn y.moves) (ZK (Z2s hm9)) (fun ba2 oa2 he=>?_)
 subst he
 refine Z2 (Z0 (Z3 (sqt 4 rfl (sp rfl (PE.indexAddr Zfa rfl rfl (by omega) (by omega)) rfl (spL rfl rfl (lfA Z9s (Z2s hm9) rfl) rfl (alc rfl Z7L rfl (fun b11=>?_)))))))
 refine ZB (l':=Z07 m9) rfl rfl rfl ZcH rfl rfl rfl rfl (nl rfl) ?_
 have hyy:Yd Tryz.prog lp [.agg (Z0e (y.movF m9)).toArray] ((b11,cel 83 (Z07 m9))::H2) Q2 _:=hyd _ _ _ _ [(b11,cel 83 (Z07 m9))] (Z6r hm9) hI2
 refine Z0 ?_
 refine Zd [0,0,0,4,0,16,62,0,0,256,0,1024,4094,0,8192,24576,0,65536,196608,524286,1048575,2097151] (.tk 0 (.ld 1 (.tk 2 (.ld 3 (.tk 4 (.ld 5 (.ld 7 (.tk 8 (.ld 9 (.tk 10 (.ld 11 (.tk 13 (.tk 14 (.ld 15 (.tk 16 (.tk 17 (.ld 18 (.big 6 (.big 12 (.tk 19 (.big 20 (.tk 21 .done)))))))))))))))))))))) Zt (by kernel_rfl) ?_
 refine Zm 1 rfl (ld rfl rfl (lfB (sz:=1) Zz rfl) rfl (tk rfl (PE.fA Z0z rfl) rfl (ld rfl rfl (lh (v:=.int .i64 m9.fr) sc3 rfl rfl) rfl (tk rfl (PE.fA Z1U rfl) rfl (ld rfl rfl (lh (v:=.int .i64 m9.day) sc3 rfl rfl) rfl (ld rfl rfl (lfB (sz:=1) Zz rfl) rfl (tk rfl (PE.fA Z1J rfl) rfl (ld rfl rfl (lh (v:=.int .i64 m9.to) sc3 rfl rfl) rfl (tk rfl (PE.fA Z1U rfl) rfl (ld rfl rfl (lh (v:=.int .i64 m9.day) sc3 rfl rfl) rfl (tk rfl (PE.fA Z6v rfl) rfl (tk rfl (PE.fA Z6t rfl) rfl (ld rfl rfl (lh (v:=.int .i64 m9.s.lo) sc3 rfl rfl) rfl (tk rfl (PE.fA Z6v rfl) rfl (tk rfl (PE.fA Z6u rfl) rfl ?_)))))))))))))))
 refine ld rfl rfl (lh (v:=.int .i64 m9.s.hi) sc3 rfl rfl) rfl ?_
 refine clV rfl Z81 rfl rfl (Z7V y (some ⟨ba1,oa1,none⟩) (some ⟨ba2,oa2,none⟩) a3 k1 k2 k3 hy bd m9.fr m9.day (by omega) (by omega) _ _ e2.dk.t) ?_
 refine bg (fun w hs=>⟨(lh (v:=.int .i64 m9.s.hi) sc3 rfl rfl) w hs,(lh (v:=.int .i64 m9.s.lo) sc3 rfl rfl) w hs,(lh (v:=.int .i64 m9.day) sc3 rfl rfl) w hs,(lh (v:=.int .i64 m9.to) sc3 rfl rfl) w hs,(lfB (sz:=1) Zz rfl) w hs,trivial,trivial,trivial,trivial⟩) ?_
 refine clV rfl Z81 rfl rfl (Z7V y (some ⟨ba1,oa1,none⟩) (some ⟨ba2,oa2,none⟩) a3 k1 k2 k3 hy bd m9.to m9.day (by omega) (by omega) _ _ e2.dk.t) ?_
 refine bg (fun w hs=>⟨(lh (v:=.int .i64 m9.s.hi) sc3 rfl rfl) w hs,(lh (v:=.int .i64 m9.s.lo) sc3 rfl rfl) w hs,trivial,trivial,trivial,trivial⟩) ?_
 refine tk rfl (PE.build (out:=[_,_,_,_]) Zdd Z3p rfl rfl) rfl ?_
 refine clY rfl rfl rfl rfl (hyy) ?_
 rintro _ _ R3 ⟨rfl,H3,rfl,hI3⟩
 refine bgT (Zm 1 rfl ?_)
 refine ZG rfl ?_
 refine Z2 (sqr 2 rfl (sp rfl (PE.add rfl rfl (by omega)) rfl (pur 1 rfl ?_)))
 exact Z7 ⟨(j+1,H3,R3),by dsimp only;omega,hI3⟩ (fun w h=>St.tail h)
 obtain rfl:j=y.moves.length:=by omega
 refine Z9 (Za (Za (Zh ?_)))
 exact Z4H (vs:=[]) rfl .nil rfl (by rw [show y.flows.length=y.bins.length*(y.days+1)+y.moves.length from Z1p y];exact hI2) idH
theorem Z37:apT Tryz.prog 23=some (3,1,8):=by kernel_rfl
theorem Zey:apT Tryz.prog 236=some (307,4,32):=by kernel_rfl
theorem Zh3:cal Tryz.prog 198=true:=by kernel_rfl
theorem Zho:cal Tryz.prog 249=true:=by kernel_rfl
theorem ZjA:ZJ Tryz.prog 162=some 1:=by kernel_rfl
theorem Z6g:ZJ Tryz.prog 23=some 1:=by kernel_rfl
theorem Zf3:ZJ Tryz.prog 236=some 1:=by kernel_rfl
theorem ZjM:Z00 Tryz.prog 238=some [(0,4),(4,1),(5,1)]:=by kernel_rfl
theorem Ziu:slE Tryz.prog 236=some (307,4):=by kernel_rfl
theorem Zka:ZD Tryz.prog 162=some ([.pointer none]):=by kernel_rfl
theorem Zkb:ZD Tryz.prog 238=some ([.int .i64 0,.slice none 0 0,.slice none 0 0,.slice none 0 0,.slice none 0 0,.slice none 0 0]):=by kernel_rfl
theorem OSl.ne {e sz:Nat} {rows:List (List Value)} (o:OSl e sz rows) (h:rows≠[]):∃ b cap junk,o.fs = .slice (some ⟨b,0,none⟩) rows.length cap∧o.G=[(b,cel e (rows.flatten++junk))]:=by
 rcases o.is with ⟨h1,_⟩ | ⟨b,cap,junk,h1,h2,_⟩
 · exact absurd h1 h
 · exact ⟨b,cap,junk,h1,h2⟩
def Z0J (F:List Fl):List Int:=F.map (·.lo)
theorem Z8p (F:List Fl):(Z6 (Z0J F)).length=F.length:=by simp [Z6,Z0J]
theorem St.row1 {b e sz:Nat} {row:List Value} {H:Z8} {R:Z4} {w:World} (h:St ((b,cel e row)::H) R w) (hl:row.length=sz):St H (RowsA (some ⟨b,0,none⟩) sz [row]::R) w :=
 St.rows (rows:=[row]) (rest:=[]) (by rw [List.append_nil,List.flatten_cons,List.flatten_nil,List.append_nil];exact h) (by simpa using hl)
theorem ZaH {d:DD} {e e2:Nat} {j:List Value} {H:Z8} {R:Z4} {w:World} (h:St ((d.bd,cel e d.l)::(d.fb,cel e2 ((ZM d.y.flows).flatten++j))::H) R w):St H (RowsA (some ⟨d.fb,0,none⟩) 4 (ZM d.y.flows)::RowsA (some ⟨d.bd,0,none⟩) 6 [d.l]::R) w :=
 St.rows (rest:=j) (St.row1 h rfl) (fun r hr=>by obtain ⟨x,_,rfl⟩:=List.mem_map.1 hr;rfl)
theorem Z39 {F:List Fl} {k:Nat} {f:Fl} (h:F[k]?=some f):F.take k++[f]=F.take (k+1):=by rw [List.take_add_one,h];rfl
set_option maxHeartbeats 1000000 in
theorem Zcx (y:Yrd) (a1 a2 a3:Option Addr) (k1 k2 k3:Nat) (hy:y.ok) (H:Z8) (R:Z4) [hR1:MemRows a1 3 (Zf y.bins) R] [hR2:MemRows a2 5 (Zn y.moves) R] [hR3:MemRows a3 4 (Zy y.levels) R] :
    Fn Tryz.prog 114 [(y.v a1 a2 a3 k1 k2 k3),.agg (List.replicate 8 (Value.bool true)).toArray] H R (fun v H' R'=>∃ d:DD,d.y=y∧v = .pointer (some ⟨d.bd,0,none⟩)∧H'=(d.ba,cel 3 (Zp (Z0J d.y.flows)++d.J))::H∧R'=RowsA (some ⟨d.fb,0,none⟩) 4 (ZM d.y.flows)::RowsA (some ⟨d.bd,0,none⟩) 6 [d.l]::R):=by
 refine Z8e Tryz.func114 rfl Tryz.ntmps114 rfl ?_
 refine sqt 3 rfl (bx rfl rfl rfl (fun b2=>bx rfl rfl rfl (fun b3=>pur 1 rfl (sqt 5 rfl (spL rfl rfl (lhA (ydl y a1 a2 a3 k1 k2 k3) Z4P rfl rfl rfl) rfl (sp rfl (PE.build (out:=[_,_,_,_,_,_]) ZjM Zkb rfl rfl) rfl (bx rfl rfl rfl (fun b9=>alc rfl Zka rfl (fun b5=>?_)))))))))
 refine sto rfl rfl rfl ZjA rfl rfl rfl rfl ?_
 refine Z0 (sqt 3 rfl (spL rfl rfl (lh Zz rfl rfl) rfl (spL rfl rfl (lhA (List.replicate 8 (Value.bool true)) Zer rfl (rest:=[]) rfl rfl) rfl ?_)))
 refine cl rfl Zh3 rfl rfl (Zgn b9 _ _) ?_
 rintro _ _ _ ⟨x1,x2,rfl,rfl,rfl⟩
 refine Z3 ?_
 refine Z3W rfl Zho (fun c0 bl0 bd0 hcp0 hca0 hcb0 hck0=>?_)
 refine ⟨fun st pend T R'=>st = .ready∧pend=none∧∃ (oF:OSl 307 4 (ZM y.flows)) (oA:OSl 3 1 (Z6 (Z0J y.flows))),T=(bd0,.deferred (some []))::(b5,cel 162 [.pointer (some ⟨b9,0,none⟩)])::(b9,cel 238 ((ydl y a1 a2 a3 k1 k2 k3)++[oF.fs,oA.fs]))::(b3,cel 231 (List.replicate 8 (Value.bool true)))::(b2,cel 60 (ydl y a1 a2 a3 k1 k2 k3))::(oF.G++(oA.G++H))∧R'=RowsA (some ⟨x2,0,none⟩) 8 [(List.replicate 8 (Value.bool true))]::RowsA (some ⟨x1,0,none⟩) 1 [[.pointer (some ⟨b9,0,none⟩)]]::R,
   Fn.mono (ZeN y a1 a2 a3 k1 k2 k3 hy b9 x1 x2 bl0 (fun k H' R'=>∃ (oF:OSl 307 4 (ZM (y.flows.take (k)))) (oA:OSl 3 1 (Z6 (Z0J (y.flows.take (k))))),H'=(bl0,lob c0 .ready none)::(bd0,.deferred (some []))::(b5,cel 162 [.pointer (some ⟨b9,0,none⟩)])::(b9,cel 238 ((ydl y a1 a2 a3 k1 k2 k3)++[oF.fs,oA.fs]))::(b3,cel 231 (List.replicate 8 (Value.bool true)))::(b2,cel 60 (ydl y a1 a2 a3 k1 k2 k3))::(oF.G++(oA.G++H))∧R'=RowsA (some ⟨x2,0,none⟩) 8 [(List.replicate 8 (Value.bool true))]::RowsA (some ⟨x1,0,none⟩) 1 [[.pointer (some ⟨b9,0,none⟩)]]::R) (fun k H' R' h9=>?_) (fun k f9 H' R' X hk h9=>?_) _ _ ⟨OSl.nil _ _,OSl.nil _ _,rfl,rfl⟩) (fun v H' R' h9=>?_),?_⟩
 · obtain ⟨oF,oA,rfl,rfl⟩:=h9
   exact ⟨(DKp.held (e:=238) (x:=[oF.fs,oA.fs]):DKp b9 (ydl y a1 a2 a3 k1 k2 k3) _ _),(inferInstance:MemRows (some ⟨x1,0,none⟩) 1 [[.pointer (some ⟨b9,0,none⟩)]] (RowsA (some ⟨x2,0,none⟩) 8 [(List.replicate 8 (Value.bool true))]::RowsA (some ⟨x1,0,none⟩) 1 [[.pointer (some ⟨b9,0,none⟩)]]::R)).mem,(inferInstance:MemRows (some ⟨x2,0,none⟩) 8 [(List.replicate 8 (Value.bool true))] (RowsA (some ⟨x2,0,none⟩) 8 [(List.replicate 8 (Value.bool true))]::RowsA (some ⟨x1,0,none⟩) 1 [[.pointer (some ⟨b9,0,none⟩)]]::R)).mem,(inferInstance:MemRows a1 3 (Zf y.bins) (RowsA (some ⟨x2,0,none⟩) 8 [(List.replicate 8 (Value.bool true))]::RowsA (some ⟨x1,0,none⟩) 1 [[.pointer (some ⟨b9,0,none⟩)]]::R)).mem,(inferInstance:MemRows a2 5 (Zn y.moves) (RowsA (some ⟨x2,0,none⟩) 8 [(List.replicate 8 (Value.bool true))]::RowsA (some ⟨x1,0,none⟩) 1 [[.pointer (some ⟨b9,0,none⟩)]]::R)).mem,(inferInstance:MemRows a3 4 (Zy y.levels) (RowsA (some ⟨x2,0,none⟩) 8 [(List.replicate 8 (Value.bool true))]::RowsA (some ⟨x1,0,none⟩) 1 [[.pointer (some ⟨b9,0,none⟩)]]::R)).mem⟩
 rotate_left
 · obtain ⟨oF,oA,rfl,rfl⟩:=h9
   exact ⟨.ready,none,_,by simp,.refl _,rfl,rfl,oF.cast (by rw [List.take_length]),oA.cast (by rw [List.take_length]),rfl,rfl⟩
 rotate_left
 obtain ⟨oF,oA,rfl,rfl⟩:=h9
 refine Zk9 hcp0 hca0 hcb0 hck0 rfl ?_
 refine sqr 2 rfl (alc rfl Z3p rfl (fun b6=>?_))
 refine ZB (l':=Z0e f9) rfl rfl rfl Z7b rfl rfl rfl rfl (nl rfl) ?_
 refine Z0R ?_
 refine Z3 ?_
 refine Zd [0,0,0,4,12,28,0,64,252,0,512,1536,3584,0,8192,24576,65532,131069,262141,524285,1048575,2097151,4194303] (.ld 0 (.ld 1 (.ld 2 (.tk 3 (.tk 4 (.ld 5 (.ld 6 (.ld 9 (.tk 10 (.tk 11 (.ld 12 (.tk 13 (.ld 14 (.any (.alt 7 (.any (.alt 8 (.big 15 (.big 16 (.tk 17 (.tk 18 (.big 19 (.tk 20 (.tk 21 (.big 22 .done)))))))) (.alt 15 (.big 8 (.big 16 (.tk 17 (.tk 18 (.big 19 (.tk 20 (.tk 21 (.big 22 .done)))))))) .stop))) (.alt 15 (.big 7 (.big 8 (.big 16 (.tk 17 (.tk 18 (.big 19 (.tk 20 (.tk 21 (.big 22 .done))))))))) .stop)))))))))))))))) Zt (by kernel_rfl) ?_
 refine ld rfl rfl (lh Zz rfl rfl) rfl (ld rfl rfl (lh Zz rfl rfl) rfl (ld rfl rfl (lh Zz rfl rfl) rfl (tk rfl (PE.nilCheck rfl) rfl (tk rfl (PE.fA Z1g rfl) rfl (ld rfl rfl (lh (v:=oF.fs) Z3J rfl rfl) rfl (ld rfl rfl (lhA (Z0e f9) Z5g rfl (rest:=[]) rfl rfl) rfl (ld rfl rfl (lh Zz rfl rfl) rfl (tk rfl (PE.nilCheck rfl) rfl (tk rfl (PE.fA Z0A rfl) rfl (ld rfl rfl (lh (v:=oA.fs) Z0x rfl rfl) rfl (tk rfl (PE.fA Z2z rfl) rfl (ld rfl rfl (lh (v:=.int .i64 f9.lo) sc3 rfl rfl) rfl ?_))))))))))))
 refine ZI ?_ ?_
 refine bsl (out:=[_,_,_,_]) rfl Ziu Z3p rfl rfl rfl rfl rfl rfl (fun b21=>?_)
 refine bg (fun w hs=>⟨(lh (v:=.int .i64 f9.lo) sc3 rfl rfl) w hs,(lh (v:=oA.fs) Z0x rfl rfl) w hs,(lh Zz rfl rfl) w hs,trivial,(lh (v:=oF.fs) Z3J rfl rfl) w hs,(lh Zz rfl rfl) w hs,(lh Zz rfl rfl) w hs,(lh Zz rfl rfl) w hs,trivial⟩) ?_
 refine ZI ?_ ?_
 refine apO (oF) rfl Zey rfl rfl (ZU (row:=Z0e f9) rfl) rfl rfl ((by simp only [frl,List.length_take,List.length_cons,List.length_nil];have:=Z04 hy;omega)) rfl (fun o22=>?_)
 refine bg (fun w hs=>⟨(lh (v:=.int .i64 f9.lo) sc3 rfl rfl) w hs,(lh (v:=oA.fs) Z0x rfl rfl) w hs,(lh Zz rfl rfl) w hs,trivial,trivial,(lh Zz rfl rfl) w hs,(lh Zz rfl rfl) w hs,trivial⟩) ?_
 refine bsl (out:=[_]) rfl Z0F zl3 rfl rfl rfl rfl rfl rfl (fun b29=>?_)
 refine bg (fun w hs=>⟨trivial,(lh (v:=oA.fs) Z0x rfl rfl) w hs,(lh Zz rfl rfl) w hs,(lh Zz rfl rfl) w hs,(lh Zz rfl rfl) w hs,trivial⟩) ?_
 refine apO (oA) rfl Z37 rfl rfl (ZU (row:=[.int .i64 f9.lo]) rfl) rfl rfl ((by simp only [irl,Z0J,List.length_map,List.length_take,List.length_cons,List.length_nil];have:=Z04 hy;omega)) rfl (fun o30=>?_)
 refine bg (fun w hs=>⟨trivial,trivial,(lh Zz rfl rfl) w hs,(lh Zz rfl rfl) w hs,trivial⟩) ?_
 refine tk rfl (PE.nilCheck rfl) rfl (tk rfl (PE.fA Z1g rfl) rfl ?_)
 refine ZB (l':=(ydl y a1 a2 a3 k1 k2 k3)++[o22.fs,oA.fs]) rfl rfl rfl Zf3 rfl (by rw [o22.cells.1];first | done | rfl) (by rw [o22.cells.1];simp [o22.cells.2]) (by rw [o22.cells.1];first | done | rfl) (by rw [o22.cells.1];first | done | exact Nat.le_of_ble_eq_true rfl) ?_
 refine bg (fun w hs=>⟨(lh Zz rfl rfl) w hs,trivial,trivial⟩) ?_
 refine tk rfl (PE.nilCheck rfl) rfl (tk rfl (PE.fA Z0A rfl) rfl ?_)
 refine ZB (l':=(ydl y a1 a2 a3 k1 k2 k3)++[o22.fs,o30.fs]) rfl rfl rfl Z6g rfl (by rw [o30.cells.1];first | done | rfl) (by rw [o30.cells.1];simp [o30.cells.2]) (by rw [o30.cells.1];first | done | rfl) (by rw [o30.cells.1];first | done | exact Nat.le_of_ble_eq_true rfl) ?_
 refine bgT ?_
 exact Z0d ⟨rfl,_,rfl,o22.cast (by rw [← Z39 hk];simp [ZM]),o30.cast (by rw [← Z39 hk];simp [Z0J]),rfl,rfl⟩ (fun w h=>((h.del b29).del b21).del b6)
 refine ZI ?_ ?_
 refine bsl (out:=[_]) rfl Z0F zl3 rfl rfl rfl rfl rfl rfl (fun b29=>?_)
 refine bg (fun w hs=>⟨trivial,(lh (v:=oA.fs) Z0x rfl rfl) w hs,(lh Zz rfl rfl) w hs,(lh (v:=oF.fs) Z3J rfl rfl) w hs,(lh Zz rfl rfl) w hs,(lh Zz rfl rfl) w hs,(lh Zz rfl rfl) w hs,trivial⟩) ?_
 refine apO (oF) rfl Zey rfl rfl (ZU (row:=Z0e f9) rfl) rfl rfl ((by simp only [frl,List.length_take,List.length_cons,List.length_nil];have:=Z04 hy;omega)) rfl (fun o22=>?_)
 refine bg (fun w hs=>⟨(lh (v:=oA.fs) Z0x rfl rfl) w hs,(lh Zz rfl rfl) w hs,trivial,trivial,(lh Zz rfl rfl) w hs,(lh Zz rfl rfl) w hs,trivial⟩) ?_
 refine apO (oA) rfl Z37 rfl rfl (ZU (row:=[.int .i64 f9.lo]) rfl) rfl rfl ((by simp only [irl,Z0J,List.length_map,List.length_take,List.length_cons,List.length_nil];have:=Z04 hy;omega)) rfl (fun o30=>?_)
 refine bg (fun w hs=>⟨trivial,trivial,(lh Zz rfl rfl) w hs,(lh Zz rfl rfl) w hs,trivial⟩) ?_
 refine tk rfl (PE.nilCheck rfl) rfl (tk rfl (PE.fA Z1g rfl) rfl ?_)
 refine ZB (l':=(ydl y a1 a2 a3 k1 k2 k3)++[o22.fs,oA.fs]) rfl rfl rfl Zf3 rfl (by rw [o22.cells.1];first | done | rfl) (by rw [o22.cells.1];simp [o22.cells.2]) (by rw [o22.cells.1];first | done | rfl) (by rw [o22.cells.1];first | done | exact Nat.le_of_ble_eq_true rfl) ?_
 refine bg (fun w hs=>⟨(lh Zz rfl rfl) w hs,trivial,trivial⟩) ?_
 refine tk rfl (PE.nilCheck rfl) rfl (tk rfl (PE.fA Z0A rfl) rfl ?_)
 refine ZB (l':=(ydl y a1 a2 a3 k1 k2 k3)++[o22.fs,o30.fs]) rfl rfl rfl Z6g rfl (by rw [o30.cells.1];first | done | rfl) (by rw [o30.cells.1];simp [o30.cells.2]) (by rw [o30.cells.1];first | done | rfl) (by rw [o30.cells.1];first | done | exact Nat.le_of_ble_eq_true rfl) ?_
 refine bgT ?_
 exact Z0d ⟨rfl,_,rfl,o22.cast (by rw [← Z39 hk];simp [ZM]),o30.cast (by rw [← Z39 hk];simp [Z0J]),rfl,rfl⟩ (fun w h=>((h.del b29).del b21).del b6)
 exact Z0f
 refine ZI ?_ ?_
 refine bsl (out:=[_]) rfl Z0F zl3 rfl rfl rfl rfl rfl rfl (fun b29=>?_)
 refine bg (fun w hs=>⟨trivial,(lh (v:=oA.fs) Z0x rfl rfl) w hs,(lh Zz rfl rfl) w hs,(lhA (Z0e f9) Z5g rfl (rest:=[]) rfl rfl) w hs,(lh (v:=oF.fs) Z3J rfl rfl) w hs,(lh Zz rfl rfl) w hs,(lh Zz rfl rfl) w hs,(lh Zz rfl rfl) w hs,trivial⟩) ?_
 refine bsl (out:=[_,_,_,_]) rfl Ziu Z3p rfl rfl rfl rfl rfl rfl (fun b21=>?_)
 refine bg (fun w hs=>⟨(lh (v:=oA.fs) Z0x rfl rfl) w hs,(lh Zz rfl rfl) w hs,trivial,(lh (v:=oF.fs) Z3J rfl rfl) w hs,(lh Zz rfl rfl) w hs,(lh Zz rfl rfl) w hs,(lh Zz rfl rfl) w hs,trivial⟩) ?_
 refine apO (oF) rfl Zey rfl rfl (ZU (row:=Z0e f9) rfl) rfl rfl ((by simp only [frl,List.length_take,List.length_cons,List.length_nil];have:=Z04 hy;omega)) rfl (fun o22=>?_)
 refine bg (fun w hs=>⟨(lh (v:=oA.fs) Z0x rfl rfl) w hs,(lh Zz rfl rfl) w hs,trivial,trivial,(lh Zz rfl rfl) w hs,(lh Zz rfl rfl) w hs,trivial⟩) ?_
 refine apO (oA) rfl Z37 rfl rfl (ZU (row:=[.int .i64 f9.lo]) rfl) rfl rfl ((by simp only [irl,Z0J,List.length_map,List.length_take,List.length_cons,List.length_nil];have:=Z04 hy;omega)) rfl (fun o30=>?_)
 refine bg (fun w hs=>⟨trivial,trivial,(lh Zz rfl rfl) w hs,(lh Zz rfl rfl) w hs,trivial⟩) ?_
 refine tk rfl (PE.nilCheck rfl) rfl (tk rfl (PE.fA Z1g rfl) rfl ?_)
 refine ZB (l':=(ydl y a1 a2 a3 k1 k2 k3)++[o22.fs,oA.fs]) rfl rfl rfl Zf3 rfl (by rw [o22.cells.1];first | done | rfl) (by rw [o22.cells.1];simp [o22.cells.2]) (by rw [o22.cells.1];first | done | rfl) (by rw [o22.cells.1];first | done | exact Nat.le_of_ble_eq_true rfl) ?_
 refine bg (fun w hs=>⟨(lh Zz rfl rfl) w hs,trivial,trivial⟩) ?_
 refine tk rfl (PE.nilCheck rfl) rfl (tk rfl (PE.fA Z0A rfl) rfl ?_)
 refine ZB (l':=(ydl y a1 a2 a3 k1 k2 k3)++[o22.fs,o30.fs]) rfl rfl rfl Z6g rfl (by rw [o30.cells.1];first | done | rfl) (by rw [o30.cells.1];simp [o30.cells.2]) (by rw [o30.cells.1];first | done | rfl) (by rw [o30.cells.1];first | done | exact Nat.le_of_ble_eq_true rfl) ?_
 refine bgT ?_
 exact Z0d ⟨rfl,_,rfl,o22.cast (by rw [← Z39 hk];simp [ZM]),o30.cast (by rw [← Z39 hk];simp [Z0J]),rfl,rfl⟩ (fun w h=>((h.del b29).del b21).del b6)
 exact Z0f
 rintro _ _ _ _ ⟨rfl,rfl,oF,oA,rfl,rfl⟩
 have hfl:=Z04 hy
 obtain ⟨fb,cf,jf,e1,e2⟩:=OSl.ne oF (ne0 (by rw [frl];omega))
 obtain ⟨ba,ca,ja,e3,e4⟩:=OSl.ne oA (ne0 (by rw [Z8p];omega))
 rw [frl] at e1
 rw [Z8p] at e3
 rw [Z2a] at e4
 rw [e1,e2,e3,e4]
 simp only [List.cons_append,List.nil_append]
 refine Zdp ?_
 refine sqt 2 rfl (spL rfl rfl (lh Zz rfl rfl) rfl (pur 1 rfl (Z5 ?_)))
 exact Z0V [bd0] idH rfl (.cons (RV.tmp rfl) .nil) rfl ⟨⟨y,a1,a2,a3,k1,k2,k3,fb,cf,b9,ba,ca,ja⟩,rfl,rfl,rfl,rfl⟩ (fun w h=>ZaH (d:=⟨y,a1,a2,a3,k1,k2,k3,fb,cf,b9,ba,ca,ja⟩) ((((h.del b5).del b3).del b2).ftail.ftail))
theorem Z1M:Z2q Tryz.prog 312=some 2:=by kernel_rfl
theorem Z7c:ZJ Tryz.prog 312=some 2:=by kernel_rfl
theorem Z4S:elN Tryz.prog 309=some 2:=by kernel_rfl
theorem Z4m:Z3G Tryz.prog 309=true:=by kernel_rfl
theorem Z2H:ZD Tryz.prog 312=some ([.int .i64 0,.bool false]):=by kernel_rfl
def Z03 (F:List Fl) (A:List Int) (n:Nat):List Int:=(List.range n).map fun c=>ovr F A c
theorem ZL (F:List Fl) (A:List Int) (n:Nat):(Z03 F A n).length=n:=by simp [Z03]
theorem Z2d {F:List Fl} {A:List Int} {n c:Nat} (h:c<n):na (Z03 F A n) c=ovr F A c:=Z7t (by unfold Z03;rw [List.getElem?_map,List.getElem?_range h];rfl)
theorem Z5K {c:Nat}:∀ {F:List Fl} {A:List Int} {i:Nat} {f:Fl},A.length=F.length→F[i]?=some f→ovr (F.take (i+1)) A c=ovr (F.take i) A c+((bif decide (f.to=c) then na A i else 0)-(bif decide (f.fr=c) then na A i else 0))
 | [],_,i,f,_,h=>by simp at h
 | g::F,[],i,f,hl,_=>by simp at hl
 | g::F,a::A,0,f,hl,h=>by
   simp only [List.getElem?_cons_zero,Option.some.injEq] at h
   subst h
   show ((bif decide (g.to=c) then a else 0)-(bif decide (g.fr=c) then a else 0))+ovr (F.take 0) A c=0+((bif decide (g.to=c) then a else 0)-(bif decide (g.fr=c) then a else 0))
   rw [List.take_zero]
   show _+0=_
   omega
 | g::F,a::A,i+1,f,hl,h=>by
   have ih:=Z5K (c:=c) (F:=F) (A:=A) (i:=i) (f:=f) (by simpa using hl) (by simpa using h)
   show _+ovr (F.take (i+1)) A c=(_+ovr (F.take i) A c)+((bif decide (f.to=c) then na A i else 0)-(bif decide (f.fr=c) then na A i else 0))
   rw [ih];omega
theorem Z6G {F:List Fl} {A:List Int} (hA:AOk F A) {c:Nat}:∀ i:Nat,-(300*(i:Int))≤ovr (F.take i) A c∧ovr (F.take i) A c≤300*(i:Int)
 | 0=>by rw [List.take_zero];exact ⟨by show _≤(0:Int);omega,by show (0:Int)≤_;omega⟩
 | i+1=>by
   have ih:=Z6G hA (c:=c) i
   by_cases h:i<F.length
   · rw [Z5K hA.len (Z3w h)]
     have hb:=hA.bnd i
     cases decide ((fl F i).to=c)<;>cases decide ((fl F i).fr=c)<;>simp only [cond_true,cond_false]<;>omega
   · rw [show F.take (i+1)=F.take i by rw [List.take_of_length_le (by omega),List.take_of_length_le (by omega)]]
     omega
theorem Z0u {V:List Int} {k i:Nat} (hk:k<V.length) (e:i=k):(Zp V)[i]?=some (.int .i64 (na V k)):=by subst e;exact Z2Q (ZR hk)
theorem Zb2 {V:List Int} {J:List Value} {k i:Nat} {x:Int} (hk:k<V.length) (e:i=k):spl (Zp V++J) i [.int .i64 x]=Zp (V.set k x)++J:=by
 subst e
 unfold spl
 have h1:i<(Zp V).length:=by rw [Zj];exact hk
 rw [List.take_append_of_le_length (by omega),List.length_singleton,List.drop_append_of_le_length (by omega),← List.append_assoc]
 congr 1
 refine List.ext_getElem? fun q=>?_
 unfold Zp
 rw [List.getElem?_map,List.getElem?_set,List.append_assoc,List.getElem?_append]
 have hl:(List.take i (V.map (Value.int .i64))).length=i:=by rw [List.length_take,List.length_map];omega
 rw [hl]
 by_cases h:q<i
 · rw [if_pos h,if_neg (by omega),List.getElem?_take,if_pos h,List.getElem?_map]
 · rw [if_neg h]
   by_cases e:i=q
   · subst e;rw [if_pos rfl,if_pos hk,Nat.sub_self];rfl
   · rw [if_neg e,List.getElem?_append_right (by rw [List.length_singleton];omega),List.length_singleton,List.getElem?_drop,List.getElem?_map,show i+1+(q-i-1)=q by omega]
theorem Z7m {V:List Int} {k i:Nat} {x:Int} (hk:k<V.length) (e:i=k):spl (Zp V) i [.int .i64 x]=Zp (V.set k x):=by
 have h:=Zb2 (J:=[]) (x:=x) hk e
 rwa [List.append_nil,List.append_nil] at h
theorem Z9c {F:List Fl} {A:List Int} {n i:Nat} {f:Fl} (hl:A.length=F.length) (hf:F[i]?=some f) (hn:f.fr<n∧f.to<n) (hne:f.fr≠f.to) :
   ((Z03 (F.take i) A n).set f.fr (na (Z03 (F.take i) A n) f.fr-na A i)).set f.to (na ((Z03 (F.take i) A n).set f.fr (na (Z03 (F.take i) A n) f.fr-na A i)) f.to+na A i)=Z03 (F.take (i+1)) A n:=by
 have h1:=ZL (F.take i) A n
 rw [Z12 (by rw [h1];exact hn.1),decide_eq_false hne,cond_false]
 refine List.ext_getElem? fun q=>?_
 by_cases hq:q<n
 · have e1:=ZR (l:=((Z03 (F.take i) A n).set f.fr (na (Z03 (F.take i) A n) f.fr-na A i)).set f.to (na (Z03 (F.take i) A n) f.to+na A i)) (k:=q) (by rw [List.length_set,List.length_set,h1];exact hq)
   have e2:=ZR (l:=Z03 (F.take (i+1)) A n) (k:=q) (by rw [ZL];exact hq)
   rw [e1,e2,Z12 (by rw [List.length_set,h1];exact hn.2),Z12 (by rw [h1];exact hn.1),Z2d hq,Z2d hq,Z2d hn.1,Z2d hn.2,Z5K hl hf]
   by_cases c1:f.to=q
   · subst c1
     rw [decide_eq_true rfl,decide_eq_false hne];simp only [cond_true,cond_false];congr 1;omega
   · by_cases c2:f.fr=q
     · subst c2
       rw [decide_eq_false c1,decide_eq_true rfl];simp only [cond_true,cond_false];congr 1;omega
     · rw [decide_eq_false c1,decide_eq_false c2];simp only [cond_false];congr 1;omega
 · rw [List.getElem?_eq_none (by rw [List.length_set,List.length_set,h1];omega),List.getElem?_eq_none (by rw [ZL];omega)]
theorem Z9d (A:List Int) (n:Nat):Z03 [] A n=List.replicate n 0:=by
 refine List.ext_getElem? fun q=>?_
 unfold Z03
 rw [List.getElem?_map,List.getElem?_replicate]
 by_cases h:q<n
 · rw [List.getElem?_range h,if_pos h];cases A<;>rfl
 · rw [List.getElem?_eq_none (by simp;omega),if_neg h];rfl
theorem Zdn {A:List Int} {l:List Wy} {n:Int} {j:Nat} {w:Wy} (h:l[j]?=some w):snd A (l.take (j+1)) n=(snd A (l.take j) n).set w.i (na (snd A (l.take j) n) w.i+w.s*n):=by
 unfold snd
 rw [List.take_add_one,h,Option.toList_some,List.foldl_append];rfl
theorem ZbC {n:Int} (hn:0≤n∧n≤300):∀ (l:List Wy) (A:List Int) (B:Int),(∀ w∈l,w.i<A.length)→(∀ k,-B≤na A k∧na A k≤B)→∀ k,-(B+300*(l.length:Int))≤na (snd A l n) k∧na (snd A l n) k≤B+300*(l.length:Int)
 | [],A,B,_,h,k=>by have:=h k;show _≤na A k∧na A k≤_;simp only [List.length_nil];omega
 | w::l,A,B,hl,h,k=>by
   have h1:∀ k,-(B+300)≤na (A.set w.i (na A w.i+w.s*n)) k∧na (A.set w.i (na A w.i+w.s*n)) k≤B+300:=fun k=>by
     rw [Z12 (hl w (by simp))]
     have:=h w.i
     have:=h k
     unfold Wy.s
     cases decide (w.i=k)<;>cases w.more<;>simp only [cond_true,cond_false]<;>omega
   have:=ZbC hn l _ (B+300) (fun v hv=>by rw [List.length_set];exact hl v (by simp [hv])) h1 k
   show _≤na (snd (A.set w.i (na A w.i+w.s*n)) l n) k∧na (snd (A.set w.i (na A w.i+w.s*n)) l n) k≤_
   rw [List.length_cons]
   omega
set_option maxHeartbeats 600000 in
theorem Zgs (d:DD) (hy:d.y.ok) (A:List Int) (hA:AOk d.y.flows A) (H:Z8) (R:Z4) [hD:MemRows (some ⟨d.bd,0,none⟩) 6 [d.l] R] [hF:MemRows (some ⟨d.fb,0,none⟩) 4 (ZM d.y.flows) R] [hM:Mem1 d.ba (cel 3 (Zp A++d.J)) H] :
    Fn Tryz.prog 254 [.pointer (some ⟨d.bd,0,none⟩)] H R (fun v H' R'=>∃ bv,v = .slice (some ⟨bv,0,none⟩) (d.y.cells+1) (d.y.cells+1)∧H'=H∧R'=RowsA (some ⟨bv,0,none⟩) 1 (Z6 (Z03 d.y.flows A (d.y.cells+1)))::R):=by
 have hcl:=Z28 hy
 have hfl:=Z04 hy
 refine Zc Tryz.func254 rfl Tryz.ntmps254 rfl ?_
 refine sqt 1 rfl (pur 1 rfl (sqt 5 rfl (pur 1 rfl ?_)))
 refine clV rfl Z3s rfl rfl (Z1Q d.y d.a1 d.a2 d.a3 d.k1 d.k2 d.k3 hy d.bd _ _ (DKp.fact (sz:=6) (row:=d.l) (x:=[_,_]) rfl)) ?_
 refine sp rfl (PE.add rfl rfl (by omega)) rfl ?_
 rw [show ((d.y.cells:Nat):Int)+1=(((d.y.cells+1):Nat):Int) by omega]
 refine mkS (l:=(d.y.cells+1)) (c:=(d.y.cells+1)) rfl Z37 zl3 rfl rfl (Nat.le_refl _) ⟨by omega,by omega⟩ rfl (fun b9=>?_)
 rw [Zik,← Z9d A]
 refine pur 1 rfl (Z0 (sqt 6 rfl (pur 1 rfl (sp rfl (PE.nilCheck rfl) rfl (sp rfl (PE.fA Z1g rfl) rfl (spL rfl rfl (lfB (sz:=6) Z3J rfl) rfl (sp rfl (PE.lenSl Zb4 rfl) rfl (pur 1 rfl (Z3 ?_)))))))))
 refine Zb (ι:={i:Nat // i≤d.y.flows.length}) (fun i=>⟨[(0,.pointer (some ⟨d.bd,0,none⟩)),(3,.slice (some ⟨b9,0,none⟩) (d.y.cells+1) (d.y.cells+1)),(13,.slice (some ⟨d.fb,0,none⟩) d.y.flows.length d.cf),(14,.int .i64 (d.y.flows.length:Int)),(15,.int .i64 (i.1:Int))],(b9,cel 3 (Zp (Z03 (d.y.flows.take i.1) A (d.y.cells+1))))::H,R⟩) (fun i=>d.y.flows.length-i.1) ⟨0,Nat.zero_le _⟩ ?_ (fun i=>?_)
 exact Ze idH
 obtain ⟨i,hi⟩:=i
 dsimp only at hi ⊢
 refine sqt 1 rfl (pur 1 rfl (Z0 ?_))
 refine Z1 rfl ?_ ?_<;>intro hc0<;>try simp only [cS] at hc0
 obtain ⟨f9,hf9⟩:∃ x,d.y.flows[i]?=some x:=⟨_,List.getElem?_eq_getElem (by omega)⟩
 obtain ⟨⟨hn1,hn2⟩,hne⟩:=Z0c hy f9 (List.mem_of_getElem? hf9)
 have hb1:=Z6G hA (c:=f9.fr) i
 have hb2:=Z6G hA (c:=f9.to) i
 have hai:=hA.bnd i
 rw [← Z2d hn1] at hb1
 rw [← Z2d hn2] at hb2
 have hst:=Z9c (n:=(d.y.cells+1)) hA.len hf9 ⟨hn1,hn2⟩ hne
 have hsn:na ((Z03 (d.y.flows.take i) A (d.y.cells+1)).set f9.fr (na (Z03 (d.y.flows.take i) A (d.y.cells+1)) f9.fr-na A i)) f9.to=na (Z03 (d.y.flows.take i) A (d.y.cells+1)) f9.to:=by rw [Z12 (by rw [ZL];omega),dF hne];rfl
 refine Z2 (Z0 (Z3 (sqt 6 rfl (pur 1 rfl (sp rfl (PE.indexAddr Z97 rfl rfl (by omega) (by omega)) rfl (spL rfl rfl (lfA Z5g (Z57 hf9) rfl) rfl (alc rfl Z3p rfl (fun b5=>pur 1 rfl ?_))))))))
 refine ZB (l':=Z0e f9) rfl rfl rfl Z7b rfl rfl rfl rfl (nl rfl) ?_
 refine Z0 ?_
 refine Zd [0,0,2,7,15,0,32,96,224,0,992,2016,4095,8191,16383] (.tk 0 (.tk 1 (.ld 2 (.tk 3 (.ld 4 (tks 5 3 (.ld 8 (.tk 9 (.tk 10 (.ld 11 (.tk 12 (.tk 13 (.big 14 .done))))))))))))) Zt (by kernel_rfl) ?_
 refine Zm 1 rfl (tk rfl (PE.fA Z3a rfl) rfl (ld rfl rfl (lh (v:=.int .i64 (f9.fr:Int)) sc3 rfl rfl) rfl (tk rfl (PE.indexAddr Z0G rfl rfl (by omega) (by omega)) rfl (ld rfl rfl (lh sc3 rfl (Z0u (V:=(Z03 (d.y.flows.take i) A (d.y.cells+1))) (k:=f9.fr) (by simp only [List.length_set,ZL];omega) (by show 0+((f9.fr:Nat):Int).toNat*1=_;omega))) rfl (Zm 1 rfl (tk rfl (PE.nilCheck rfl) rfl (tk rfl (PE.fA Z0A rfl) rfl (ld rfl rfl (lfB (sz:=6) Z0x rfl) rfl (Zm 1 rfl (tk rfl (PE.indexAddr Z0G rfl rfl (by omega) (by omega)) rfl (ld rfl rfl (lh sc3 rfl (Z2P (k:=i) (by rw [hA.len];omega) (by show 0+((i:Nat):Int).toNat*1=_;omega))) rfl (tk rfl (PE.sub rfl rfl (by omega)) rfl (tk rfl (PE.indexAddr Z0G rfl rfl (by omega) (by omega)) rfl ?_)))))))))))))
 refine ZB (l':=Zp ((Z03 (d.y.flows.take i) A (d.y.cells+1)).set f9.fr (na (Z03 (d.y.flows.take i) A (d.y.cells+1)) f9.fr-na A i))) rfl rfl rfl cn3 rfl rfl rfl (Z7m (k:=f9.fr) (by simp only [List.length_set,ZL];omega) (by show 0+((f9.fr:Nat):Int).toNat*1=_;omega)) (by simp only [Zj,List.length_set,ZL];show 0+((f9.fr:Nat):Int).toNat*1+1≤_;omega) ?_
 refine bgT ?_
 refine Zd [0,0,2,7,15,0,32,96,224,0,992,2016,4095,8191,16383] (.tk 0 (.tk 1 (.ld 2 (.tk 3 (.ld 4 (tks 5 3 (.ld 8 (.tk 9 (.tk 10 (.ld 11 (.tk 12 (.tk 13 (.big 14 .done))))))))))))) Zt (by kernel_rfl) ?_
 refine Zm 1 rfl (tk rfl (PE.fA Z3b rfl) rfl (ld rfl rfl (lh (v:=.int .i64 (f9.to:Int)) sc3 rfl rfl) rfl (tk rfl (PE.indexAddr Z0G rfl rfl (by omega) (by omega)) rfl (ld rfl rfl (lh sc3 rfl (Z0u (V:=((Z03 (d.y.flows.take i) A (d.y.cells+1)).set f9.fr (na (Z03 (d.y.flows.take i) A (d.y.cells+1)) f9.fr-na A i))) (k:=f9.to) (by simp only [List.length_set,ZL];omega) (by show 0+((f9.to:Nat):Int).toNat*1=_;omega))) rfl (Zm 1 rfl (tk rfl (PE.nilCheck rfl) rfl (tk rfl (PE.fA Z0A rfl) rfl (ld rfl rfl (lfB (sz:=6) Z0x rfl) rfl (Zm 1 rfl (tk rfl (PE.indexAddr Z0G rfl rfl (by omega) (by omega)) rfl (ld rfl rfl (lh sc3 rfl (Z2P (k:=i) (by rw [hA.len];omega) (by show 0+((i:Nat):Int).toNat*1=_;omega))) rfl (tk rfl (PE.add rfl rfl (by omega)) rfl (tk rfl (PE.indexAddr Z0G rfl rfl (by omega) (by omega)) rfl ?_)))))))))))))
 refine ZB (l':=Zp (((Z03 (d.y.flows.take i) A (d.y.cells+1)).set f9.fr (na (Z03 (d.y.flows.take i) A (d.y.cells+1)) f9.fr-na A i)).set f9.to (na ((Z03 (d.y.flows.take i) A (d.y.cells+1)).set f9.fr (na (Z03 (d.y.flows.take i) A (d.y.cells+1)) f9.fr-na A i)) f9.to+na A i))) rfl rfl rfl cn3 rfl rfl rfl (Z7m (k:=f9.to) (by simp only [List.length_set,ZL];omega) (by show 0+((f9.to:Nat):Int).toNat*1=_;omega)) (by simp only [Zj,List.length_set,ZL];show 0+((f9.to:Nat):Int).toNat*1+1≤_;omega) ?_
 refine bgT (sqr 2 rfl (sp rfl (PE.add rfl rfl (by omega)) rfl (pur 1 rfl ?_)))
 rw [hst]
 exact Z7 ⟨i+1,by omega⟩ (fun w h=>h.del b5)
 obtain rfl:i=d.y.flows.length:=by omega
 rw [List.take_length]
 refine Z9 (Za (Za (Zh (sqt 2 rfl (pur 2 rfl (Z5 ?_))))))
 exact rtA rfl rfl rfl ⟨b9,rfl,rfl,rfl⟩ (fun w h=>St.intRows h)
set_option maxHeartbeats 600000 in
theorem ZdG (d:DD) (hy:d.y.ok) (A:List Int) (hA:A.length=d.y.flows.length) (hb:∀ k,-300≤na A k∧na A k≤300) (l:List Wy) (hl:∀ w∈l,w.i<d.y.flows.length) (hn:l.length≤1000) (n9:Int) (h9:0≤n9∧n9≤300) (pa:Option Addr) (pc:Nat) (H:Z8) (R:Z4) [hD:MemRows (some ⟨d.bd,0,none⟩) 6 [d.l] R] [hF:MemRows (some ⟨d.fb,0,none⟩) 4 (ZM d.y.flows) R] [hP:MemRows pa 2 (Zq l) R] :
    Fn Tryz.prog 203 [.pointer (some ⟨d.bd,0,none⟩),.slice pa l.length pc,.int .i64 n9] ((d.ba,cel 3 (Zp A++d.J))::H) R (fun _ H' R'=>H'=(d.ba,cel 3 (Zp (snd A l n9)++d.J))::H∧R'=R):=by
 have hfl:=Z04 hy
 refine Zc Tryz.func203 rfl Tryz.ntmps203 rfl ?_
 refine sqt 3 rfl (pur 1 rfl (sp rfl (PE.lenSl Z4m rfl) rfl (pur 1 rfl (Z3 ?_))))
 refine Zb (ι:={j:Nat // j≤l.length}) (fun j=>⟨[(0,.pointer (some ⟨d.bd,0,none⟩)),(2,.int .i64 n9),(8,.slice pa l.length pc),(9,.int .i64 (l.length:Int)),(10,.int .i64 (j.1:Int))],(d.ba,cel 3 (Zp (snd A (l.take j.1) n9)++d.J))::H,R⟩) (fun j=>l.length-j.1) ⟨0,Nat.zero_le _⟩ ?_ (fun j=>?_)
 exact Ze idH
 obtain ⟨j,hj⟩:=j
 dsimp only at hj ⊢
 refine sqt 1 rfl (pur 1 rfl (Z0 ?_))
 refine Z1 rfl ?_ ?_<;>intro hc0<;>try simp only [cS] at hc0
 obtain ⟨w9,hw9⟩:∃ x,l[j]?=some x:=⟨_,List.getElem?_eq_getElem (by omega)⟩
 have hwi:=hl w9 (List.mem_of_getElem? hw9)
 have hAj:(snd A (l.take j) n9).length=d.y.flows.length:=by rw [Z7E];exact hA
 have hab:=ZbC h9 (l.take j) A 300 (fun w hw=>by rw [hA];exact hl w (List.mem_of_mem_take hw)) hb w9.i
 rw [List.length_take,Nat.min_eq_left hj] at hab
 have hst:=Zdn (A:=A) (n:=n9) hw9
 refine Zi (a:=pa) (sz:=2) (rows:=Zq l) (ZK (Z1L hw9)) (fun bp op he=>?_)
 subst he
 refine Z2 (Z0 (Z3 (sqt 4 rfl (sp rfl (PE.indexAddr Z4S rfl rfl (by omega) (by omega)) rfl (spL rfl rfl (lfA Z1M (Z1L hw9) rfl) rfl (alc rfl Z2H rfl (fun b7=>?_)))))))
 refine ZB (l':=wyr w9) rfl rfl rfl Z7c rfl rfl rfl rfl (nl rfl) ?_
 refine sqt 2 rfl (sp rfl (PE.fA Z5z rfl) rfl (spL rfl rfl (lh (v:=.bool w9.more) sc4 rfl rfl) rfl ?_))
 refine Z1 rfl ?_ ?_<;>intro hc1
 refine Zd [0,1,3,7,0,16,63,127,0,511,1023,2047] (tks 0 3 (.ld 3 (.tk 4 (.ld 5 (.tk 6 (.ld 7 (tks 8 3 (.big 11 .done)))))))) Zt (by kernel_rfl) ?_
 refine Zm 1 rfl (tk rfl (PE.nilCheck rfl) rfl (tk rfl (PE.fA Z0A rfl) rfl (ld rfl rfl (lfB (sz:=6) Z0x rfl) rfl (tk rfl (PE.fA Z1S rfl) rfl (ld rfl rfl (lh (v:=.int .i64 (w9.i:Int)) sc3 rfl rfl) rfl (tk rfl (PE.indexAddr Z0G rfl rfl (by omega) (by omega)) rfl (ld rfl rfl (lh sc3 rfl (Z2P (k:=w9.i) (by rw [hAj];exact hwi) (by show 0+((w9.i:Nat):Int).toNat*1=_;omega))) rfl (Zm 1 rfl (tk rfl (PE.add rfl rfl (by omega)) rfl (tk rfl (PE.indexAddr Z0G rfl rfl (by omega) (by omega)) rfl ?_))))))))))
 refine ZB (l':=Zp ((snd A (l.take j) n9).set w9.i (na (snd A (l.take j) n9) w9.i+n9))++d.J) rfl rfl rfl cn3 rfl rfl rfl (Zb2 (k:=w9.i) (by rw [hAj];exact hwi) (by show 0+((w9.i:Nat):Int).toNat*1=_;omega)) (by rw [List.length_append,Zj,hAj];show 0+((w9.i:Nat):Int).toNat*1+1≤_;omega) ?_
 refine bgT (sqr 2 rfl (sp rfl (PE.add rfl rfl (by omega)) rfl (pur 1 rfl ?_)))
 rw [show w9.s*n9=n9 by unfold Wy.s;rw [hc1,cond_true,Int.one_mul]] at hst
 exact Z7 ⟨j+1,by omega⟩ (fun w h=>by dsimp only;rw [hst];exact h.del b7)
 refine Zd [0,1,3,7,0,16,63,127,0,511,1023,2047] (tks 0 3 (.ld 3 (.tk 4 (.ld 5 (.tk 6 (.ld 7 (tks 8 3 (.big 11 .done)))))))) Zt (by kernel_rfl) ?_
 refine Zm 1 rfl (tk rfl (PE.nilCheck rfl) rfl (tk rfl (PE.fA Z0A rfl) rfl (ld rfl rfl (lfB (sz:=6) Z0x rfl) rfl (tk rfl (PE.fA Z1S rfl) rfl (ld rfl rfl (lh (v:=.int .i64 (w9.i:Int)) sc3 rfl rfl) rfl (tk rfl (PE.indexAddr Z0G rfl rfl (by omega) (by omega)) rfl (ld rfl rfl (lh sc3 rfl (Z2P (k:=w9.i) (by rw [hAj];exact hwi) (by show 0+((w9.i:Nat):Int).toNat*1=_;omega))) rfl (Zm 1 rfl (tk rfl (PE.sub rfl rfl (by omega)) rfl (tk rfl (PE.indexAddr Z0G rfl rfl (by omega) (by omega)) rfl ?_))))))))))
 refine ZB (l':=Zp ((snd A (l.take j) n9).set w9.i (na (snd A (l.take j) n9) w9.i-n9))++d.J) rfl rfl rfl cn3 rfl rfl rfl (Zb2 (k:=w9.i) (by rw [hAj];exact hwi) (by show 0+((w9.i:Nat):Int).toNat*1=_;omega)) (by rw [List.length_append,Zj,hAj];show 0+((w9.i:Nat):Int).toNat*1+1≤_;omega) ?_
 refine bgT (sqr 2 rfl (sp rfl (PE.add rfl rfl (by omega)) rfl (pur 1 rfl ?_)))
 rw [show w9.s*n9 = -n9 by unfold Wy.s;rw [hc1,cond_false,Int.neg_one_mul]] at hst
 exact Z7 ⟨j+1,by omega⟩ (fun w h=>by dsimp only;rw [hst,← Int.sub_eq_add_neg];exact h.del b7)
 obtain rfl:j=l.length:=by omega
 rw [List.take_length]
 refine Z9 (Za (Za (Zh ?_)))
 exact Z4H (vs:=[]) rfl .nil rfl ⟨rfl,rfl⟩ idH
end Go.Proofs.YtcfdanhklbklkaaGreat.Sk
namespace Go.Proofs.YtcfdanhklbklkaaGreat
set_option linter.unusedSimpArgs false
set_option linter.unusedVariables false
open Go
section pe
variable {P:Program} {L:Zk} {d:Option Tmp} {ty:TypeId} {pos:String} {af:Array Edge} {g:Option (Nat×Bool)}
end pe
section pb
variable {P:Program} {L:Zk} {d:Option Tmp} {ty:TypeId} {pos:String} {af:Array Edge} {g:Option (Nat×Bool)}
end pb
theorem Z1A {P:Program} {H:Z8} {R:Z4} {T KT E s m:Nat} {b:Bool} (l:KV) (k:List Int) {zv v:Value} (hT:Z3g P T=some (KT,E)) (hK:KeyT P b KT s) (hz:∀ w,(zeroValue E).run P w = .ok zv w) (hk:k.length=s) (hl:∀ e∈l,e.1.length=s)
   [mm:Mem1 m (Z0q b l) H] (hv:(l.get k).getD zv=v):∀ w,St H R w→Lkp P T (.map (some m)) (mkv b k) false v w:=fun w hs=>by
 have:=Z1W (R:=R) (m:=m) l k hT hK hz hk hl false w hs
 rw [cond_false,hv] at this
 exact this
theorem Z2T {P:Program} {H:Z8} {R:Z4} {T KT E s m:Nat} {b:Bool} (l:KV) (k:List Int) {zv v:Value} (hT:Z3g P T=some (KT,E)) (hK:KeyT P b KT s) (hz:∀ w,(zeroValue E).run P w = .ok zv w) (hk:k.length=s) (hl:∀ e∈l,e.1.length=s)
   (hm:∀ w,St H R w→w.heap[m]?=some (Z0q b l)) (hv:(l.get k).getD zv=v):∀ w,St H R w→Lkp P T (.map (some m)) (mkv b k) false v w:=fun w hs=>by
 have:=Zbd l k hT hK hz hk hl hm false w hs
 rw [cond_false,hv] at this
 exact this
section ops
variable {P:Program} {r:Option Nat} {ops:Array Oper} {n:Nat} {L:Zk} {D:List Deferred} {H:Z8} {R:Z4} {K:Act→World→Prop}
 {i d:Nat} {ty:TypeId} {pos:String} {af:Array Edge}
end ops
end Go.Proofs.YtcfdanhklbklkaaGreat
namespace Go.Proofs.YtcfdanhklbklkaaGreat.Sk
set_option linter.unusedSimpArgs false
set_option linter.unusedVariables false
open Go
theorem Z72:apT Tryz.prog 309=some (312,2,16):=by kernel_rfl
theorem Z4c:eqB Tryz.prog 10000 3=some (false,1):=by kernel_rfl
theorem Z3y:Z3g Tryz.prog 348=some (3,309):=by kernel_rfl
theorem Z4Q:Z3H Tryz.prog 10000 3=true:=by kernel_rfl
theorem Zif:Z00 Tryz.prog 312=some [(0,1),(1,1)]:=by kernel_rfl
theorem ZbB:slE Tryz.prog 309=some (312,2):=by kernel_rfl
theorem Z9q:zvl Tryz.prog 309=some (.slice none 0 0):=by kernel_rfl
def Z16 (F:List Fl) (A:List Int):Nat→Nat→List Wy
 | 0,_=>[]
 | k+1,c=>(Z16 F A k c++(bif decide ((fl F k).fr=c)&&decide (na A k<(fl F k).hi) then [⟨k,true⟩] else []))++(bif decide ((fl F k).to=c)&&decide ((fl F k).lo<na A k) then [⟨k,false⟩] else [])
theorem Z90 {F:List Fl} {A:List Int} {c:Nat} {w:Wy}:∀ {k:Nat},w∈Z16 F A k c↔w.i<k∧w.fr F=c∧1≤w.res F A
 | 0=>by constructor;(intro h;cases h);(intro h;omega)
 | k+1=>by
   unfold Z16
   rw [List.mem_append,List.mem_append,Z90]
   obtain ⟨i,m⟩:=w
   unfold Wy.fr Wy.res
   dsimp only
   constructor
   · rintro ((⟨h1,h2,h3⟩ | h) | h)
     · exact ⟨by omega,h2,h3⟩
     · cases hb:decide ((fl F k).fr=c)&&decide (na A k<(fl F k).hi) with
       | false=>rw [hb] at h;cases h
       | true =>
         rw [hb,cond_true,List.mem_singleton] at h
         cases h
         simp only [Bool.and_eq_true,decide_eq_true_eq] at hb
         exact ⟨by omega,hb.1,by show 1≤(fl F k).hi-na A k;omega⟩
     · cases hb:decide ((fl F k).to=c)&&decide ((fl F k).lo<na A k) with
       | false=>rw [hb] at h;cases h
       | true =>
         rw [hb,cond_true,List.mem_singleton] at h
         cases h
         simp only [Bool.and_eq_true,decide_eq_true_eq] at hb
         exact ⟨by omega,hb.1,by show 1≤na A k-(fl F k).lo;omega⟩
   · rintro ⟨h1,h2,h3⟩
     by_cases e:i=k
     · subst e
       cases m with
       | true =>
         refine .inl (.inr ?_)
         have h3:1≤(fl F i).hi-na A i:=h3
         have h2:(fl F i).fr=c:=h2
         rw [decide_eq_true h2,decide_eq_true (show na A i<(fl F i).hi by omega)];simp
       | false =>
         refine .inr ?_
         have h3:1≤na A i-(fl F i).lo:=h3
         have h2:(fl F i).to=c:=h2
         rw [decide_eq_true h2,decide_eq_true (show (fl F i).lo<na A i by omega)];simp
     · exact .inl (.inl ⟨by omega,h2,h3⟩)
theorem Z2l (F:List Fl) (A:List Int) (c:Nat):∀ k,(Z16 F A k c).length≤2*k
 | 0=>Nat.le_refl _
 | k+1=>by
   have:=Z2l F A c k
   unfold Z16
   rw [List.length_append,List.length_append]
   cases decide ((fl F k).fr=c)&&decide (na A k<(fl F k).hi)<;>cases decide ((fl F k).to=c)&&decide ((fl F k).lo<na A k)<;>simp only [cond_true,cond_false,List.length_nil,List.length_singleton]<;>omega
structure WB where
 c:Nat
 l:List Wy
 o:OSl 312 2 (Zq l)
def GW:List WB→Z8
 | []=>[]
 | x::ws=>x.o.G++GW ws
def kvW (ws:List WB):KV:=ws.map fun x=>([(x.c:Int)],x.o.fs)
def wlW:List WB→Nat→List Wy
 | [],_=>[]
 | x::ws,c=>bif decide (x.c=c) then x.l else wlW ws c
theorem Z2A (ws:List WB):∀ e∈kvW ws,e.1.length=1:=fun e he=>by obtain ⟨x,_,rfl⟩:=List.mem_map.1 he;rfl
abbrev Zl:Value:=.slice none 0 0
theorem Zef {A B C H:Z8} (h:(A++B).Perm C):(A++(B++H)).Perm (C++H):=by rw [← List.append_assoc];exact List.Perm.append_right H h
theorem ZbV:∀ (ws:List WB) (c:Nat),∃ (o:OSl 312 2 (Zq (wlW ws c))) (rest:Z8),(GW ws).Perm (o.G++rest)∧((kvW ws).get [(c:Int)]).getD Zl=o.fs ∧
   ∀ (l':List Wy) (o':OSl 312 2 (Zq l')),∃ ws',kvW ws'=(kvW ws).put [(c:Int)] o'.fs∧(o'.G++rest).Perm (GW ws')∧∀ c',wlW ws' c'=bif decide (c=c') then l' else wlW ws c'
 | [],c=>⟨OSl.nil _ _,[],.refl _,rfl,fun l' o'=>⟨[⟨c,l',o'⟩],rfl,.refl _,fun c'=>rfl⟩⟩
 | x::ws,c=>by
   by_cases e:x.c=c
   · have h1:wlW (x::ws) c=x.l:=by unfold wlW;rw [decide_eq_true e];rfl
     refine ⟨x.o.cast (by rw [h1]),GW ws,.refl _,?_,fun l' o'=>⟨⟨c,l',o'⟩::ws,?_,.refl _,fun c'=>?_⟩⟩
     · show ((((([(x.c:Int)],x.o.fs)::kvW ws):KV).find? fun e=>decide (e.1=[(c:Int)])).map (·.2)).getD Zl=x.o.fs
       rw [List.find?_cons_of_pos (by simp [e])];rfl
     · show ([(c:Int)],o'.fs)::kvW ws=KV.put (([(x.c:Int)],x.o.fs)::kvW ws) [(c:Int)] o'.fs
       unfold KV.put;rw [e,decide_eq_true rfl];rfl
     · show (bif decide (c=c') then l' else wlW ws c')=bif decide (c=c') then l' else (bif decide (x.c=c') then x.l else wlW ws c')
       rw [e];cases decide (c=c')<;>rfl
   · have h1:wlW (x::ws) c=wlW ws c:=by show (bif decide (x.c=c) then x.l else wlW ws c)=_;rw [decide_eq_false e];rfl
     have e2:¬ [(x.c:Int)]=[(c:Int)]:=fun h=>e (by simp only [List.cons.injEq,and_true] at h;omega)
     obtain ⟨o,rest,hp,hg,hw⟩:=ZbV ws c
     refine ⟨o.cast (by rw [h1]),x.o.G++rest,?_,?_,fun l' o'=>?_⟩
     · exact (List.Perm.append_left _ hp).trans (Zo _ _ _)
     · show ((((([(x.c:Int)],x.o.fs)::kvW ws):KV).find? fun e=>decide (e.1=[(c:Int)])).map (·.2)).getD Zl=o.fs
       rw [List.find?_cons_of_neg (by simpa using e2)];exact hg
     · obtain ⟨ws',h2,h3,h4⟩:=hw l' o'
       refine ⟨x::ws',?_,?_,fun c'=>?_⟩
       · show ([(x.c:Int)],x.o.fs)::kvW ws'=KV.put (([(x.c:Int)],x.o.fs)::kvW ws) [(c:Int)] o'.fs
         rw [h2];conv=>rhs;unfold KV.put
         rw [decide_eq_false e2];rfl
       · exact (Zo _ _ _).trans (List.Perm.append_left _ h3)
       · show (bif decide (x.c=c') then x.l else wlW ws' c')=bif decide (c=c') then l' else (bif decide (x.c=c') then x.l else wlW ws c')
         rw [h4 c']
         by_cases e3:x.c=c'
         · rw [decide_eq_true e3,decide_eq_false (show ¬ c=c' by omega)];rfl
         · rw [decide_eq_false e3];rfl
def ZiS:Value→Option Addr×Nat
 | .slice a _ c=>(a,c)
 | _=>(none,0)
def GWF (ws:List WB):World→Prop:=fun w=>∀ x∈ws,RowsA (ZiS x.o.fs).1 2 (Zq x.l) w
theorem St.gw:∀ {ws:List WB} {H:Z8} {R:Z4} {w:World},St (GW ws++H) R w→St H (GWF ws::R) w
 | [],H,R,w,h=>St.also h (f:=GWF []) (fun w9 _ x hx=>by cases hx)
 | x::ws,H,R,w,h=>by
   obtain ⟨a,c,e,hf⟩:=x.o.freeze
   have h1:=hf (show St (x.o.G++(GW ws++H)) R w by rw [← List.append_assoc];exact h)
   have h2:=St.gw h1
   have h3:=h2.also (f:=GWF (x::ws)) (fun w9 hw y hy=>by
     rcases List.mem_cons.1 hy with rfl | hy
     · rw [e];exact hw _ (by simp [ZiS])
     · exact hw (GWF ws) (by simp) y hy)
   exact h3.facts (fun g hg=>by simp only [List.mem_cons] at hg ⊢;rcases hg with h8 | h8<;>simp [h8])
def Z7O (m:Nat) (kv:KV) (sl:Nat→Option Addr×Nat) (W:Nat→List Wy):World→Prop:=fun w=>w.heap[m]?=some (Z0q false kv)∧∀ c,RowsA (sl c).1 2 (Zq (W c)) w
def Zkh (kv:KV) (sl:Nat→Option Addr×Nat) (W:Nat→List Wy):Prop:=(∀ e∈kv,e.1.length=1)∧∀ c:Nat,(kv.get [(c:Int)]).getD Zl = .slice (sl c).1 (W c).length (sl c).2
def slW (ws:List WB) (c:Nat):Option Addr×Nat:=ZiS (((kvW ws).get [(c:Int)]).getD Zl)
theorem Z4K:∀ (ws:List WB) (c:Nat),(wlW ws c=[]∧((kvW ws).get [(c:Int)]).getD Zl=Zl)∨∃ x∈ws,wlW ws c=x.l∧((kvW ws).get [(c:Int)]).getD Zl=x.o.fs
 | [],c=>.inl ⟨rfl,rfl⟩
 | x::ws,c=>by
   by_cases e:x.c=c
   · refine .inr ⟨x,by simp,by unfold wlW;rw [decide_eq_true e];rfl,?_⟩
     show ((((([(x.c:Int)],x.o.fs)::kvW ws):KV).find? fun e=>decide (e.1=[(c:Int)])).map (·.2)).getD Zl=x.o.fs
     rw [List.find?_cons_of_pos (by simp [e])];rfl
   · have e2:¬ [(x.c:Int)]=[(c:Int)]:=fun h=>e (by simp only [List.cons.injEq,and_true] at h;omega)
     have h1:wlW (x::ws) c=wlW ws c:=by show (bif decide (x.c=c) then x.l else wlW ws c)=_;rw [decide_eq_false e];rfl
     have h2:(kvW (x::ws)).get [(c:Int)]=(kvW ws).get [(c:Int)]:=by
       show ((((([(x.c:Int)],x.o.fs)::kvW ws):KV).find? fun e=>decide (e.1=[(c:Int)])).map (·.2))=_
       rw [List.find?_cons_of_neg (by simpa using e2)];rfl
     rw [h1,h2]
     rcases Z4K ws c with h | ⟨y,hy,h⟩
     · exact .inl h
     · exact .inr ⟨y,by simp [hy],h⟩
theorem ZfW {ws:List WB}:Zkh (kvW ws) (slW ws) (wlW ws):=⟨Z2A ws,fun c=>by
 unfold slW
 rcases Z4K ws c with ⟨h1,h2⟩ | ⟨x,_,h1,h2⟩
 · rw [h1,h2];rfl
 · obtain ⟨a,k,e,_⟩:=x.o.freeze
   rw [h1,h2,e];simp [ZiS]⟩
theorem St.wysF {ws:List WB} {m:Nat} {H:Z8} {R:Z4} {w:World} (h:St ((m,Z0q false (kvW ws))::(GW ws++H)) R w):St H (Z7O m (kvW ws) (slW ws) (wlW ws)::R) w:=by
 have h1:=St.gw (St.freeze h)
 have h2:=h1.also (f:=Z7O m (kvW ws) (slW ws) (wlW ws)) (fun w9 hw=>by
   refine ⟨hw (fun w=>w.heap[m]?=some (Z0q false (kvW ws))) (by simp),fun c=>?_⟩
   unfold slW
   rcases Z4K ws c with ⟨e1,e2⟩ | ⟨x,hx,e1,e2⟩
   · rw [e1];intro i row hi;simp [Zq] at hi
   · rw [e1,e2];exact hw (GWF ws) (by simp) x hx)
 exact h2.facts (fun g hg=>by simp only [List.mem_cons] at hg ⊢;rcases hg with h8 | h8<;>simp [h8])
theorem St.wysAt {m:Nat} {kv:KV} {sl:Nat→Option Addr×Nat} {W:Nat→List Wy} {H:Z8} {R:Z4} {w:World} [q:MemF (Z7O m kv sl W) R] (h:St H R w) (c:Nat):St H (RowsA (sl c).1 2 (Zq (W c))::R) w:=h.also fun _ hw=>(hw _ q.mem).2 c
set_option maxHeartbeats 800000 in
theorem ZdH (d:DD) (hy:d.y.ok) (A:List Int) (hA:AOk d.y.flows A) (H:Z8) (R:Z4) [hD:MemRows (some ⟨d.bd,0,none⟩) 6 [d.l] R] [hF:MemRows (some ⟨d.fb,0,none⟩) 4 (ZM d.y.flows) R] [hM:Mem1 d.ba (cel 3 (Zp A++d.J)) H] :
    Fn Tryz.prog 258 [.pointer (some ⟨d.bd,0,none⟩)] H R (fun v H' R'=>∃ m kv sl,v = .map (some m)∧Zkh kv sl (Z16 d.y.flows A d.y.flows.length)∧H'=H∧R'=Z7O m kv sl (Z16 d.y.flows A d.y.flows.length)::R):=by
 have hfl:=Z04 hy
 refine Zc Tryz.func258 rfl Tryz.ntmps258 rfl ?_
 refine sqt 1 rfl (pur 1 rfl (sqt 2 rfl ?_))
 refine mkm rfl rfl false (fun m6=>?_)
 refine pur 1 rfl (Z0 (sqt 6 rfl (pur 1 rfl (sp rfl (PE.nilCheck rfl) rfl (sp rfl (PE.fA Z1g rfl) rfl (spL rfl rfl (lfB (sz:=6) Z3J rfl) rfl (sp rfl (PE.lenSl Zb4 rfl) rfl (pur 1 rfl (Z3 ?_)))))))))
 refine Zb (ι:={x:Nat×List WB // x.1≤d.y.flows.length∧∀ c,wlW x.2 c=Z16 d.y.flows A x.1 c}) (fun x=>⟨[(0,.pointer (some ⟨d.bd,0,none⟩)),(3,.map (some m6)),(10,.slice (some ⟨d.fb,0,none⟩) d.y.flows.length d.cf),(11,.int .i64 (d.y.flows.length:Int)),(12,.int .i64 (x.1.1:Int))],(m6,Z0q false (kvW x.1.2))::(GW x.1.2++H),R⟩) (fun x=>d.y.flows.length-x.1.1) ⟨(0,[]),Nat.zero_le _,fun c=>rfl⟩ ?_ (fun x=>?_)
 exact Ze idH
 obtain ⟨⟨k,ws⟩,hk,hws⟩:=x
 dsimp only at hk hws ⊢
 refine sqt 1 rfl (pur 1 rfl (Z0 ?_))
 refine Z1 rfl ?_ ?_<;>intro hc0<;>try simp only [cS] at hc0
 obtain ⟨f9,hf9⟩:∃ x,d.y.flows[k]?=some x:=⟨_,List.getElem?_eq_getElem (by omega)⟩
 have hfk:=Z0h hf9
 refine Z2 (Z0 (Z3 (sqt 6 rfl (pur 1 rfl (sp rfl (PE.indexAddr Z97 rfl rfl (by omega) (by omega)) rfl (spL rfl rfl (lfA Z5g (Z57 hf9) rfl) rfl (alc rfl Z3p rfl (fun b5=>pur 1 rfl ?_))))))))
 refine ZB (l':=Z0e f9) rfl rfl rfl Z7b rfl rfl rfl rfl (nl rfl) ?_
 refine Z0 (Z0 ?_)
 refine Zd [0,1,3,7,0,31,63,0,128,511] (tks 0 3 (.ld 3 (.tk 4 (.tk 5 (.ld 6 (.tk 7 (.ld 8 (.tk 9 .done)))))))) Zt (by kernel_rfl) ?_
 refine Zm 1 rfl (tk rfl (PE.nilCheck rfl) rfl (tk rfl (PE.fA Z0A rfl) rfl (ld rfl rfl (lfB (sz:=6) Z0x rfl) rfl (Zm 1 rfl (tk rfl (PE.indexAddr Z0G rfl rfl (by omega) (by omega)) rfl (ld rfl rfl (lh sc3 rfl (Z2P (k:=k) (by rw [hA.len];omega) (by show 0+((k:Nat):Int).toNat*1=_;omega))) rfl (tk rfl (PE.fA Z3c rfl) rfl (ld rfl rfl (lh (v:=.int .i64 f9.hi) sc3 rfl rfl) rfl (Zm 1 rfl ?_)))))))))
 refine Z22 (ι:={ws:List WB // ∀ c,wlW ws c=(Z16 d.y.flows A k c++(bif decide ((fl d.y.flows k).fr=c)&&decide (na A k<(fl d.y.flows k).hi) then [⟨k,true⟩] else []))}) (fun x=>⟨[(0,.pointer (some ⟨d.bd,0,none⟩)),(3,.map (some m6)),(10,.slice (some ⟨d.fb,0,none⟩) d.y.flows.length d.cf),(11,.int .i64 (d.y.flows.length:Int)),(12,.int .i64 (k:Int)),(4,.int .i64 (k:Int)),(5,.pointer (some ⟨b5,0,none⟩))],(b5,cel 307 (Z0e f9))::(m6,Z0q false (kvW x.1))::(GW x.1++H),R⟩) ?_ ?_
 refine Z1 rfl ?_ ?_<;>intro hc1<;>try simp only [cS] at hc1
 obtain ⟨o9,rest,hp9,hg9,hput⟩:=ZbV ws f9.fr
 refine Sy.heap (H':=(b5,cel 307 (Z0e f9))::(m6,Z0q false (kvW ws))::(o9.G++(rest++H))) (fun w h=>h.perm (List.Perm.cons _ (List.Perm.cons _ ((List.Perm.append_right H hp9).trans (by rw [List.append_assoc]))))) ?_
 refine Zd [0,0,2,0,0,16,56,0,128,384,1016,2047] (.tk 0 (.tk 1 (.ld 2 (.tk 3 (.tk 4 (.ld 5 (.ld 6 (.tk 7 (.tk 8 (.big 9 (.big 10 (.big 11 .done)))))))))))) Zt (by kernel_rfl) ?_
 refine Zm 1 rfl (tk rfl (PE.fA Z3a rfl) rfl (ld rfl rfl (lh (v:=.int .i64 (f9.fr:Int)) sc3 rfl rfl) rfl (Zm 1 rfl (tk rfl (PE.fA Z3a rfl) rfl (ld rfl rfl (lh (v:=.int .i64 (f9.fr:Int)) sc3 rfl rfl) rfl ?_)))))
 refine ldK rfl rfl rfl (Z1A (b:=false) (kvW ws) [(f9.fr:Int)] Z3y (KeyT.of Z4c Z4Q) (Z0M Z9q) rfl (Z2A ws) hg9) rfl ?_
 refine Zm 1 rfl (tk rfl (PE.build (out:=[_,_]) Zif Z2H rfl rfl) rfl ?_)
 refine bsl (out:=[_,_]) rfl ZbB Z2H rfl rfl rfl rfl rfl rfl (fun b36=>?_)
 refine bg (fun w hs=>⟨(Z1A (b:=false) (kvW ws) [(f9.fr:Int)] Z3y (KeyT.of Z4c Z4Q) (Z0M Z9q) rfl (Z2A ws) hg9) w hs,(lh (v:=.int .i64 (f9.fr:Int)) sc3 rfl rfl) w hs,(lh (v:=.int .i64 (f9.fr:Int)) sc3 rfl rfl) w hs,trivial⟩) ?_
 refine apO (o9) rfl Z72 rfl rfl (ZU (row:=wyr ⟨k,true⟩) rfl) rfl rfl ((by have:=Z2l d.y.flows A f9.fr k;simp only [Zq,List.length_map,List.length_cons,List.length_nil,hws];first | omega | (split<;>simp only [List.length_append,List.length_cons,List.length_nil]<;>omega))) rfl (fun o37=>?_)
 refine bg (fun w hs=>⟨trivial,trivial,(lh (v:=.int .i64 (f9.fr:Int)) sc3 rfl rfl) w hs,trivial⟩) ?_
 refine mpu (kvW ws) [(f9.fr:Int)] rfl Z3y (KeyT.of Z4c Z4Q) rfl rfl rfl rfl (Z2A ws) ?_
 refine bgT ?_
 obtain ⟨ws',e1,e2,e3⟩:=hput (wlW ws f9.fr++[⟨k,true⟩]) (o37.cast (by simp [Zq,wyr]))
 rw [show (kvW ws).put [(f9.fr:Int)] o37.fs=kvW ws' from e1.symm]
 exact ZbN ⟨ws',fun c=>by
   rw [e3 c,hws,hws,hfk,dT (show na A k<f9.hi from hc1),Bool.and_true]
   by_cases e:f9.fr=c
   · subst e;rw [decide_eq_true rfl];rfl
   · rw [decide_eq_false e];simp⟩ sbA (fun w h=>((h.del b36).perm (List.Perm.cons _ (List.Perm.cons _ (Zef e2)))))
 refine Z2 ?_
 exact ZY ⟨ws,fun c=>by rw [hws,hfk,dF (show ¬ na A k<f9.hi by omega),Bool.and_false];simp⟩ idH
 rintro ⟨ws1,hws1⟩
 dsimp only at hws1 ⊢
 refine Z0 ?_
 refine Zd [0,1,3,7,0,31,63,0,128,511] (tks 0 3 (.ld 3 (.tk 4 (.tk 5 (.ld 6 (.tk 7 (.ld 8 (.tk 9 .done)))))))) Zt (by kernel_rfl) ?_
 refine Zm 1 rfl (tk rfl (PE.nilCheck rfl) rfl (tk rfl (PE.fA Z0A rfl) rfl (ld rfl rfl (lfB (sz:=6) Z0x rfl) rfl (Zm 1 rfl (tk rfl (PE.indexAddr Z0G rfl rfl (by omega) (by omega)) rfl (ld rfl rfl (lh sc3 rfl (Z2P (k:=k) (by rw [hA.len];omega) (by show 0+((k:Nat):Int).toNat*1=_;omega))) rfl (tk rfl (PE.fA Z2z rfl) rfl (ld rfl rfl (lh (v:=.int .i64 f9.lo) sc3 rfl rfl) rfl (Zm 1 rfl ?_)))))))))
 refine Z1 rfl ?_ ?_<;>intro hc2<;>try simp only [cS] at hc2
 obtain ⟨o9,rest,hp9,hg9,hput⟩:=ZbV ws1 f9.to
 refine Sy.heap (H':=(b5,cel 307 (Z0e f9))::(m6,Z0q false (kvW ws1))::(o9.G++(rest++H))) (fun w h=>h.perm (List.Perm.cons _ (List.Perm.cons _ ((List.Perm.append_right H hp9).trans (by rw [List.append_assoc]))))) ?_
 refine Zd [0,0,2,0,0,16,56,0,128,384,1016,2047] (.tk 0 (.tk 1 (.ld 2 (.tk 3 (.tk 4 (.ld 5 (.ld 6 (.tk 7 (.tk 8 (.big 9 (.big 10 (.big 11 .done)))))))))))) Zt (by kernel_rfl) ?_
 refine Zm 1 rfl (tk rfl (PE.fA Z3b rfl) rfl (ld rfl rfl (lh (v:=.int .i64 (f9.to:Int)) sc3 rfl rfl) rfl (Zm 1 rfl (tk rfl (PE.fA Z3b rfl) rfl (ld rfl rfl (lh (v:=.int .i64 (f9.to:Int)) sc3 rfl rfl) rfl ?_)))))
 refine ldK rfl rfl rfl (Z1A (b:=false) (kvW ws1) [(f9.to:Int)] Z3y (KeyT.of Z4c Z4Q) (Z0M Z9q) rfl (Z2A ws1) hg9) rfl ?_
 refine Zm 1 rfl (tk rfl (PE.build (out:=[_,_]) Zif Z2H rfl rfl) rfl ?_)
 refine bsl (out:=[_,_]) rfl ZbB Z2H rfl rfl rfl rfl rfl rfl (fun b57=>?_)
 refine bg (fun w hs=>⟨(Z1A (b:=false) (kvW ws1) [(f9.to:Int)] Z3y (KeyT.of Z4c Z4Q) (Z0M Z9q) rfl (Z2A ws1) hg9) w hs,(lh (v:=.int .i64 (f9.to:Int)) sc3 rfl rfl) w hs,(lh (v:=.int .i64 (f9.to:Int)) sc3 rfl rfl) w hs,trivial⟩) ?_
 refine apO (o9) rfl Z72 rfl rfl (ZU (row:=wyr ⟨k,false⟩) rfl) rfl rfl ((by have:=Z2l d.y.flows A f9.to k;simp only [Zq,List.length_map,List.length_cons,List.length_nil,hws1,List.length_append,Bool.cond_eq_ite];first | omega | (split<;>simp only [List.length_append,List.length_cons,List.length_nil]<;>omega))) rfl (fun o58=>?_)
 refine bg (fun w hs=>⟨trivial,trivial,(lh (v:=.int .i64 (f9.to:Int)) sc3 rfl rfl) w hs,trivial⟩) ?_
 refine mpu (kvW ws1) [(f9.to:Int)] rfl Z3y (KeyT.of Z4c Z4Q) rfl rfl rfl rfl (Z2A ws1) ?_
 refine bgT (sqr 2 rfl (sp rfl (PE.add rfl rfl (by omega)) rfl (pur 1 rfl ?_)))
 obtain ⟨ws',e1,e2,e3⟩:=hput (wlW ws1 f9.to++[⟨k,false⟩]) (o58.cast (by simp [Zq,wyr]))
 rw [show (kvW ws1).put [(f9.to:Int)] o58.fs=kvW ws' from e1.symm]
 exact ZC ⟨(k+1,ws'),by dsimp only;omega,fun c=>by
   rw [e3 c,hws1,hws1]
   show _=_++(bif decide ((fl d.y.flows k).to=c)&&decide ((fl d.y.flows k).lo<na A k) then ([⟨k,false⟩]:List Wy) else [])
   rw [hfk,dT (show f9.lo<na A k by omega),Bool.and_true]
   by_cases e:f9.to=c
   · subst e;rw [decide_eq_true rfl];rfl
   · rw [decide_eq_false e];simp⟩ (by dsimp only;omega) sbA (fun w h=>(((h.del b57).perm (List.Perm.cons _ (List.Perm.cons _ (Zef e2)))).del b5))
 refine Z2 (sqr 2 rfl (sp rfl (PE.add rfl rfl (by omega)) rfl (pur 1 rfl ?_)))
 exact ZC ⟨(k+1,ws1),by dsimp only;omega,fun c=>by
   rw [hws1]
   show _=_++(bif decide ((fl d.y.flows k).to=c)&&decide ((fl d.y.flows k).lo<na A k) then ([⟨k,false⟩]:List Wy) else [])
   rw [hfk,dF (show ¬ f9.lo<na A k by omega),Bool.and_false];simp⟩ (by dsimp only;omega) sbA (fun w h=>h.del b5)
 obtain rfl:k=d.y.flows.length:=by omega
 have hwf:wlW ws=Z16 d.y.flows A d.y.flows.length:=funext hws
 refine Z9 (Za (Za (Zh (sqt 2 rfl (pur 2 rfl (Z5 ?_))))))
 exact rtA rfl rfl rfl ⟨m6,kvW ws,slW ws,rfl,by rw [← hwf];exact ZfW,rfl,rfl⟩ (fun w h=>by rw [← hwf];exact St.wysF h)
theorem Z7Y:cal Tryz.prog 201=true:=by kernel_rfl
theorem ZdW:cal Tryz.prog 258=true:=by kernel_rfl
theorem Z5a:Z3g Tryz.prog 344=some (3,312):=by kernel_rfl
theorem Zc4:zvl Tryz.prog 312=some (.agg #[.int .i64 0,.bool false]):=by kernel_rfl
structure OQ (e sz:Nat) (rows:List (List Value)) where
 b:Nat
 off:Nat
 cap:Nat
 pre:List Value
 junk:List Value
 len:∀ r∈rows,r.length=sz
 pl:pre.length=off
 room:cap*sz≤rows.length*sz+junk.length
 le:rows.length≤cap
 mx:cap≤9223372036854775807
def OQ.fs {e sz:Nat} {rows:List (List Value)} (q:OQ e sz rows):Value:=.slice (some ⟨q.b,q.off,none⟩) rows.length q.cap
def OQ.G {e sz:Nat} {rows:List (List Value)} (q:OQ e sz rows):Z8:=[(q.b,cel e (q.pre++(rows.flatten++q.junk)))]
theorem Z7F {a r j v:List Value} {o:Nat} (e:o=a.length+r.length) (h:v.length≤j.length):spl (a++(r++j)) o v=a++((r++v)++j.drop v.length):=by
 subst e
 unfold spl
 rw [← List.append_assoc a r j,show a.length+r.length=(a++r).length by simp,List.take_left,List.drop_append,List.drop_of_length_le (by omega),List.nil_append]
 simp [List.append_assoc]
theorem Z4v {P:Program} {t ty e sz by_:Nat} (ht:apT P t=some (e,sz,by_)) {rows news:List (List Value)} (q:OQ e sz rows) {T:Z8} {R:Z4} {w:World} (hs:St (q.G++T) R w)
   {ax:Option Addr} {c:Nat} (hr:RowsA ax sz news w) (h0:news≠[]) (h1:Z0E news=true) (hby:(rows.length+news.length)*by_≤140737488355328) (h63:rows.length+news.length≤9223372036854775807) :
   ∃ (q':OQ e sz (rows++news)) (w':World),(Builtin.append_ #[t,t] ty #[q.fs,.slice ax news.length c]).run P w = .ok q'.fs w'∧St (q'.G++T) R w':=by
 unfold apT at ht
 split at ht
 case h_2=>cases ht
 rename_i e' hu
 split at ht
 case h_2=>cases ht
 rename_i i hi
 split at ht
 case h_2=>cases ht
 rename_i z hz
 cases hzs:Nat.beq z.cells.size i.size with
 | false=>rw [hzs] at ht;cases ht
 | true =>
 rw [hzs,cond_true] at ht
 cases ht
 have hzs:=Nat.eq_of_beq_eq_true hzs
 have hnl:=Z5O hr
 obtain ⟨b,off,cap,pre,junk,hl,hpl,hroom0,hle,hmx⟩:=q
 have hlen':∀ r∈rows++news,r.length=i.size:=fun r h=>by rcases List.mem_append.1 h with h | h;exact hl r h;exact hnl r h
 have hnf:=Z0i hnl
 have hrf:=Z0i hl
 obtain ⟨bx,offx,rfl⟩:=Z1Y hr h0
 have hcell:∀ j v,news.flatten[j]?=some v→w.cell? ((⟨bx,offx,none⟩:Addr).add j)=some v:=fun j v h=>by rw [ZW];exact Z2Y hr j v h
 have hn0:0<news.length:=List.length_pos_iff.2 h0
 have hb:=hs.held (b,cel e (pre++(rows.flatten++junk))) (by simp [OQ.G])
 by_cases hroom:rows.length+news.length≤cap
 · have hm2:(rows.length+news.length)*i.size≤cap*i.size:=Nat.mul_le_mul_right _ hroom
   rw [Nat.add_mul] at hm2
   have hjl:news.flatten.length≤junk.length:=by omega
   have hst:=Z5d (P:=P) (e:=e) (od:=off+rows.length*i.size) (vs:=news.flatten) (List.all_eq_true.2 (Z5I h1)) (by simp only [List.length_append,hrf,hpl];omega) hb
   have hfc:=run_firstCells_some (P:=P) w i.size news.length ⟨bx,offx,none⟩ news.length c news.flatten hnf hcell
   have hsp:spl (pre++(rows.flatten++junk)) (off+rows.length*i.size) news.flatten=pre++((rows++news).flatten++junk.drop news.flatten.length):=by
     rw [Z7F (by rw [hpl,hrf]) hjl,List.flatten_append]
   rw [hsp] at hst
   refine ⟨⟨b,off,cap,pre,junk.drop news.flatten.length,hlen',hpl,by rw [List.length_append,List.length_drop,Nat.add_mul];omega,by rw [List.length_append];exact hroom,hmx⟩,{ w with heap:=w.heap.setIfInBounds b (cel e (pre++((rows++news).flatten++junk.drop news.flatten.length))) },?_,St.set hs⟩
   have e0:(⟨b,off,none⟩:Addr).add (rows.length*i.size)=⟨b,off+rows.length*i.size,none⟩:=by rw [ZW]
   simp [OQ.fs,Builtin.append_,run_underlying hu,sizeOf,typeInfo,hi,Builtin.lenOf,hroom,hfc,e0,hst]
 · have holds:∀ j v,rows.flatten[j]?=some v→w.cell? ((⟨b,off,none⟩:Addr).add j)=some v:=fun j v h=>by
     have hlt:j<rows.flatten.length:=(List.getElem?_eq_some_iff.1 h).1
     rw [ZW,Z1x hb]
     simp only [List.getElem?_toArray]
     rw [List.getElem?_append_right (by omega),show off+j-pre.length=j by omega,List.getElem?_append_left hlt];exact h
   have h2:=run_append_grow (P:=P) w t ty e i z hu hi hz ⟨b,off,none⟩ rows.length cap rows.flatten hrf holds ⟨bx,offx,none⟩ news.length c news.flatten hnf hcell (by omega) (by omega) (growslice_fits (by omega) hby)
   have hge:=grownCap_ge w (rows.length+news.length) cap e
   have hcm:grownCap w (rows.length+news.length) cap e≤maxLen:=grownCap_le_maxLen w _ cap e (by simp only [maxLen];omega)
   refine ⟨⟨w.heap.size,0,grownCap w (rows.length+news.length) cap e,[],(Builtin.zeroCells z.cells (grownCap w (rows.length+news.length) cap e-(rows.length+news.length))).toList,hlen',rfl,?_,by rw [List.length_append];exact hge,by simp only [maxLen] at hcm;omega⟩,w.drew.alloc (.cells (rows.flatten.toArray++news.flatten.toArray++Builtin.zeroCells z.cells (grownCap w (rows.length+news.length) cap e-(rows.length+news.length))) e),?_,?_⟩
   · simp only [Array.length_toList,size_zeroCells,hzs,List.length_append,← Nat.add_mul]
     exact Nat.mul_le_mul_right _ (by omega)
   · exact h2.trans (by simp only [OQ.fs,List.length_append])
   · have h3:=(St.tail hs).drew.alloc (.cells (rows.flatten.toArray++news.flatten.toArray++Builtin.zeroCells z.cells (grownCap w (rows.length+news.length) cap e-(rows.length+news.length))) e)
     rw [show w.drew.heap.size=w.heap.size from rfl] at h3
     have e1:(cel e ([]++((rows++news).flatten++(Builtin.zeroCells z.cells (grownCap w (rows.length+news.length) cap e-(rows.length+news.length))).toList))) = .cells (rows.flatten.toArray++news.flatten.toArray++Builtin.zeroCells z.cells (grownCap w (rows.length+news.length) cap e-(rows.length+news.length))) e:=by
       unfold cel;congr 1;apply Array.toList_inj.1;simp
     show St ((_,_)::T) R _
     rw [e1];exact h3
section
variable {P:Program} {r:Option Nat} {ops:Array Oper} {n:Nat} {L:Zk} {D:List Deferred} {H:Z8} {R:Z4} {K:Act→World→Prop}
 {i d:Nat} {ty:TypeId} {pos:String} {af:Array Edge}
theorem apQ {t e sz by_ c k:Nat} {s x:Operand} {rows news:List (List Value)} (q:OQ e sz rows) {ax:Option Addr} {C:Z8→Z8}
   (ho:ops[i]?=some ⟨some d,.call { callee:=.builtin .append,args := #[s,x],argTypes := #[t,t] },ty,pos,af,none⟩) (ht:apT P t=some (e,sz,by_))
   (hs:ev L s=some q.fs) (hx:ev L x=some (.slice ax k c)) (hr:∀ w,St H R w→RowsA ax sz news w) (hk:news.length=k) (h0:news≠[]) (h1:Z0E news=true)
   (hb:(rows.length+news.length)*by_≤140737488355328∧rows.length+news.length≤9223372036854775807) (hd:Nat.blt d n=true)
   [rp:RepF q.G H C]
   (h:∀ q':OQ e sz (rows++news),Sy n ((d,q'.fs)::L) D (C q'.G) R K):Sy n L D H R (stp P r ops i K):=fun a w ha hD hs0=>by
 subst hk
 obtain ⟨T,p1,p2⟩:=rp.rep
 obtain ⟨q',w',h2,h3⟩:=Z4v ht q (hs0.perm p1) (hr w hs0) h0 h1 hb.1 hb.2
 refine ZA ho (Zg _ rfl _) (v:=q'.fs) (w':=w') ?_ (h q' _ _ (ha.put (by simpa using hd) _) hD (h3.perm (p2 _)))
 simp only [execOp,resolve,invoke,builtin,Sem.run_bind,Sem.run_pure,Result.andThen,List.map_toArray,List.map_cons,List.map_nil,ha.reads _ _ hs,ha.reads _ _ hx]
 rw [show (Builtin.append_ #[t,t] ty #[q.fs,.slice ax news.length c]).run P w=_ from h2]
end
def OQ.cast {e sz:Nat} {rows rows':List (List Value)} (q:OQ e sz rows) (h:rows=rows'):OQ e sz rows':=h▸q
@[simp] theorem OQ.cast_fs {e sz : Nat} {rows rows' : List (List Value)} (q : OQ e sz rows) (h : rows = rows') : (q.cast h).fs = q.fs := by subst h; rfl
@[simp] theorem OQ.cast_G {e sz : Nat} {rows rows' : List (List Value)} (q : OQ e sz rows) (h : rows = rows') : (q.cast h).G = q.G := by subst h; rfl
theorem OQ.pop {e sz:Nat} {row:List Value} {rows:List (List Value)} (q:OQ e sz (row::rows)):∃ q':OQ e sz rows,q'.fs = .slice (if q.cap=1 then some ⟨q.b,q.off,none⟩ else some ⟨q.b,q.off+1*sz,none⟩) rows.length (q.cap-1)∧q'.G=q.G:=by
 obtain ⟨b,off,cap,pre,junk,hl,hpl,hroom,hle,hmx⟩:=q
 have hrl:=hl row (by simp)
 rw [List.length_cons] at hroom hle
 rw [Nat.add_mul] at hroom
 by_cases h1:cap=1
 · have hr0:rows=[]:=List.length_eq_zero_iff.1 (by omega)
   subst hr0
   refine ⟨⟨b,off,cap-1,pre,row++junk,by simp,hpl,by rw [h1];simp,by simp,by omega⟩,?_,?_⟩
   · unfold OQ.fs;dsimp only;rw [if_pos h1]
   · unfold OQ.G;simp
 · refine ⟨⟨b,off+1*sz,cap-1,pre++row,junk,fun r hr=>hl r (by simp [hr]),by rw [List.length_append,hpl,hrl];omega,by rw [Nat.sub_mul];omega,by omega,by omega⟩,?_,?_⟩
   · unfold OQ.fs;dsimp only;rw [if_neg h1]
   · unfold OQ.G;simp [List.append_assoc]
theorem OQ.one {e sz:Nat} (b:Nat) {row:List Value} (h:row.length=sz):∃ q:OQ e sz [row],q.fs = .slice (some ⟨b,0,none⟩) 1 1∧q.G=[(b,cel e row)] :=
 ⟨⟨b,0,1,[],[],by simp [h],rfl,by simp,by simp,by decide⟩,rfl,by unfold OQ.G;simp⟩
def Z3I (Q:List Nat):List (List Value):=Q.map fun (c:Nat)=>[.int .i64 (c:Int)]
theorem OQ.get0 {e:Nat} {v:Value} {rows:List (List Value)} (q:OQ e 1 ([v]::rows)) {i:Nat} (h:i=q.off):(q.pre++((([v]::rows):List (List Value)).flatten++q.junk))[i]?=some v:=by
 subst h
 rw [List.getElem?_append_right (by rw [q.pl];exact Nat.le_refl _),q.pl,Nat.sub_self];rfl
def nwy:Wy:=⟨0,false⟩
def byR (F:List Fl) (R:List Wy) (c:Nat):Option Wy:=R.find? fun w=>decide (w.to F=c)
def KB (F:List Fl) (kv:KV) (R:List Wy):Prop:=(∀ e∈kv,e.1.length=1)∧∀ c:Nat,kv.get [(c:Int)]=(byR F R c).map wyv
theorem KB.nil (F:List Fl):KB F [] []:=⟨fun e h=>(by cases h),fun c=>rfl⟩
theorem KB.put {F:List Fl} {kv:KV} {R:List Wy} (h:KB F kv R) (w:Wy):KB F (kv.put [(w.to F:Int)] (wyv w)) (w::R):=by
 refine ⟨fun e he=>?_,fun c=>?_⟩
 · rcases KV.put_mem he with rfl | he
   · rfl
   · exact h.1 e he
 · rw [KV.get_put]
   unfold byR
   rw [List.find?_cons]
   by_cases e:w.to F=c
   · subst e;simp
   · rw [decide_eq_false (show ¬ [(w.to F:Int)]=[(c:Int)] from fun h9=>e (by simp only [List.cons.injEq,and_true] at h9;omega)),decide_eq_false e]
     exact h.2 c
theorem KB.look {F:List Fl} {kv:KV} {R:List Wy} (h:KB F kv R) (c:Nat):(bif true then Value.tuple #[(kv.get [(c:Int)]).getD (.agg #[.int .i64 0,.bool false]),.bool (kv.get [(c:Int)]).isSome] else (kv.get [(c:Int)]).getD (.agg #[.int .i64 0,.bool false])) = .tuple #[wyv ((byR F R c).getD nwy),.bool (byR F R c).isSome]:=by
 rw [cond_true,h.2 c]
 cases byR F R c<;>rfl
theorem KB.val {F:List Fl} {kv:KV} {R:List Wy} (h:KB F kv R) (c:Nat):(kv.get [(c:Int)]).getD (.agg #[.int .i64 0,.bool false])=wyv ((byR F R c).getD nwy):=by
 rw [h.2 c]
 cases byR F R c<;>rfl
theorem Z7S {F:List Fl} {R:List Wy} {c:Nat} {w:Wy} (h:byR F R c=some w):w∈R∧w.to F=c:=⟨List.mem_of_find?_eq_some h,by have:=List.find?_some h;simpa using this⟩
theorem Z7R {F:List Fl} {R:List Wy} {c:Nat} (h:byR F R c=none):∀ w∈R,w.to F≠c:=fun w hw e=>by
 have:=List.find?_eq_none.1 h w hw
 simp [e] at this
theorem byR_dom {F:List Fl} {R:List Wy} {c f:Nat}:c∈dom F f R↔(byR F R c).isSome=true∨c=f:=by
 rw [dom_mem]
 constructor
 · rintro (h | ⟨w,hw,e⟩)
   · exact .inr h
   · cases hb:byR F R c with
     | none=>exact absurd e (Z7R hb w hw)
     | some v=>exact .inl rfl
 · rintro (h | h)
   · obtain ⟨w,hw⟩:=Option.isSome_iff_exists.1 h
     exact .inr ⟨w,Z7S hw⟩
   · exact .inl h
def MpF (m:Nat) (kv:KV):World→Prop:=fun w=>w.heap[m]?=some (Z0q false kv)
structure RI (n:Nat) (F:List Fl) (A:List Int) (f:Nat) (R:List Wy) (Q:List Nat):Prop where
 tr:Tr n F A f R
 q:∀ c∈Q,c∈dom F f R
 cl:∀ v:Wy,v.ok n F A→v.fr F∈dom F f R→v.fr F∉Q→v.to F∈dom F f R
structure RJ (n:Nat) (F:List Fl) (A:List Int) (f:Nat) (R:List Wy) (Q:List Nat) (at_:Nat) (l:List Wy):Prop where
 tr:Tr n F A f R
 q:∀ c∈Q,c∈dom F f R
 a:at_∈dom F f R
 cl:∀ v:Wy,v.ok n F A→v.fr F∈dom F f R→v.fr F∉Q→(v.fr F≠at_∨v∈l)→v.to F∈dom F f R
theorem RI.start {n:Nat} {F:List Fl} {A:List Int} {f:Nat}:RI n F A f [] [f]:=⟨trivial,fun c hc=>dom_mem.2 (.inl (List.mem_singleton.1 hc)),fun v _ h1 h2=>by
 rcases dom_mem.1 h1 with h | ⟨w,hw,_⟩
 · exact absurd (by rw [h];simp) h2
 · cases hw⟩
theorem RI.pop {n:Nat} {F:List Fl} {A:List Int} {f c:Nat} {R:List Wy} {Q:List Nat} (h:RI n F A f R (c::Q)):RJ n F A f R Q c []:=⟨h.tr,fun x hx=>h.q x (by simp [hx]),h.q c (by simp),fun v h1 h2 h3 h4=>by
 rcases h4 with h4 | h4
 · exact h.cl v h1 h2 (fun h9=>by rcases List.mem_cons.1 h9 with h9 | h9;exact h4 h9;exact h3 h9)
 · cases h4⟩
theorem RJ.skip {n:Nat} {F:List Fl} {A:List Int} {f c:Nat} {R:List Wy} {Q:List Nat} {l:List Wy} (h:RJ n F A f R Q c l) {w:Wy} (hw:w.to F∈dom F f R):RJ n F A f R Q c (l++[w]):=⟨h.tr,h.q,h.a,fun v h1 h2 h3 h4=>by
 rcases h4 with h4 | h4
 · exact h.cl v h1 h2 h3 (.inl h4)
 · rcases List.mem_append.1 h4 with h4 | h4
   · exact h.cl v h1 h2 h3 (.inr h4)
   · rw [List.mem_singleton.1 h4];exact hw⟩
theorem RJ.more {n:Nat} {F:List Fl} {A:List Int} {f c:Nat} {R:List Wy} {Q:List Nat} {l:List Wy} (h:RJ n F A f R Q c l) {w:Wy} (hk:w.ok n F A) (hf:w.fr F=c) (hw:w.to F∉dom F f R):RJ n F A f (w::R) (Q++[w.to F]) c (l++[w]):=⟨⟨hk,hw,by rw [hf];exact h.a,h.tr⟩,fun x hx=>by
 rcases List.mem_append.1 hx with hx | hx
 · exact dom_cons.2 (.inr (h.q x hx))
 · exact dom_cons.2 (.inl (List.mem_singleton.1 hx)),dom_cons.2 (.inr h.a),fun v h1 h2 h3 h4=>by
 have hne:v.fr F≠w.to F:=fun e=>h3 (by rw [e];simp)
 have hd:v.fr F∈dom F f R:=by
   rcases dom_cons.1 h2 with h5 | h5
   · exact absurd h5 hne
   · exact h5
 have hq:v.fr F∉Q:=fun h9=>h3 (by simp [h9])
 rcases h4 with h4 | h4
 · exact dom_cons.2 (.inr (h.cl v h1 hd hq (.inl h4)))
 · rcases List.mem_append.1 h4 with h4 | h4
   · exact dom_cons.2 (.inr (h.cl v h1 hd hq (.inr h4)))
   · exact dom_cons.2 (.inl (by rw [List.mem_singleton.1 h4]))⟩
theorem RJ.done {n:Nat} {F:List Fl} {A:List Int} {f c:Nat} {R:List Wy} {Q:List Nat} {l:List Wy} (h:RJ n F A f R Q c l) (hl:∀ v:Wy,v.ok n F A→v.fr F=c→v∈l):RI n F A f R Q:=⟨h.tr,h.q,fun v h1 h2 h3=>by
 by_cases e:v.fr F=c
 · exact h.cl v h1 h2 h3 (.inr (hl v h1 e))
 · exact h.cl v h1 h2 h3 (.inl e)⟩
theorem ZaI {n:Nat} {F:List Fl} {A:List Int} {f:Nat}:∀ {R:List Wy},Tr n F A f R→(dom F f R).Nodup
 | [],_=>by unfold dom;simp
 | w::R,⟨_,h2,_,h4⟩=>List.nodup_cons.2 ⟨h2,ZaI h4⟩
theorem Ze4 {n:Nat} {F:List Fl} {A:List Int} {f:Nat} (hf:f<n) {R:List Wy} (h:Tr n F A f R):∀ c∈dom F f R,c<n:=fun c hc=>by
 rcases dom_mem.1 hc with rfl | ⟨w,hw,rfl⟩
 · exact hf
 · exact (Tr.ok h w hw).1.2.2.2
theorem ZbP {n:Nat} {F:List Fl} {A:List Int} {f:Nat} (hf:f<n) {R:List Wy} (h:Tr n F A f R):R.length+1≤n:=by
 have h1:=Z2V (m:=List.range n) (ZaI h) (fun c hc=>List.mem_range.2 (Ze4 hf h c hc))
 rw [List.length_range] at h1
 unfold dom at h1
 simpa using h1
theorem Z4L {n:Nat} {F:List Fl} {A:List Int} (hF:∀ f∈F,f.fr<n∧f.to<n) {c:Nat} {w:Wy}:w∈Z16 F A F.length c↔w.ok n F A∧w.fr F=c:=by
 rw [Z90]
 constructor
 · rintro ⟨h1,h2,h3⟩
   have:=hF _ (List.mem_of_getElem? (Z3w h1))
   refine ⟨⟨h1,h3,?_,?_⟩,h2⟩
   · unfold Wy.fr;cases w.more<;>simp only [cond_true,cond_false]<;>omega
   · unfold Wy.to;cases w.more<;>simp only [cond_true,cond_false]<;>omega
 · rintro ⟨⟨h1,h3,_,_⟩,h2⟩
   exact ⟨h1,h2,h3⟩
set_option maxHeartbeats 800000 in
theorem Z49 (d:DD) (hy:d.y.ok) (A:List Int) (hA:AOk d.y.flows A) (f:Nat) (hf:f<(d.y.cells+1)) (H:Z8) (R:Z4) [hD:MemRows (some ⟨d.bd,0,none⟩) 6 [d.l] R] [hF:MemRows (some ⟨d.fb,0,none⟩) 4 (ZM d.y.flows) R] [hM:Mem1 d.ba (cel 3 (Zp A++d.J)) H] :
    Fn Tryz.prog 256 [.pointer (some ⟨d.bd,0,none⟩),.int .i64 (f:Int)] H R (fun v H' R'=>∃ m kv Rl,v = .map (some m)∧RI (d.y.cells+1) d.y.flows A f Rl []∧KB d.y.flows kv Rl∧H'=H∧R'=MpF m kv::R):=by
 have hfl:=Z04 hy
 have hcl:=Z28 hy
 refine Zc Tryz.func256 rfl Tryz.ntmps256 rfl ?_
 refine sqt 1 rfl (pur 1 rfl (sqt 2 rfl ?_))
 refine mkm rfl rfl false (fun m5=>?_)
 refine pur 1 rfl (sqt 3 rfl (pur 1 rfl ?_))
 refine cl rfl ZdW rfl rfl (ZdH d hy A hA _ _) ?_
 rintro _ _ _ ⟨m6,kv6,sl6,rfl,hwk,rfl,rfl⟩
 refine pur 1 rfl (sqt 3 rfl (pur 1 rfl ?_))
 refine bsl (out:=[_]) rfl Z0F zl3 rfl rfl rfl rfl rfl rfl (fun b19=>?_)
 refine pur 1 rfl (Z0 (Z3 ?_))
 obtain ⟨q0,hq0,hqG⟩:=OQ.one (e:=3) (sz:=1) b19 (row:=[.int .i64 (f:Int)]) rfl
 obtain ⟨q1,hq1,hqG1⟩:∃ q1:OQ 3 1 (Z3I [f]),q1.fs = .slice (some ⟨b19,0,none⟩) 1 1∧q1.G=[(b19,cel 3 [.int .i64 (f:Int)])]:=⟨q0,hq0,hqG⟩
 rw [← hq1]
 refine Sy.heap (H':=(m5,Z0q false [])::(q1.G++H)) (R':=Z7O m6 kv6 sl6 (Z16 d.y.flows A d.y.flows.length)::R) (fun w h=>by rw [hqG1];exact h.pull m5) ?_
 refine Zb (ι:=(x:{x:List Wy×List Nat×KV // RI (d.y.cells+1) d.y.flows A f x.1 x.2.1∧KB d.y.flows x.2.2 x.1∧2*((d.y.cells+1)-x.1.length)+x.2.1.length≤50})×OQ 3 1 (Z3I x.1.2.1)) (fun x=>⟨[(0,.pointer (some ⟨d.bd,0,none⟩)),(1,.int .i64 (f:Int)),(5,.map (some m5)),(6,.map (some m6)),(7,x.2.fs)],(m5,Z0q false x.1.1.2.2)::(x.2.G++H),Z7O m6 kv6 sl6 (Z16 d.y.flows A d.y.flows.length)::R⟩) (fun x=>2*((d.y.cells+1)-x.1.1.1.length)+x.1.1.2.1.length) ⟨⟨([],[f],[]),RI.start,KB.nil _,by simp only [List.length_nil,List.length_singleton];omega⟩,q1⟩ ?_ (fun x=>?_)
 exact Ze idH
 obtain ⟨⟨⟨Rl,Q,kv⟩,hri,hkb,hms⟩,q⟩:=x
 dsimp only at hri hkb hms q ⊢
 have hqs:q.fs = .slice (some ⟨q.b,q.off,none⟩) Q.length q.cap:=by unfold OQ.fs Z3I;rw [List.length_map]
 rw [hqs]
 refine Z0 (sqt 3 rfl (pur 1 rfl (sp rfl (PE.lenSl ZT rfl) rfl (pur 1 rfl ?_))))
 refine Z1 rfl ?_ ?_<;>intro hc0<;>try simp only [cS] at hc0
 obtain ⟨c,Q,rfl⟩:∃ c Q',Q=c::Q':=by cases Q with | nil=>exact absurd hc0 (by simp) | cons c Q=>exact ⟨c,Q,rfl⟩
 rw [List.length_cons] at hms
 have hcn:=Ze4 hf hri.tr c (hri.q c (by simp))
 refine Sy.heap (H':=(m5,Z0q false kv)::(q.b,cel 3 (q.pre++((([.int .i64 (c:Int)]::Z3I Q):List (List Value)).flatten++q.junk)))::H) idH ?_
 obtain ⟨q2,hq2,hqG2⟩:=OQ.pop (row:=[.int .i64 (c:Int)]) (rows:=Z3I Q) q
 refine Z2 (Z3 (sqt 4 rfl (pur 1 rfl (sp rfl (PE.indexAddr Z0G rfl rfl (by omega) (by rw [List.length_cons];omega)) rfl (spL rfl rfl (lh sc3 rfl (OQ.get0 (rows:=Z3I Q) q (by simp))) rfl (pur 1 rfl (sqt 3 rfl (pur 1 rfl (sp rfl (PE.slLoA (l:=1) Z0F rfl rfl (by rw [List.length_cons];omega)) rfl ?_)))))))))
 have hq2e:Value.slice (if q.cap=1 then some ⟨q.b,q.off,none⟩ else (some (⟨q.b,q.off,none⟩:Addr)).map (·.add (1*1))) ((c::Q).length-1) (q.cap-1)=q2.fs:=by
   rw [hq2,Option.map_some,ZW,List.length_cons];unfold Z3I;rw [List.length_map];rfl
 rw [hq2e]
 refine pur 1 rfl (sqt 5 rfl (pur 2 rfl ?_))
 refine spK rfl rfl rfl (Z2T (b:=false) kv6 [(c:Int)] Z3y (KeyT.of Z4c Z4Q) (Z0M Z9q) rfl hwk.1 (fun w hs=>(hs.now (f:=Z7O m6 kv6 sl6 (Z16 d.y.flows A d.y.flows.length)) (by simp)).1) (hwk.2 c)) rfl ?_
 refine Sy.heap (H':=(m5,Z0q false kv)::(q2.G++H)) (R':=RowsA (sl6 c).1 2 (Zq ((Z16 d.y.flows A d.y.flows.length) c))::Z7O m6 kv6 sl6 (Z16 d.y.flows A d.y.flows.length)::R) (fun w h=>St.wysAt (m:=m6) (kv:=kv6) (sl:=sl6) (W:=(Z16 d.y.flows A d.y.flows.length)) (by rw [hqG2];exact h) c) ?_
 generalize (sl6 c).1=a9
 generalize (sl6 c).2=c9
 refine sp rfl (PE.lenSl Z4m rfl) rfl (pur 1 rfl (Z3 ?_))
 refine Zb (ι:=(x:{x:Nat×List Wy×List Nat×KV // x.1≤((Z16 d.y.flows A d.y.flows.length) c).length∧RJ (d.y.cells+1) d.y.flows A f x.2.1 x.2.2.1 c (((Z16 d.y.flows A d.y.flows.length) c).take x.1)∧KB d.y.flows x.2.2.2 x.2.1∧2*((d.y.cells+1)-x.2.1.length)+x.2.2.1.length≤2*((d.y.cells+1)-Rl.length)+Q.length})×OQ 3 1 (Z3I x.1.2.2.1)) (fun x=>⟨[(0,.pointer (some ⟨d.bd,0,none⟩)),(1,.int .i64 (f:Int)),(5,.map (some m5)),(6,.map (some m6)),(8,.int .i64 (c:Int)),(30,.slice a9 ((Z16 d.y.flows A d.y.flows.length) c).length c9),(31,.int .i64 (((Z16 d.y.flows A d.y.flows.length) c).length:Int)),(7,x.2.fs),(32,.int .i64 (x.1.1.1:Int))],(m5,Z0q false x.1.1.2.2.2)::(x.2.G++H),RowsA a9 2 (Zq ((Z16 d.y.flows A d.y.flows.length) c))::Z7O m6 kv6 sl6 (Z16 d.y.flows A d.y.flows.length)::R⟩) (fun x=>((Z16 d.y.flows A d.y.flows.length) c).length-x.1.1.1) ⟨⟨(0,Rl,Q,kv),Nat.zero_le _,hri.pop,hkb,Nat.le_refl _⟩,q2⟩ ?_ (fun x=>?_)
 exact Ze idH
 obtain ⟨⟨⟨j,R1,Q1,kv1⟩,hj,hrj,hkb1,hms1⟩,q3⟩:=x
 dsimp only at hj hrj hkb1 hms1 q3 ⊢
 refine sqt 1 rfl (pur 1 rfl (Z0 ?_))
 refine Z1 rfl ?_ ?_<;>intro hc1<;>try simp only [cS] at hc1
 obtain ⟨w9,hw9⟩:∃ x,((Z16 d.y.flows A d.y.flows.length) c)[j]?=some x:=⟨_,List.getElem?_eq_getElem (by omega)⟩
 obtain ⟨hwo,hwf⟩:=(Z4L (fun g hg=>(Z0c hy g hg).1)).1 (List.mem_of_getElem? hw9)
 have hwl:=Z2l d.y.flows A c d.y.flows.length
 have htk:((Z16 d.y.flows A d.y.flows.length) c).take (j+1)=((Z16 d.y.flows A d.y.flows.length) c).take j++[w9]:=by rw [List.take_add_one,hw9];rfl
 refine Zi (a:=a9) (sz:=2) (rows:=Zq ((Z16 d.y.flows A d.y.flows.length) c)) (ZK (Z1L hw9)) (fun bp op he=>?_)
 subst he
 refine Z2 (Z0 (Z3 (sqt 4 rfl (sp rfl (PE.indexAddr Z4S rfl rfl (by omega) (by omega)) rfl (spL rfl rfl (lfA Z1M (Z1L hw9) rfl) rfl (alc rfl Z2H rfl (fun b10=>?_)))))))
 refine ZB (l':=wyr w9) rfl rfl rfl Z7c rfl rfl rfl rfl (nl rfl) ?_
 refine sqt 8 rfl (pur 1 rfl (spL rfl rfl (lhA (wyr w9) Z1M rfl (rest:=[]) rfl rfl) rfl ?_))
 refine clV rfl Z7Y rfl rfl (Zco d hy w9 hwo.1 A hA _ _) ?_
 refine pur 5 rfl (sqt 9 rfl (pur 2 rfl ?_))
 refine spK rfl rfl rfl (Z1W (b:=false) kv1 [(w9.to d.y.flows:Int)] Z5a (KeyT.of Z4c Z4Q) (Z0M Zc4) rfl hkb1.1 true) rfl ?_
 rw [hkb1.look]
 refine pur 3 rfl (alc rfl Z2H rfl (fun b13=>?_))
 refine ZB (l':=wyr ((byR d.y.flows R1 (w9.to d.y.flows)).getD nwy)) rfl rfl rfl Z7c rfl rfl rfl rfl (nl rfl) ?_
 refine pur 1 rfl (sqt 7 rfl (pur 3 rfl ?_))
 refine Zw 50 rfl ?_ ?_<;>intro g50
 refine pur 4 rfl ?_
 refine Z1 rfl ?_ ?_<;>intro hc2<;>try simp only [cS] at hc2
 have hno:w9.to d.y.flows∉dom d.y.flows f R1:=fun h9=>by
   rcases byR_dom.1 h9 with h9 | h9
   · rw [h9] at g50;cases g50
   · omega
 have hrl:=ZbP hf (hrj.more hwo hwf hno).tr
 rw [List.length_cons] at hrl
 have hqs3:q3.fs=q3.fs:=rfl
 refine sqt 4 rfl (pur 2 rfl (spL rfl rfl (lhA (wyr w9) Z1M rfl (rest:=[]) rfl rfl) rfl ?_))
 refine mpu kv1 [(w9.to d.y.flows:Int)] (v:=wyv w9) rfl Z5a (KeyT.of Z4c Z4Q) rfl rfl rfl rfl hkb1.1 ?_
 refine sqr 5 rfl (pur 2 rfl ?_)
 refine bsl (out:=[_]) rfl Z0F zl3 rfl rfl rfl rfl rfl rfl (fun b60=>?_)
 refine apQ q3 rfl Z37 rfl rfl (ZU (row:=[.int .i64 (w9.to d.y.flows:Int)]) rfl) rfl (by simp) rfl (by unfold Z3I;simp only [List.length_map,List.length_cons,List.length_nil];omega) rfl (fun q61=>?_)
 obtain ⟨q4,e4,g4⟩:∃ q4:OQ 3 1 (Z3I (Q1++[w9.to d.y.flows])),q4.fs=q61.fs∧q4.G=q61.G:=⟨q61.cast (by simp [Z3I]),OQ.cast_fs _ _,OQ.cast_G _ _⟩
 rw [← e4]
 refine pur 1 rfl (sqr 2 rfl (sp rfl (PE.add rfl rfl (by omega)) rfl (pur 1 rfl ?_)))
 exact Z7 ⟨⟨(j+1,w9::R1,Q1++[w9.to d.y.flows],kv1.put [(w9.to d.y.flows:Int)] (wyv w9)),by dsimp only;omega,by dsimp only;rw [htk];exact hrj.more hwo hwf hno,hkb1.put w9,by dsimp only;rw [List.length_cons,List.length_append,List.length_singleton];omega⟩,q4⟩ (fun w h=>by dsimp only;rw [g4];exact ((h.del b60).del b13).del b10)
 have hin:w9.to d.y.flows∈dom d.y.flows f R1:=byR_dom.2 (.inr (by omega))
 refine Z2 (sqr 2 rfl (sp rfl (PE.add rfl rfl (by omega)) rfl (pur 1 rfl ?_)))
 exact Z7 ⟨⟨(j+1,R1,Q1,kv1),by dsimp only;omega,by dsimp only;rw [htk];exact hrj.skip hin,hkb1,hms1⟩,q3⟩ (fun w h=>(h.del b13).del b10)
 try simp only [cS] at g50
 have hin:w9.to d.y.flows∈dom d.y.flows f R1:=byR_dom.2 (.inl (by simpa using g50))
 refine pur 4 rfl ?_
 refine ZG rfl ?_
 refine Z2 (sqr 2 rfl (sp rfl (PE.add rfl rfl (by omega)) rfl (pur 1 rfl ?_)))
 exact Z7 ⟨⟨(j+1,R1,Q1,kv1),by dsimp only;omega,by dsimp only;rw [htk];exact hrj.skip hin,hkb1,hms1⟩,q3⟩ (fun w h=>(h.del b13).del b10)
 obtain rfl:j=((Z16 d.y.flows A d.y.flows.length) c).length:=by omega
 rw [List.take_length] at hrj
 refine Z9 (Za (Za (Zh ?_)))
 exact ZF ⟨⟨(R1,Q1,kv1),hrj.done (fun v h1 h2=>(Z4L (fun g hg=>(Z0c hy g hg).1)).2 ⟨h1,h2⟩),hkb1,by dsimp only;omega⟩,q3⟩ (by dsimp only;rw [List.length_cons];omega) (fun w h=>h.ftail)
 obtain rfl:Q=[]:=List.length_eq_zero_iff.1 (by omega)
 refine Z9 (Za (Za (Zh (sqt 2 rfl (pur 2 rfl (Z5 ?_))))))
 exact rtA rfl rfl rfl ⟨m5,kv,Rl,rfl,hri,hkb,rfl,rfl⟩ (fun w h=>St.facts (St.freeze (St.del q.b (show St ((m5,Z0q false kv)::(q.b,cel 3 (q.pre++((Z3I []).flatten++q.junk)))::H) _ w from h))) (fun g hg=>(List.mem_cons.1 hg).elim (fun e=>by rw [e];exact List.mem_cons_self) (fun e=>List.mem_cons_of_mem _ (List.mem_cons_of_mem _ e))))
theorem Zh4:cal Tryz.prog 199=true:=by kernel_rfl
theorem ZdS:cal Tryz.prog 203=true:=by kernel_rfl
theorem Zas:cal Tryz.prog 224=true:=by kernel_rfl
theorem Zhp:cal Tryz.prog 252=true:=by kernel_rfl
theorem Zhq:cal Tryz.prog 253=true:=by kernel_rfl
theorem Zhr:cal Tryz.prog 254=true:=by kernel_rfl
theorem Zhs:cal Tryz.prog 255=true:=by kernel_rfl
theorem Zht:cal Tryz.prog 256=true:=by kernel_rfl
theorem Z82:cal Tryz.prog 257=true:=by kernel_rfl
theorem Zdz {y:Yrd} (hy:y.ok) {A:List Int} (hl:A.length=y.flows.length) (hb:∀ i f,y.flows[i]?=some f→f.lo≤na A i∧na A i≤f.hi):AOk y.flows A:=⟨hl,fun i=>by
 by_cases h:i<y.flows.length
 · have h1:=hb i _ (Z3w h)
   have h2:=Z5w hy _ (List.mem_of_getElem? (Z3w h))
   omega
 · rw [Z7s (by omega)];omega⟩
theorem Feas.aok {y:Yrd} (hy:y.ok) {n:Nat} {A:List Int} (h:Feas n y.flows A):AOk y.flows A:=Zdz hy h.len h.bnd
def Zi0 (F:List Fl) (A:List Int) (n:Nat):Int:=match (Z03 F A n).findIdx? (fun v=>decide (0<v)) with | some k=>(k:Int) | none => -1
theorem Z6F {F:List Fl} {A:List Int} {n c:Nat} (h:c<n):(Z03 F A n)[c]?=some (ovr F A c):=by unfold Z03;rw [List.getElem?_map,List.getElem?_range h];rfl
theorem Z9a (F:List Fl) (A:List Int) (n:Nat):(Zi0 F A n = -1∧∀ c,c<n→ovr F A c≤0)∨∃ c:Nat,Zi0 F A n=(c:Int)∧c<n∧0<ovr F A c:=by
 unfold Zi0
 cases h:(Z03 F A n).findIdx? (fun v=>decide (0<v)) with
 | none =>
   refine .inl ⟨rfl,fun c hc=>?_⟩
   have h1:=List.findIdx?_eq_none_iff.1 h (ovr F A c) (List.mem_map.2 ⟨c,List.mem_range.2 hc,rfl⟩)
   have:=of_decide_eq_false h1
   omega
 | some k =>
   obtain ⟨hk,h1,_⟩:=List.findIdx?_eq_some_iff_getElem.1 h
   refine .inr ⟨k,rfl,by rw [ZL] at hk;exact hk,?_⟩
   have h2:=of_decide_eq_true h1
   rw [ZL] at hk
   have h3:=Z6F (F:=F) (A:=A) hk
   rw [List.getElem?_eq_getElem (by rw [ZL];exact hk),Option.some.injEq] at h3
   rwa [h3] at h2
theorem Zgc {n:Nat} {F:List Fl} {A:List Int} {f c:Nat} {R:List Wy} (h:Tr n F A f R) {w:Wy} (hw:w∈R) (e:w.to F=c):byR F R c=some w:=by
 cases hb:byR F R c with
 | none=>exact absurd e (Z7R hb w hw)
 | some v =>
   obtain ⟨h1,h2⟩:=Z7S hb
   rw [Tr.uniq h h1 hw (h2.trans e.symm)]
theorem ZbQ {n:Nat} {F:List Fl} {A:List Int} {f:Nat} {R:List Wy} (h:Tr n F A f R):Z0N F R f=[]:=by
 have:∀ {R:List Wy} {c:Nat},(∀ w∈R,w.to F≠c)→Z0N F R c=[]:=fun {R}=>by
   induction R with
   | nil=>intro c _;rfl
   | cons w R ih=>intro c hc;rw [Z32 (hc w (by simp))];exact ih (fun v hv=>hc v (by simp [hv]))
 refine this (fun w hw e=>?_)
 have hn:=ZaI h
 unfold dom at hn
 rw [List.nodup_append] at hn
 exact hn.2.2 _ (List.mem_map.2 ⟨w,hw,rfl⟩) _ (List.mem_singleton.2 rfl) e
theorem Z47 (xs:List Int) (a:Option Addr) (c g:Nat) (fst cap:List Value) (p:Int→Bool) (hg:cal Tryz.prog g=true) (hl:xs.length≤9223372036854775807) (H:Z8) (R:Z4) [hR:MemRows a 1 (Z6 xs) R] (hp:∀ x,x∈xs→FnV Tryz.prog g (fst++[.int .i64 x]++cap) H R (.bool (p x))) :
    FnV Tryz.prog 224 [.slice a xs.length c,.func (.func g) fst.toArray cap.toArray] H R (.int .i64 (match xs.findIdx? p with | some k=>(k:Int) | none => -1)):=by
 refine Zc Tryz.func224 rfl Tryz.ntmps224 rfl ?_
 refine sqt 1 rfl (pur 1 rfl (Z0 (sqt 3 rfl (pur 1 rfl (sp rfl (PE.lenSl ZT rfl) rfl (pur 1 rfl (Z3 ?_)))))))
 refine Zb (ι:={k:Nat // k≤xs.length∧∀ x∈xs.take k,p x=false}) (fun k=>⟨[(0,.slice a xs.length c),(1,.func (.func g) fst.toArray cap.toArray),(7,.int .i64 xs.length),(8,.int .i64 k.1)],H,R⟩) (fun k=>xs.length-k.1) ⟨0,by simp⟩ ?_ (fun k=>?_)
 exact Ze idH
 obtain ⟨k,hk,hn⟩:=k
 dsimp only
 refine sqt 1 rfl (pur 1 rfl (Z0 ?_))
 refine Z1 rfl ?_ ?_<;>intro hc0
 simp only [cS] at hc0
 obtain ⟨x,hx⟩:∃ x,xs[k]?=some x:=⟨_,List.getElem?_eq_getElem (by omega)⟩
 have hxm:=List.mem_of_getElem? hx
 refine Zi (a:=a) (sz:=1) (rows:=Z6 xs) (by cases xs<;>simp_all [Z6]) (fun b off he=>?_)
 subst he
 refine Z2 (Z0 (Z3 (sqt 2 rfl (pur 2 rfl (sqt 6 rfl (pur 3 rfl (sp rfl (PE.indexAddr Z0G rfl rfl (by omega) (by omega)) rfl (spL rfl rfl (lf0 sc3 (by simp [Z6,hx];rfl) rfl) rfl ?_))))))))
 refine Z3t rfl rfl (hg) rfl rfl (hp x hxm) ?_
 refine Z1 rfl ?_ ?_<;>intro hc1
 refine sqt 2 rfl (pur 2 rfl (Z5 ?_))
 first | (exact rtA rfl rfl rfl ⟨by rw [ZE hx hn hc1];rfl,rfl,rfl⟩ idH) | (exact rtA rfl rfl rfl ⟨by rw [Zv (by simpa using hn)];rfl,rfl,rfl⟩ idH)
 refine Z2 (sqr 2 rfl (sp rfl (PE.add rfl rfl (by omega)) rfl (pur 1 rfl ?_)))
 exact Z7 ⟨k+1,by omega,Z09 hx hn hc1⟩ idH
 simp only [cS] at hc0
 obtain rfl:k=xs.length:=by omega
 refine Z9 (Za (Za (Zh (sqt 1 rfl (pur 1 rfl (Z5 ?_))))))
 first | (exact rtA rfl rfl rfl ⟨by rw [ZE hx hn hc1];rfl,rfl,rfl⟩ idH) | (exact rtA rfl rfl rfl ⟨by rw [Zv (by simpa using hn)];rfl,rfl,rfl⟩ idH)
theorem Zcu (x:Fl) (H:Z8) (R:Z4) :
    FnV Tryz.prog 253 [.agg (Z0e x).toArray] H R (.bool (decide (x.lo≤x.hi))):=by
 refine Zc Tryz.func253 rfl Tryz.ntmps253 rfl ?_
 refine sqt 2 rfl (bx rfl rfl rfl (fun b1=>pur 1 rfl (sqt 6 rfl (sp rfl (PE.fA Z2z rfl) rfl (spL rfl rfl (lh (v:=.int .i64 x.lo) sc3 rfl rfl) rfl (sp rfl (PE.fA Z3c rfl) rfl (spL rfl rfl (lh (v:=.int .i64 x.hi) sc3 rfl rfl) rfl (pur 2 rfl (Z5 ?_)))))))))
 exact rtA rfl rfl rfl ⟨rfl,rfl,rfl⟩ drp
theorem Zcv (x:Int) (H:Z8) (R:Z4) :
    FnV Tryz.prog 255 [.int .i64 x] H R (.bool (decide (0<x))):=by
 refine Zc Tryz.func255 rfl Tryz.ntmps255 rfl ?_
 refine sqt 1 rfl (pur 1 rfl (sqt 3 rfl (pur 3 rfl (Z5 ?_))))
 exact rtA rfl rfl rfl ⟨rfl,rfl,rfl⟩ drp
theorem ZeP (F:List Fl) (A:List Int) (n:Nat) (hn:n≤1000) (bv c:Nat) (H:Z8) (R:Z4) [hR:MemRows (some ⟨bv,0,none⟩) 1 (Z6 (Z03 F A n)) R]:FnV Tryz.prog 224 [.slice (some ⟨bv,0,none⟩) n c,.func (.func 255) ([]:List Value).toArray ([]:List Value).toArray] H R (.int .i64 (Zi0 F A n)):=by
 have h:=Z47 (Z03 F A n) (some ⟨bv,0,none⟩) c 255 [] [] (fun v=>decide (0<v)) Zhs (by rw [ZL];omega) H R (fun x hx=>Zcv x H R)
 rw [ZL] at h
 exact h
set_option maxHeartbeats 1200000 in
theorem ZeX (d:DD) (hy:d.y.ok) (A0:List Int) (hl0:A0.length=d.y.flows.length) (hb0:∀ i f,d.y.flows[i]?=some f→f.lo≤na A0 i∧na A0 i≤f.hi) (hB:∃ B,Feas (d.y.cells+1) d.y.flows B) (H:Z8) (R:Z4) [hD:MemRows (some ⟨d.bd,0,none⟩) 6 [d.l] R] [hF:MemRows (some ⟨d.fb,0,none⟩) 4 (ZM d.y.flows) R] :
    Fn Tryz.prog 199 [.pointer (some ⟨d.bd,0,none⟩)] ((d.ba,cel 3 (Zp A0++d.J))::H) R (fun v H' R'=>∃ A,Feas (d.y.cells+1) d.y.flows A∧v = .tuple #[.int .i64 0,.bool false]∧H'=(d.ba,cel 3 (Zp A++d.J))::H∧R'=R):=by
 have hfl:=Z04 hy
 have hcl:=Z28 hy
 refine Zc Tryz.func199 rfl Tryz.ntmps199 rfl ?_
 refine sqt 2 rfl (pur 2 rfl (Z0 (sqt 6 rfl (pur 1 rfl (sp rfl (PE.nilCheck rfl) rfl (sp rfl (PE.fA Z1g rfl) rfl (spL rfl rfl (lfB (sz:=6) Z3J rfl) rfl ?_)))))))
 refine cl rfl Zhp rfl rfl (Z75 d.y.flows (some ⟨d.fb,0,none⟩) d.cf 253 [] [] (fun f=>decide (f.lo≤f.hi)) Zhq (by omega) _ _ (fun b9 b8 x hx=>Zcu x _ _)) ?_
 rintro _ _ R1 ⟨rfl,rfl,hR1⟩
 obtain rfl:=hR1.symm
 clear hR1
 rw [show (d.y.flows.all fun f=>decide (f.lo≤f.hi))=true from List.all_eq_true.2 fun f hf=>dT (by obtain ⟨i,hi⟩:=List.mem_iff_getElem?.1 hf;have:=hb0 i f hi;omega)]
 refine pur 1 rfl ?_
 refine Z1 rfl ?_ ?_<;>intro hc0
 exact absurd hc0 (by simp)
 refine Z2 (Z3 ?_)
 refine Zb (ι:={A:List Int // A.length=d.y.flows.length∧∀ i f,d.y.flows[i]?=some f→f.lo≤na A i∧na A i≤f.hi}) (fun A=>⟨[(0,.pointer (some ⟨d.bd,0,none⟩))],(d.ba,cel 3 (Zp A.1++d.J))::H,R⟩) (fun A=>(tot (d.y.cells+1) d.y.flows A.1).toNat) ⟨A0,hl0,hb0⟩ ?_ (fun A=>?_)
 exact Ze idH
 obtain ⟨A,hlA,hbA⟩:=A
 dsimp only at hlA hbA ⊢
 have hA:=Zdz hy hlA hbA
 refine Z3 (sqt 3 rfl (pur 1 rfl ?_))
 refine cl rfl Zhr rfl rfl (Zgs d hy A hA _ _) ?_
 rintro _ _ _ ⟨bv,rfl,rfl,rfl⟩
 refine pur 1 rfl (sqt 3 rfl (pur 1 rfl ?_))
 refine cl rfl Zas rfl rfl (ZeP d.y.flows A (d.y.cells+1) (by omega) bv (d.y.cells+1) _ _) ?_
 rintro _ _ R1 ⟨rfl,rfl,hR1⟩
 obtain rfl:=hR1.symm
 clear hR1
 have hfi:=Z9a d.y.flows A (d.y.cells+1)
 refine pur 1 rfl (Z0 (sqt 2 rfl (pur 2 rfl ?_)))
 refine Z1 rfl ?_ ?_<;>intro hc1<;>try simp only [cS] at hc1
 have hle:∀ c,c<(d.y.cells+1)→ovr d.y.flows A c≤0:=by
   rcases hfi with ⟨_,h⟩ | ⟨c,e,_⟩
   · exact h
   · omega
 refine sqt 2 rfl (pur 2 rfl (Z5 ?_))
 exact rtB rfl rfl rfl rfl ⟨A,Zfd (fun g hg=>(Z0c hy g hg).1) hlA hbA hle,rfl,rfl,rfl⟩ (fun w h=>h.ftail)
 obtain ⟨c,hce,hcn,hcp⟩:∃ c:Nat,Zi0 d.y.flows A (d.y.cells+1)=(c:Int)∧c<(d.y.cells+1)∧0<ovr d.y.flows A c:=by
   rcases hfi with ⟨h,_⟩ | h
   · omega
   · exact h
 rw [hce]
 refine Z2 (sqt 4 rfl (pur 2 rfl ?_))
 refine cl rfl Zht rfl rfl (Z49 d hy A hA c hcn _ _) ?_
 rintro _ _ _ ⟨m6,kv,Rl,rfl,hri,hkb,rfl,rfl⟩
 refine pur 1 rfl (sqt 1 rfl (pur 1 rfl (Z0 (sqt 3 rfl (pur 1 rfl (sp rfl (PE.lenSl ZT rfl) rfl (pur 1 rfl (Z3 ?_))))))))
 refine Zb (ι:={j:Nat // j≤(d.y.cells+1)∧∀ q,q<j→(byR d.y.flows Rl q).isSome=true→0≤ovr d.y.flows A q}) (fun j=>⟨[(0,.pointer (some ⟨d.bd,0,none⟩)),(4,.slice (some ⟨bv,0,none⟩) (d.y.cells+1) (d.y.cells+1)),(5,.int .i64 (c:Int)),(6,.map (some m6)),(7,.int .i64 (-1)),(32,.slice (some ⟨bv,0,none⟩) (d.y.cells+1) (d.y.cells+1)),(33,.int .i64 (((d.y.cells+1):Nat):Int)),(34,.int .i64 (j.1:Int))],(d.ba,cel 3 (Zp A++d.J))::H,MpF m6 kv::RowsA (some ⟨bv,0,none⟩) 1 (Z6 (Z03 d.y.flows A (d.y.cells+1)))::R⟩) (fun j=>(d.y.cells+1)-j.1) ⟨0,Nat.zero_le _,fun q h=>absurd h (Nat.not_lt_zero _)⟩ ?_ (fun j=>?_)
 exact Ze idH
 obtain ⟨j,hj,hnj⟩:=j
 dsimp only at hj hnj ⊢
 refine sqt 1 rfl (pur 1 rfl (Z0 ?_))
 refine Z1 rfl ?_ ?_<;>intro hc2
 try simp only [cS] at hc2
 refine Z2 (Z0 (Z3 (sqt 5 rfl (pur 1 rfl (sp rfl (PE.indexAddr Z0G rfl rfl (by omega) (by omega)) rfl (spL rfl rfl (lf0 sc3 (ZQ (Z6F (F:=d.y.flows) (A:=A) (n:=(d.y.cells+1)) (c:=j) (by omega))) rfl) rfl (pur 2 rfl (sqt 9 rfl (pur 2 rfl ?_)))))))))
 refine spK rfl rfl rfl (Zbd (b:=false) kv [(j:Int)] Z5a (KeyT.of Z4c Z4Q) (Z0M Zc4) rfl hkb.1 (fun w hs=>hs.now (f:=MpF m6 kv) (by simp)) true) rfl ?_
 rw [hkb.look]
 refine pur 3 rfl (alc rfl Z2H rfl (fun b10=>?_))
 refine ZB (l':=wyr ((byR d.y.flows Rl j).getD nwy)) rfl rfl rfl Z7c rfl rfl rfl rfl (nl rfl) ?_
 refine pur 1 rfl (sqt 5 rfl (pur 2 rfl ?_))
 refine Zw 46 rfl ?_ ?_<;>intro g46
 refine pur 3 rfl ?_
 refine Z1 rfl ?_ ?_<;>intro hc3<;>try simp only [cS] at hc3
 have hjd:j∈dom d.y.flows c Rl:=byR_dom.2 (.inl g46)
 have hjc:j≠c:=fun e=>by rw [e] at hc3;omega
 have hv1:=Z6G hA (c:=c) d.y.flows.length
 have hv2:=Z6G hA (c:=j) d.y.flows.length
 rw [List.take_length] at hv1 hv2
 refine sqt 2 rfl (pur 2 rfl (Z9 (Z05 (by decide) (Za (Za (Zh (Z0 (sqt 2 rfl (pur 2 rfl ?_)))))))))
 refine Z1 rfl ?_ ?_<;>intro hc4
 exact absurd hc4 (by simp)
 refine Z2 (sqt 1 rfl (pur 1 rfl (Z0 ?_)))
 refine Zd [0,0,3,7,0,0,48,112,240,496,1023,2047] (tks 0 3 (.ld 3 (tks 4 3 (.ld 7 (.tk 8 (.big 9 (.big 10 (.tk 11 .done)))))))) Zt (by kernel_rfl) ?_
 refine Zm 2 rfl (tk rfl (PE.indexAddr Z0G rfl rfl (by omega) (by omega)) rfl (ld rfl rfl (lf0 sc3 (ZQ (Z6F (F:=d.y.flows) (A:=A) (n:=(d.y.cells+1)) (c:=c) (by omega))) rfl) rfl (Zm 2 rfl (tk rfl (PE.indexAddr Z0G rfl rfl (by omega) (by omega)) rfl (ld rfl rfl (lf0 sc3 (ZQ (Z6F (F:=d.y.flows) (A:=A) (n:=(d.y.cells+1)) (c:=j) (by omega))) rfl) rfl ?_)))))
 refine tk rfl ((PE.negW rfl).to (show Value.int .i64 (IntKind.i64.wrap (0-(ovr d.y.flows A j)))=Value.int .i64 (-(ovr d.y.flows A j)) by rw [IntWalk.i64_in _ (by omega)];congr 1;omega)) rfl ?_
 refine bsl (out:=[_]) rfl Z0F zl3 rfl rfl rfl rfl rfl rfl (fun b64=>?_)
 refine bg (fun w hs=>⟨trivial,(lf0 sc3 (ZQ (Z6F (F:=d.y.flows) (A:=A) (n:=(d.y.cells+1)) (c:=c) (by omega))) rfl) w hs,trivial⟩) ?_
 refine clV rfl Z6d rfl rfl (Z48 _ _ b64 _ _ _) ?_
 refine bgT (Zm 1 rfl (Z0 (sqt 2 rfl (pur 2 rfl (Z3 ?_)))))
 refine Zb (ι:=(x:{x:List Wy×Nat×Int // x.2.1∈dom d.y.flows c Rl∧x.1++Z0N d.y.flows Rl x.2.1=Z0N d.y.flows Rl j∧1≤x.2.2∧(x.2.2≤ovr d.y.flows A c∧x.2.2 ≤ -ovr d.y.flows A j)∧∀ w∈x.1,x.2.2≤w.res d.y.flows A})×OSl 312 2 (Zq x.1.1)) (fun x=>⟨[(0,.pointer (some ⟨d.bd,0,none⟩)),(4,.slice (some ⟨bv,0,none⟩) (d.y.cells+1) (d.y.cells+1)),(5,.int .i64 (c:Int)),(6,.map (some m6)),(12,x.2.fs),(13,.int .i64 x.1.1.2.2),(14,.int .i64 (x.1.1.2.1:Int))],x.2.G++(d.ba,cel 3 (Zp A++d.J))::H,MpF m6 kv::RowsA (some ⟨bv,0,none⟩) 1 (Z6 (Z03 d.y.flows A (d.y.cells+1)))::R⟩) (fun x=>(Z0N d.y.flows Rl x.1.1.2.1).length) ⟨⟨([],j,min (ovr d.y.flows A c) (-ovr d.y.flows A j)),hjd,rfl,by dsimp only;omega,⟨by dsimp only;omega,by dsimp only;omega⟩,fun w h=>by cases h⟩,OSl.nil _ _⟩ ?_ (fun x=>?_)
 exact Ze (fun w h=>(h.del b64).del b10)
 obtain ⟨⟨⟨P,a,mo⟩,had,hpt,hm1,hm2,hmr⟩,o⟩:=x
 dsimp only at had hpt hm1 hm2 hmr o ⊢
 refine Z0 (sqt 3 rfl (pur 3 rfl ?_))
 refine Z1 rfl ?_ ?_<;>intro hc5<;>try simp only [cS] at hc5
 obtain ⟨w9,hwR,hwt,hst⟩:=Tr.step hri.tr had (show a≠c by omega)
 have hby:=Zgc hri.tr hwR hwt
 obtain ⟨hwo,hwd⟩:=Tr.ok hri.tr w9 hwR
 have hPs:(P++Z0N d.y.flows Rl a).Sublist Rl:=by rw [hpt];exact Z33
 have hPl:=hPs.length_le
 have hrl:=ZbP hcn hri.tr
 rw [List.length_append] at hPl
 refine Z2 (Z0 (Z3 (sqt 7 rfl (pur 3 rfl ?_))))
 refine spK rfl rfl rfl (Z2T (b:=false) kv [(a:Int)] Z5a (KeyT.of Z4c Z4Q) (Z0M Zc4) rfl hkb.1 (fun w hs=>hs.now (f:=MpF m6 kv) (by simp)) ((hkb.val a).trans (congrArg (fun q=>wyv (Option.getD q nwy)) hby))) rfl ?_
 refine bsl (out:=[_,_]) rfl ZbB Z2H rfl rfl rfl rfl rfl rfl (fun b79=>?_)
 refine apO (o) rfl Z72 rfl rfl (ZU (row:=wyr w9) rfl) rfl rfl ((by simp only [Zq,List.length_map,List.length_cons,List.length_nil];omega)) rfl (fun o80=>?_)
 refine pur 1 rfl (sqt 10 rfl (pur 3 rfl ?_))
 refine spK rfl rfl rfl (Z2T (b:=false) kv [(a:Int)] Z5a (KeyT.of Z4c Z4Q) (Z0M Zc4) rfl hkb.1 (fun w hs=>hs.now (f:=MpF m6 kv) (by simp)) ((hkb.val a).trans (congrArg (fun q=>wyv (Option.getD q nwy)) hby))) rfl ?_
 refine clV rfl Z7Y rfl rfl (Zco d hy w9 hwo.1 A hA _ _) ?_
 refine pur 5 rfl (sqr 5 rfl (pur 2 rfl ?_))
 refine bsl (out:=[_]) rfl Z0F zl3 rfl rfl rfl rfl rfl rfl (fun b91=>?_)
 refine clV rfl Z6d rfl rfl (Z48 _ _ b91 _ _ _) ?_
 refine pur 1 rfl (sqr 6 rfl (pur 3 rfl ?_))
 refine spK rfl rfl rfl (Z2T (b:=false) kv [(a:Int)] Z5a (KeyT.of Z4c Z4Q) (Z0M Zc4) rfl hkb.1 (fun w hs=>hs.now (f:=MpF m6 kv) (by simp)) ((hkb.val a).trans (congrArg (fun q=>wyv (Option.getD q nwy)) hby))) rfl ?_
 refine clV rfl Z82 rfl rfl (Z5k d w9 hwo.1 _ _) ?_
 refine pur 1 rfl ?_
 exact ZC ⟨⟨(P++[w9],w9.fr d.y.flows,min mo (w9.res d.y.flows A)),hwd,by dsimp only;rw [List.append_assoc,← hpt,hst];rfl,by dsimp only;have:=hwo.2.1;omega,⟨by dsimp only;omega,by dsimp only;omega⟩,fun w hw=>by
   dsimp only
   rcases List.mem_append.1 hw with h9 | h9
   · have:=hmr w h9;omega
   · rw [List.mem_singleton.1 h9];omega⟩,o80.cast (by simp [Zq])⟩ (by dsimp only;rw [hst,List.length_cons];omega) sbA (fun w h=>(h.del b91).del b79)
 obtain rfl:a=c:=by omega
 rw [ZbQ hri.tr,List.append_nil] at hpt
 have hPs:P.Sublist Rl:=by rw [hpt];exact Z33
 have hPl:=hPs.length_le
 have hrl:=ZbP hcn hri.tr
 have hP0:P≠[]:=fun e=>by
   obtain ⟨w9,_,_,hst⟩:=Tr.step hri.tr hjd hjc
   rw [← hpt,e] at hst;cases hst
 obtain ⟨w0,hw0⟩:=List.exists_mem_of_ne_nil _ hP0
 have hk0:=(Tr.ok hri.tr w0 (hPs.subset hw0)).1
 have hm3:=hmr w0 hw0
 have hm4:mo≤300:=by
   have h1:=hA.bnd w0.i
   have h2:=Z5w hy _ (List.mem_of_getElem? (Z3w hk0.1))
   unfold Wy.res at hm3
   cases hmw:w0.more<;>rw [hmw] at hm3<;>simp only [cond_true,cond_false] at hm3<;>omega
 obtain ⟨pa,pc,he,hf⟩:=o.freeze
 rw [he,show (Zq P).length=P.length from List.length_map _]
 refine Sy.heap (fun w h=>hf h) ?_
 obtain ⟨hs1,hs2,hs3⟩:=Tr.send (k:=mo) hlA hbA hri.tr hcn hjd hm1 hm2.1 hm2.2 (by rw [← hpt];exact hmr)
 rw [← hpt] at hs1 hs2 hs3
 have ht0:=Zix (d.y.cells+1) d.y.flows (snd A P mo)
 refine Z9 (Za (Za (Zh (sqr 4 rfl (pur 3 rfl ?_)))))
 refine cl rfl ZdS rfl rfl (ZdG d hy A hlA (fun k=>by have:=hA.bnd k;omega) P (fun w hw=>(Tr.ok hri.tr w (hPs.subset hw)).1.1) (by omega) mo ⟨by omega,hm4⟩ pa pc _ _) ?_
 rintro _ _ _ ⟨rfl,rfl⟩
 exact Z7 ⟨snd A P mo,hs1,hs2⟩ drp
 refine Z2 (sqr 2 rfl (sp rfl (PE.add rfl rfl (by omega)) rfl (pur 1 rfl ?_)))
 exact ZC ⟨j+1,by omega,fun q hq h1=>by
   by_cases e:q=j
   · subst e;omega
   · exact hnj q (by omega) h1⟩ (by dsimp only;omega) sbA (fun w h=>h.del b10)
 refine pur 3 rfl ?_
 refine ZG rfl ?_
 refine Z2 (sqr 2 rfl (sp rfl (PE.add rfl rfl (by omega)) rfl (pur 1 rfl ?_)))
 exact ZC ⟨j+1,by omega,fun q hq h1=>by
   by_cases e:q=j
   · subst e;rw [h1] at g46;cases g46
   · exact hnj q (by omega) h1⟩ (by dsimp only;omega) sbA (fun w h=>h.del b10)
 obtain ⟨B,hB⟩:=hB
 exact (Tr.stuck (fun g hg=>(Z0c hy g hg).1) hlA hcn (fun v h1 h2=>hri.cl v h1 h2 (fun h9=>by cases h9)) hcp (fun q hq hd=>by
   rcases byR_dom.1 hd with h1 | h1
   · simp only [cS] at hc2
     exact hnj q (by omega) h1
   · rw [h1];omega) hB).elim
theorem Zct (d:DD) (hy:d.y.ok) (A0:List Int) (hl0:A0.length=d.y.flows.length) (hb0:∀ i f,d.y.flows[i]?=some f→f.lo≤na A0 i∧na A0 i≤f.hi) (hB:∃ B,Feas (d.y.cells+1) d.y.flows B) (H:Z8) (R:Z4) [hD:MemRows (some ⟨d.bd,0,none⟩) 6 [d.l] R] [hF:MemRows (some ⟨d.fb,0,none⟩) 4 (ZM d.y.flows) R] :
    Fn Tryz.prog 116 [.pointer (some ⟨d.bd,0,none⟩)] ((d.ba,cel 3 (Zp A0++d.J))::H) R (fun v H' R'=>∃ A,Feas (d.y.cells+1) d.y.flows A∧v = .bool true∧H'=(d.ba,cel 3 (Zp A++d.J))::H∧R'=R):=by
 refine Zc Tryz.func116 rfl Tryz.ntmps116 rfl ?_
 refine sqt 1 rfl (pur 1 rfl (sqt 7 rfl (pur 1 rfl ?_)))
 refine cl rfl Zh4 rfl rfl (ZeX d hy A0 hl0 hb0 hB _ _) ?_
 rintro _ _ _ ⟨A,hA,rfl,rfl,rfl⟩
 refine pur 5 rfl (sqt 3 rfl (pur 3 rfl (Z5 ?_)))
 exact rtA rfl rfl rfl ⟨A,hA,rfl,rfl,rfl⟩ idH
theorem Zes:Z2q Tryz.prog 235=some 2:=by kernel_rfl
theorem ZdX:cal Tryz.prog 259=true:=by kernel_rfl
theorem Z8K {sz:Nat} {row:List Value} (hr:row.length=sz):∀ {rows:List (List Value)} {k i:Nat},(∀ r∈rows,r.length=sz)→k<rows.length→i=k*sz→spl rows.flatten i row=(rows.set k row).flatten
 | r::rs,0,i,hs,_,e=>by
   rw [Nat.zero_mul] at e;subst e
   show spl (r++rs.flatten) 0 row=row++rs.flatten
   unfold spl
   rw [List.take_zero,List.nil_append,Nat.zero_add,hr,← hs r (by simp),List.drop_left]
 | r::rs,k+1,i,hs,hk,e=>by
   have ih:=Z8K hr (rows:=rs) (k:=k) (i:=k*sz) (fun q hq=>hs q (by simp [hq])) (by simpa using hk) rfl
   rw [Nat.succ_mul] at e;subst e
   show spl (r++rs.flatten) (k*sz+sz) row=r++(rs.set k row).flatten
   rw [← ih]
   have h0:=hs r (by simp)
   unfold spl
   rw [show k*sz+sz=r.length+k*sz by omega,List.take_length_add_append,List.append_assoc,List.append_assoc,List.append_assoc,show r.length+k*sz+row.length=r.length+(k*sz+row.length) by omega,List.drop_length_add_append]
theorem Z1n {sz:Nat}:∀ {rows:List (List Value)} {k:Nat} {row:List Value},(∀ r∈rows,r.length=sz)→rows[k]?=some row→rows.flatten.drop (k*sz)=row++(rows.drop (k+1)).flatten
 | r::rs,0,row,hs,h=>by
   simp only [List.getElem?_cons_zero,Option.some.injEq] at h
   subst h;rw [Nat.zero_mul];rfl
 | r::rs,k+1,row,hs,h=>by
   have ih:=Z1n (rows:=rs) (k:=k) (row:=row) (fun q hq=>hs q (by simp [hq])) (by simpa using h)
   have h0:=hs r (by simp)
   show (r++rs.flatten).drop ((k+1)*sz)=row++(rs.drop (k+1)).flatten
   rw [← ih,Nat.succ_mul,show k*sz+sz=r.length+k*sz by omega,List.drop_length_add_append]
def fnL {α:Type} (f:Nat→α) (n:Nat):List α:=(List.range n).map f
theorem Z0s {α:Type} (f:Nat→α) (n:Nat):(fnL f n).length=n:=by simp [fnL]
theorem Z1z {α:Type} {f:Nat→α} {n k:Nat} (h:k<n):(fnL f n)[k]?=some (f k):=by unfold fnL;rw [List.getElem?_map,List.getElem?_range h];rfl
theorem ZaP {α:Type} {f:Nat→α} {n k:Nat} {v:α}:(fnL f n).set k v=fnL (upd f k v) n:=by
 refine List.ext_getElem? fun q=>?_
 rw [List.getElem?_set,Z0s]
 by_cases hq:q<n
 · rw [Z1z hq,Z1z hq]
   by_cases e:k=q
   · subst e;rw [if_pos rfl,if_pos hq,Z06]
   · rw [if_neg e,ZV (fun h=>e h.symm)]
 · rw [List.getElem?_eq_none (by rw [Z0s];omega),List.getElem?_eq_none (by rw [Z0s];omega)]
   by_cases e:k=q
   · rw [if_pos e,if_neg (by omega)]
   · rw [if_neg e]
theorem Z55 {f:Nat→Int} {n k:Nat} (h:k<n):na (fnL f n) k=f k:=Z7t (Z1z h)
theorem ZaO {α:Type} (v:α) (n:Nat):fnL (fun _=>v) n=List.replicate n v:=by
 refine List.ext_getElem? fun q=>?_
 rw [List.getElem?_replicate]
 by_cases h:q<n
 · rw [Z1z h,if_pos h]
 · rw [List.getElem?_eq_none (by rw [Z0s];omega),if_neg h]
theorem Z26 (l:List Wy):∀ r∈Zq l,r.length=2:=fun r hr=>by obtain ⟨x,_,rfl⟩:=List.mem_map.1 hr;rfl
theorem ZfX (l:List Wy):(Zq l).flatten.length=l.length*2:=by rw [Z0i (Z26 l),List.length_map]
structure BFx (n:Nat) (F:List Fl) (A:List Int) (wt:Nat→Int) (r c j:Nat) (a:Option Nat) (s:BFs):Prop where
 bfi:BFI n F A wt r c s
 pn:∀ c,0≤s.p c∧s.p c≤s.now
 nb:s.now≤r*1470+c*70+j
 non:a=none→∀ c,s.rk c≤r
 som:a≠none→r+1<n
def atI:Option Nat→Int
 | none => -1
 | some c=>(c:Int)
theorem BFx.start {n:Nat} {F:List Fl} {A:List Int} {wt:Nat→Int} {c0:Nat} (b:Wy):BFx n F A wt 0 0 0 none ⟨fun _=>0,fun _=>b,fun _=>0,fun _=>0,0⟩:=⟨BFI.start b,fun _=>⟨Int.le_refl _,Int.le_refl _⟩,Nat.le_refl _,fun _ _=>Nat.le_refl _,fun h=>absurd rfl h⟩
theorem BFx.next {n:Nat} {F:List Fl} {A:List Int} {wt:Nat→Int} {r c j:Nat} {a:Option Nat} {s:BFs} (h:BFx n F A wt r c j a s) (hj:j≤69) (hc:s.calm n F A wt c):BFx n F A wt r (c+1) 0 a s:=by
 have h1:=h.nb
 have h2:s.now≤r*1470+(c+1)*70+0:=by rw [Nat.add_mul c 1 70,Nat.add_zero];generalize r*1470=x at h1 ⊢;generalize c*70=z at h1 ⊢;omega
 exact ⟨h.bfi.next (fun _=>hc),h.pn,h2,h.non,h.som⟩
theorem BFx.j {n:Nat} {F:List Fl} {A:List Int} {wt:Nat→Int} {r c j:Nat} {a:Option Nat} {s:BFs} (h:BFx n F A wt r c j a s):BFx n F A wt r c (j+1) a s:=⟨h.bfi,h.pn,by have:=h.nb;omega,h.non,h.som⟩
theorem BFx.round {n:Nat} {F:List Fl} {A:List Int} {wt:Nat→Int} {r:Nat} {a:Option Nat} {s:BFs} (h:BFx n F A wt r n 0 a s) (hn:n≤21):BFx n F A wt (r+1) 0 0 none s:=⟨h.bfi.round,h.pn,by have:=h.nb;omega,fun _ c=>h.bfi.rk_le c,fun h=>absurd rfl h⟩
theorem BFx.put_rk {n:Nat} {F:List Fl} {wt:Nat→Int} {r:Nat} {s:BFs} (v:Wy):(s.put F wt r v).rk (v.to F)=r+1:=Z06
theorem BFx.put_bd {F:List Fl} {wt:Nat→Int} {r:Nat} {s:BFs} {v:Wy} (h:∀ c,0≤s.p c∧s.p c≤s.now) (hg : -1≤v.g wt∧v.g wt≤1) (hl:s.p (v.to F)<s.p (v.fr F)+v.g wt):∀ c,0≤(s.put F wt r v).p c∧(s.put F wt r v).p c≤(s.put F wt r v).now:=fun c=>by
 have h1:=h (v.fr F);have h2:=h (v.to F);have h3:=h c
 show 0≤upd s.p (v.to F) (s.p (v.fr F)+v.g wt) c∧upd s.p (v.to F) (s.p (v.fr F)+v.g wt) c≤((s.now+1:Nat):Int)
 by_cases e:c=v.to F
 · rw [e,Z06];omega
 · rw [ZV e];omega
theorem BFx.put {n:Nat} {F:List Fl} {A:List Int} {wt:Nat→Int} {r c j:Nat} {a:Option Nat} {s:BFs} (h:BFx n F A wt r c j a s) {v:Wy} (hv:v.ok n F A) (hc:v.fr F=c) (hs:v.fr F≠v.to F) (hl:s.p (v.to F)<s.p (v.fr F)+v.g wt) (hg : -1≤v.g wt∧v.g wt≤1) (hr:r+1<n):BFx n F A wt r c (j+1) (some (v.to F)) (s.put F wt r v) :=
 ⟨h.bfi.put hv hc hs hl,BFx.put_bd h.pn hg hl,(by have:=h.nb;show s.now+1≤_;omega),fun h=>(by cases h),fun _=>hr⟩
def Dn (F:List Fl) (wt:Nat→Int) (s:BFs) (l:List Wy):Prop:=∀ v∈l,s.p (v.fr F)+v.g wt≤s.p (v.to F)
theorem Dn.snoc {F:List Fl} {wt:Nat→Int} {s:BFs} {l:List Wy} {w:Wy} (h:Dn F wt s l) (hw:s.p (w.fr F)+w.g wt≤s.p (w.to F)):Dn F wt s (l++[w]):=fun v hv=>by
 rcases List.mem_append.1 hv with hv | hv
 · exact h v hv
 · rw [List.mem_singleton.1 hv];exact hw
theorem Dn.put {F:List Fl} {wt:Nat→Int} {s:BFs} {l:List Wy} {w:Wy} {r c:Nat} (h:Dn F wt s l) (hl:∀ v∈l,v.fr F=c) (hc:w.fr F=c) (hs:w.fr F≠w.to F) (hg:s.p (w.to F)<s.p (w.fr F)+w.g wt):Dn F wt (s.put F wt r w) (l++[w]):=fun v hv=>by
 have hne:c≠w.to F:=by rw [← hc];exact hs
 show upd s.p (w.to F) (s.p (w.fr F)+w.g wt) (v.fr F)+v.g wt≤upd s.p (w.to F) (s.p (w.fr F)+w.g wt) (v.to F)
 rcases List.mem_append.1 hv with hv | hv
 · have h1:=h v hv
   rw [hl v hv] at h1 ⊢
   rw [ZV hne]
   by_cases e:v.to F=w.to F
   · rw [e,Z06];rw [e] at h1;omega
   · rw [ZV e];exact h1
 · rw [List.mem_singleton.1 hv,Z06,hc,ZV hne];omega
theorem Z4t (F:List Fl) (s:BFs):∀ (k c:Nat),s.path F (k+1) c=s.path F k c++[s.by_ (s.at_ F k c)]
 | 0,c=>rfl
 | k+1,c=>by
   show s.by_ c::s.path F (k+1) ((s.by_ c).fr F)=(s.by_ c::s.path F k ((s.by_ c).fr F))++[s.by_ (s.at_ F k ((s.by_ c).fr F))]
   rw [Z4t F s k];rfl
theorem Z73 (F:List Fl) (s:BFs) (k c:Nat):s.at_ F (k+1) c=(s.by_ (s.at_ F k c)).fr F:=by rw [s.at_add F k 1 c];rfl
set_option maxHeartbeats 2400000 in
theorem Zcl (d:DD) (hy:d.y.ok) (A:List Int) (hf:Feas (d.y.cells+1) d.y.flows A) (g:Nat) (vf vc:List Value) (S:Nat→Bool) (less:Bool) (G:Z4) (hcal:cal Tryz.prog g=true) (hg:∀ (i:Nat) (H:Z8) (R:Z4) [SubF G R],FnV Tryz.prog g (vf++[.int .i64 (i:Int)]++vc) H R (.bool (S i))) (H:Z8) (R:Z4) [hD:MemRows (some ⟨d.bd,0,none⟩) 6 [d.l] R] [hF:MemRows (some ⟨d.fb,0,none⟩) 4 (ZM d.y.flows) R] [hM:Mem1 d.ba (cel 3 (Zp A++d.J)) H] [hG:SubF G R] :
    Fn Tryz.prog 200 [.pointer (some ⟨d.bd,0,none⟩),.agg (Z6y g vf vc less).toArray] H R (fun v H' R'=>(v=Zl∧H'=H∧R'=R∧∀ B,Feas (d.y.cells+1) d.y.flows B→Z0O (wtl S less) B≤Z0O (wtl S less) A)∨∃ l pb pc b,v = .slice (some ⟨pb,0,none⟩) l.length pc∧H'=H∧R'=RowsA (some ⟨pb,0,none⟩) 2 (Zq l)::R∧(l≠[]∧l.length≤(d.y.cells+1))∧0<wth (wtl S less) l∧l.Nodup∧chn d.y.flows l b b∧∀ w∈l,w.ok (d.y.cells+1) d.y.flows A):=by
 have hfl:=Z04 hy
 have hcl:=Z28 hy
 have hA:=hf.aok hy
 refine Zc Tryz.func200 rfl Tryz.ntmps200 rfl ?_
 refine sqt 2 rfl (bx rfl rfl rfl (fun b3=>pur 1 rfl (Z8S (sqt 4 rfl (pur 1 rfl ?_)))))
 refine clV rfl Z3s rfl rfl (Z1Q d.y d.a1 d.a2 d.a3 d.k1 d.k2 d.k3 hy d.bd _ _ (DKp.fact (sz:=6) (row:=d.l) (x:=[_,_]) rfl)) ?_
 refine sp rfl (PE.add rfl rfl (by omega)) rfl (pur 1 rfl (Z0 ?_))
 refine Z4G (ι:=Nat×Nat) (fun x=>⟨[(0,.pointer (some ⟨d.bd,0,none⟩)),(3,.pointer (some ⟨b3,0,none⟩)),(5,.int .i64 (((d.y.cells+1):Nat):Int)),(6,.slice (some ⟨x.1,0,none⟩) (d.y.cells+1) (d.y.cells+1)),(7,.slice (some ⟨x.2,0,none⟩) (d.y.cells+1) (d.y.cells+1))],(x.1,cel 3 (Z2C (d.y.cells+1) [.int .i64 0]))::(x.2,cel 312 (Z2C (d.y.cells+1) (wyr nwy)))::(b3,cel 235 (Z6y g vf vc less))::H,R⟩) ?_ ?_
 refine Zd [0,1,0,4,3,31] (.tk 0 (.tk 2 (.any (.alt 1 (.tk 4 (.big 3 (.tk 5 .done))) (.alt 3 (.big 1 (.tk 4 (.tk 5 .done))) .stop))))) Zt (by kernel_rfl) ?_
 rw [show ((d.y.cells:Nat):Int)+1=(((d.y.cells+1):Nat):Int) by omega]
 refine Zm 2 rfl ?_
 refine ZI ?_ ?_
 refine mkS (l:=(d.y.cells+1)) (c:=(d.y.cells+1)) rfl Z37 zl3 rfl rfl (Nat.le_refl _) ⟨by omega,by omega⟩ rfl (fun b22=>?_)
 refine bgT (Zm 1 rfl ?_)
 refine mkS (l:=(d.y.cells+1)) (c:=(d.y.cells+1)) rfl Z72 Z2H rfl rfl (Nat.le_refl _) ⟨by omega,by omega⟩ rfl (fun b24=>?_)
 refine bgT (Zm 1 rfl ?_)
 exact Zu (b22,b24) (fun w h=>(h.pull b24).pull b22)
 refine ZI ?_ ?_
 refine mkS (l:=(d.y.cells+1)) (c:=(d.y.cells+1)) rfl Z72 Z2H rfl rfl (Nat.le_refl _) ⟨by omega,by omega⟩ rfl (fun b24=>?_)
 refine bgT ?_
 refine mkS (l:=(d.y.cells+1)) (c:=(d.y.cells+1)) rfl Z37 zl3 rfl rfl (Nat.le_refl _) ⟨by omega,by omega⟩ rfl (fun b22=>?_)
 refine bgT (Zm 2 rfl ?_)
 exact Zu (b22,b24) (fun w h=>(h.pull b24).pull b22)
 exact Z0f
 rintro ⟨b22,b24⟩
 dsimp only
 rw [Zik,← Z1R,show List.replicate (d.y.cells+1) (wyr nwy)=Zq (List.replicate (d.y.cells+1) nwy) by simp [Zq],← ZaO,← ZaO]
 refine sqt 3 rfl (pur 1 rfl ?_)
 refine cl rfl ZdW rfl rfl (ZdH d hy A hA _ _) ?_
 rintro _ _ _ ⟨m6,kv6,sl6,rfl,hwk,rfl,rfl⟩
 refine pur 1 rfl (sqt 1 rfl (pur 1 rfl (Z0 (Z8R (Z0 (sqt 2 rfl (pur 2 rfl (Z3 ?_))))))))
 refine Zb (ι:={x:Nat×Int×BFs // x.1<(d.y.cells+1)∧BFx (d.y.cells+1) d.y.flows A (wtl S less) x.1 0 0 none x.2.2}) (fun x=>⟨[(0,.pointer (some ⟨d.bd,0,none⟩)),(3,.pointer (some ⟨b3,0,none⟩)),(5,.int .i64 (((d.y.cells+1):Nat):Int)),(6,.slice (some ⟨b22,0,none⟩) (d.y.cells+1) (d.y.cells+1)),(7,.slice (some ⟨b24,0,none⟩) (d.y.cells+1) (d.y.cells+1)),(8,.map (some m6)),(9,.int .i64 x.1.2.1),(27,.int .i64 (((d.y.cells+1):Nat):Int)),(28,.int .i64 (x.1.1:Int))],(b22,cel 3 (Zp (fnL (x.1.2.2).p (d.y.cells+1))))::(b24,cel 312 (Zq (fnL (x.1.2.2).by_ (d.y.cells+1))).flatten)::(b3,cel 235 (Z6y g vf vc less))::H,Z7O m6 kv6 sl6 (Z16 d.y.flows A d.y.flows.length)::R⟩) (fun x=>(d.y.cells+1)-x.1.1) ⟨(0,-1,⟨fun _=>0,fun _=>nwy,fun _=>0,fun _=>0,0⟩),by dsimp only;omega,BFx.start (c0:=0) nwy⟩ ?_ (fun x=>?_)
 exact Ze idH
 obtain ⟨⟨r,a0,s0⟩,hr,hb0⟩:=x
 dsimp only at hr hb0 ⊢
 refine sqt 1 rfl (pur 1 rfl (Z0 ?_))
 refine Z1 rfl ?_ ?_<;>intro hc0
 refine Z2 (Z0 (Z3 (sqt 2 rfl (pur 2 rfl (sqt 1 rfl (pur 1 rfl (Z0 (sqt 2 rfl (pur 2 rfl (Z3 ?_))))))))))
 refine Zb (ι:={x:Nat×Option Nat×BFs // x.1≤(d.y.cells+1)∧BFx (d.y.cells+1) d.y.flows A (wtl S less) r x.1 0 x.2.1 x.2.2}) (fun x=>⟨[(0,.pointer (some ⟨d.bd,0,none⟩)),(3,.pointer (some ⟨b3,0,none⟩)),(5,.int .i64 (((d.y.cells+1):Nat):Int)),(6,.slice (some ⟨b22,0,none⟩) (d.y.cells+1) (d.y.cells+1)),(7,.slice (some ⟨b24,0,none⟩) (d.y.cells+1) (d.y.cells+1)),(8,.map (some m6)),(10,.int .i64 (r:Int)),(27,.int .i64 (((d.y.cells+1):Nat):Int)),(28,.int .i64 (r:Int)),(31,.int .i64 (((d.y.cells+1):Nat):Int)),(9,.int .i64 (atI x.1.2.1)),(32,.int .i64 (x.1.1:Int))],(b22,cel 3 (Zp (fnL (x.1.2.2).p (d.y.cells+1))))::(b24,cel 312 (Zq (fnL (x.1.2.2).by_ (d.y.cells+1))).flatten)::(b3,cel 235 (Z6y g vf vc less))::H,Z7O m6 kv6 sl6 (Z16 d.y.flows A d.y.flows.length)::R⟩) (fun x=>(d.y.cells+1)-x.1.1) ⟨(0,none,s0),Nat.zero_le _,hb0⟩ ?_ (fun x=>?_)
 exact Ze idH
 obtain ⟨⟨c,a,s⟩,hc,hbs⟩:=x
 dsimp only at hc hbs ⊢
 refine sqt 1 rfl (pur 1 rfl (Z0 ?_))
 refine Z1 rfl ?_ ?_<;>intro hc1<;>try simp only [cS] at hc1
 refine Z2 (Z0 (Z3 (sqt 2 rfl (pur 2 rfl (sqt 5 rfl (pur 2 rfl ?_))))))
 refine spK rfl rfl rfl (Z2T (b:=false) kv6 [(c:Int)] Z3y (KeyT.of Z4c Z4Q) (Z0M Z9q) rfl hwk.1 (fun w hs=>(hs.now (f:=Z7O m6 kv6 sl6 (Z16 d.y.flows A d.y.flows.length)) (by simp)).1) (hwk.2 c)) rfl ?_
 refine Sy.heap (R':=RowsA (sl6 c).1 2 (Zq ((Z16 d.y.flows A d.y.flows.length) c))::Z7O m6 kv6 sl6 (Z16 d.y.flows A d.y.flows.length)::R) (fun w h=>St.wysAt (m:=m6) (kv:=kv6) (sl:=sl6) (W:=(Z16 d.y.flows A d.y.flows.length)) h c) ?_
 generalize (sl6 c).1=a9
 generalize (sl6 c).2=c9
 refine sp rfl (PE.lenSl Z4m rfl) rfl (pur 1 rfl (Z3 ?_))
 refine Zb (ι:={x:Nat×Option Nat×BFs // x.1≤((Z16 d.y.flows A d.y.flows.length) c).length∧BFx (d.y.cells+1) d.y.flows A (wtl S less) r c x.1 x.2.1 x.2.2∧Dn d.y.flows (wtl S less) x.2.2 (((Z16 d.y.flows A d.y.flows.length) c).take x.1)}) (fun x=>⟨[(0,.pointer (some ⟨d.bd,0,none⟩)),(3,.pointer (some ⟨b3,0,none⟩)),(5,.int .i64 (((d.y.cells+1):Nat):Int)),(6,.slice (some ⟨b22,0,none⟩) (d.y.cells+1) (d.y.cells+1)),(7,.slice (some ⟨b24,0,none⟩) (d.y.cells+1) (d.y.cells+1)),(8,.map (some m6)),(10,.int .i64 (r:Int)),(27,.int .i64 (((d.y.cells+1):Nat):Int)),(28,.int .i64 (r:Int)),(31,.int .i64 (((d.y.cells+1):Nat):Int)),(11,.int .i64 (c:Int)),(32,.int .i64 (c:Int)),(37,.slice a9 ((Z16 d.y.flows A d.y.flows.length) c).length c9),(38,.int .i64 (((Z16 d.y.flows A d.y.flows.length) c).length:Int)),(9,.int .i64 (atI x.1.2.1)),(39,.int .i64 (x.1.1:Int))],(b22,cel 3 (Zp (fnL (x.1.2.2).p (d.y.cells+1))))::(b24,cel 312 (Zq (fnL (x.1.2.2).by_ (d.y.cells+1))).flatten)::(b3,cel 235 (Z6y g vf vc less))::H,RowsA a9 2 (Zq ((Z16 d.y.flows A d.y.flows.length) c))::Z7O m6 kv6 sl6 (Z16 d.y.flows A d.y.flows.length)::R⟩) (fun x=>((Z16 d.y.flows A d.y.flows.length) c).length-x.1.1) ⟨(0,a,s),Nat.zero_le _,hbs,fun v h=>by cases h⟩ ?_ (fun x=>?_)
 exact Ze idH
 obtain ⟨⟨j,a1,s1⟩,hj,hb1,hdn⟩:=x
 dsimp only at hj hb1 hdn ⊢
 refine sqt 1 rfl (pur 1 rfl (Z0 ?_))
 refine Z1 rfl ?_ ?_<;>intro hc2<;>try simp only [cS] at hc2
 obtain ⟨w9,hw9⟩:∃ x,((Z16 d.y.flows A d.y.flows.length) c)[j]?=some x:=⟨_,List.getElem?_eq_getElem (by omega)⟩
 have hwl:=Z2l d.y.flows A c d.y.flows.length
 obtain ⟨hwo,hwf⟩:=(Z4L (fun g hg=>(Z0c hy g hg).1)).1 (List.mem_of_getElem? hw9)
 have htk:((Z16 d.y.flows A d.y.flows.length) c).take (j+1)=((Z16 d.y.flows A d.y.flows.length) c).take j++[w9]:=by rw [List.take_add_one,hw9];rfl
 obtain ⟨hwi,hw1,hwn1,hwn2⟩:=hwo
 have hfne:w9.fr d.y.flows≠w9.to d.y.flows:=by
   have:=(Z0c hy _ (List.mem_of_getElem? (Z3w hwi))).2
   unfold Wy.fr Wy.to
   cases w9.more<;>simp only [cond_true,cond_false]<;>omega
 have hpc:=hb1.pn c
 have hpt:=hb1.pn (w9.to d.y.flows)
 have hnb:=hb1.nb
 have hgb:=Zk7 S less w9
 refine Zi (a:=a9) (sz:=2) (rows:=Zq ((Z16 d.y.flows A d.y.flows.length) c)) (ZK (Z1L hw9)) (fun bp op he=>?_)
 subst he
 refine Z2 (Z0 (Z3 (sqt 4 rfl (sp rfl (PE.indexAddr Z4S rfl rfl (by omega) (by omega)) rfl (spL rfl rfl (lfA Z1M (Z1L hw9) rfl) rfl (alc rfl Z2H rfl (fun b13=>?_)))))))
 refine ZB (l':=wyr w9) rfl rfl rfl Z7c rfl rfl rfl rfl (nl rfl) ?_
 refine sqt 8 rfl (pur 1 rfl (spL rfl rfl (lhA (wyr w9) Z1M rfl (rest:=[]) rfl rfl) rfl ?_))
 refine clV rfl Z7Y rfl rfl (Zco d hy w9 hwi A hA _ _) ?_
 refine pur 5 rfl (Z0 ?_)
 refine Zd [0,0,3,7,0,0,48,127,0,0,768,1792,4095] (tks 0 3 (.ld 3 (.ld 4 (.ld 5 (tks 8 3 (.ld 11 (.big 6 (.tk 7 (.tk 12 .done))))))))) Zt (by kernel_rfl) ?_
 refine Zm 2 rfl (tk rfl (PE.indexAddr Z0G rfl rfl (by omega) (by omega)) rfl (ld rfl rfl (lh sc3 rfl (by rw [Z0u (V:=fnL (s1).p (d.y.cells+1)) (k:=c) (by rw [Z0s];omega) (by show 0+((c:Nat):Int).toNat*1=_;omega),Z55 (by omega)])) rfl (ld rfl rfl (lhA (Z6y g vf vc less) Zes rfl (rest:=[]) rfl rfl) rfl (ld rfl rfl (lhA (wyr w9) Z1M rfl (rest:=[]) rfl rfl) rfl (Zm 2 rfl (tk rfl (PE.indexAddr Z0G rfl rfl (by omega) (by omega)) rfl (ld rfl rfl (lh sc3 rfl (by rw [Z0u (V:=fnL (s1).p (d.y.cells+1)) (k:=w9.to d.y.flows) (by rw [Z0s];omega) (by show 0+((w9.to d.y.flows:Nat):Int).toNat*1=_;omega),Z55 (by omega)])) rfl ?_)))))))
 refine clV rfl ZdX rfl rfl (Zag g vf vc S less G hcal hg w9 _ _) ?_
 refine bg (fun w hs=>⟨(lh sc3 rfl (by rw [Z0u (V:=fnL (s1).p (d.y.cells+1)) (k:=w9.to d.y.flows) (by rw [Z0s];omega) (by show 0+((w9.to d.y.flows:Nat):Int).toNat*1=_;omega),Z55 (by omega)])) w hs,trivial,trivial,(lh sc3 rfl (by rw [Z0u (V:=fnL (s1).p (d.y.cells+1)) (k:=c) (by rw [Z0s];omega) (by show 0+((c:Nat):Int).toNat*1=_;omega),Z55 (by omega)])) w hs,trivial⟩) ?_
 refine tk rfl (PE.add rfl rfl (by omega)) rfl (Zm 1 rfl ?_)
 refine Z1 rfl ?_ ?_<;>intro hc3<;>try simp only [cS] at hc3
 refine Z0 ?_
 refine Zd [0,0,0,0,0,0,48,112,0,0,768,2032,0,0,4083,20467,57343,122879,262143] (tks 0 7 (.ld 7 (.ld 8 (.ld 9 (.ld 12 (.tk 13 (.big 10 (.tk 11 (.tk 14 (.big 15 (.tk 16 (.big 17 (.tk 18 .done))))))))))))) Zt (by kernel_rfl) ?_
 refine Zm 6 rfl (tk rfl (PE.indexAddr Z0G rfl rfl (by omega) (by omega)) rfl (ld rfl rfl (lh sc3 rfl (by rw [Z0u (V:=fnL (s1).p (d.y.cells+1)) (k:=c) (by rw [Z0s];omega) (by show 0+((c:Nat):Int).toNat*1=_;omega),Z55 (by omega)])) rfl (ld rfl rfl (lhA (Z6y g vf vc less) Zes rfl (rest:=[]) rfl rfl) rfl (ld rfl rfl (lhA (wyr w9) Z1M rfl (rest:=[]) rfl rfl) rfl (ld rfl rfl (lhA (wyr w9) Z1M rfl (rest:=[]) rfl rfl) rfl (Zm 1 rfl ?_))))))
 refine clV rfl ZdX rfl rfl (Zag g vf vc S less G hcal hg w9 _ _) ?_
 refine bg (fun w hs=>⟨(lhA (wyr w9) Z1M rfl (rest:=[]) rfl rfl) w hs,trivial,trivial,(lh sc3 rfl (by rw [Z0u (V:=fnL (s1).p (d.y.cells+1)) (k:=c) (by rw [Z0s];omega) (by show 0+((c:Nat):Int).toNat*1=_;omega),Z55 (by omega)])) w hs,trivial⟩) ?_
 refine tk rfl (PE.add rfl rfl (by omega)) rfl (tk rfl (PE.indexAddr Z0G rfl rfl (by omega) (by omega)) rfl ?_)
 refine ZB (l':=Zp ((fnL s1.p (d.y.cells+1)).set (w9.to d.y.flows) (s1.p c+w9.g (wtl S less)))) rfl rfl rfl cn3 rfl rfl rfl (Z7m (k:=w9.to d.y.flows) (by rw [Z0s];omega) (by show 0+((w9.to d.y.flows:Nat):Int).toNat*1=_;omega)) (by rw [Zj,Z0s];show 0+((w9.to d.y.flows:Nat):Int).toNat*1+1≤_;omega) ?_
 refine bg (fun w hs=>⟨(lhA (wyr w9) Z1M rfl (rest:=[]) rfl rfl) w hs,trivial,trivial⟩) ?_
 refine tk rfl (PE.indexAddr Z4S rfl rfl (by omega) (by omega)) rfl ?_
 refine ZB (l':=(Zq ((fnL s1.by_ (d.y.cells+1)).set (w9.to d.y.flows) w9)).flatten) rfl rfl rfl Z7c rfl rfl rfl (by
   show spl (Zq (fnL s1.by_ (d.y.cells+1))).flatten (0+((w9.to d.y.flows:Nat):Int).toNat*2) (wyr w9)=_
   rw [Z8K (sz:=2) (k:=w9.to d.y.flows) rfl (Z26 _) (by rw [List.length_map,Z0s];omega) (by omega),Zq,Zq,List.map_set]) (by rw [ZfX,Z0s];show 0+((w9.to d.y.flows:Nat):Int).toNat*2+2≤_;omega) ?_
 rw [ZaP,ZaP,show upd s1.p (w9.to d.y.flows) (s1.p c+w9.g (wtl S less))=(s1.put d.y.flows (wtl S less) r w9).p by rw [← hwf];rfl,show upd s1.by_ (w9.to d.y.flows) w9=(s1.put d.y.flows (wtl S less) r w9).by_ from rfl]
 refine bgT (Zm 1 rfl (sqt 4 rfl (pur 2 rfl (sp rfl (PE.sub rfl rfl (by omega)) rfl (pur 1 rfl ?_)))))
 refine Z1 rfl ?_ ?_<;>intro hc4<;>try simp only [cS] at hc4
 have hr1:r+1=(d.y.cells+1):=by omega
 have hbf:=hb1.bfi.put ⟨hwi,hw1,hwn1,hwn2⟩ hwf hfne (by rw [hwf];omega)
 have hrk:(s1.put d.y.flows (wtl S less) r w9).rk (w9.to d.y.flows)=(d.y.cells+1):=(BFx.put_rk (n:=(d.y.cells+1)) w9).trans hr1
 obtain ⟨m9,hm0,hmn,hma,hmf,hmw,hmd,hmc,hmo⟩:=hbf.found hwn2 hrk
 obtain ⟨_,_,_,hlt⟩:=hbf.circle hwn2 hrk
 generalize (s1.put d.y.flows (wtl S less) r w9)=s2 at hbf hrk hma hmf hmw hmd hmc hmo hlt ⊢
 generalize w9.to d.y.flows=e9 at hwn2 hrk hma hmf hmw hmd hmc hmo hlt ⊢
 refine Sy.heap (H':=(b22,cel 3 (Zp (fnL (s2).p (d.y.cells+1))))::(b24,cel 312 (Zq (fnL (s2).by_ (d.y.cells+1))).flatten)::(b3,cel 235 (Z6y g vf vc less))::H) (R':=R) (fun w h=>(h.del b13).ftail.ftail) ?_
 refine Z9 (Z05 (by decide) (Za (Za (Z05 (by decide) (Z05 (by decide) (Za (Za (Z05 (by decide) (Za (Z05 (by decide) (Za (Za (Zh (Z0 (sqt 2 rfl ?_)))))))))))))))
 refine pur 2 rfl (Z3 ?_)
 refine Zb (ι:={k:Nat // k≤(d.y.cells+1)}) (fun k=>⟨[(0,.pointer (some ⟨d.bd,0,none⟩)),(3,.pointer (some ⟨b3,0,none⟩)),(5,.int .i64 (((d.y.cells+1):Nat):Int)),(6,.slice (some ⟨b22,0,none⟩) (d.y.cells+1) (d.y.cells+1)),(7,.slice (some ⟨b24,0,none⟩) (d.y.cells+1) (d.y.cells+1)),(9,.int .i64 (s2.at_ d.y.flows k.1 e9:Int)),(87,.int .i64 (((d.y.cells+1):Nat):Int)),(88,.int .i64 (k.1:Int))],(b22,cel 3 (Zp (fnL (s2).p (d.y.cells+1))))::(b24,cel 312 (Zq (fnL (s2).by_ (d.y.cells+1))).flatten)::(b3,cel 235 (Z6y g vf vc less))::H,R⟩) (fun k=>(d.y.cells+1)-k.1) ⟨0,Nat.zero_le _⟩ ?_ (fun k=>?_)
 exact Ze idH
 obtain ⟨k,hk⟩:=k
 dsimp only at hk ⊢
 refine sqt 1 rfl (pur 1 rfl (Z0 ?_))
 refine Z1 rfl ?_ ?_<;>intro hc6<;>try simp only [cS] at hc6
 obtain ⟨hq1,hq2⟩:=hlt k
 have hqo:=(hbf.way _ hq1).1
 refine Z2 (Z0 (Z3 (sqr 7 rfl (pur 3 rfl (sp rfl (PE.indexAddr Z4S rfl rfl (by omega) (by omega)) rfl (spL rfl rfl (lhA (rest:=((Zq (fnL (s2).by_ (d.y.cells+1))).drop (s2.at_ d.y.flows k e9+1)).flatten) (wyr ((s2).by_ (s2.at_ d.y.flows k e9))) Z1M rfl (by rw [show 0+((s2.at_ d.y.flows k e9:Nat):Int).toNat*2=(s2.at_ d.y.flows k e9)*2 by omega];exact Z1n (Z26 _) (Z1L (Z1z (by omega)))) rfl) rfl ?_))))))
 refine clV rfl Z82 rfl rfl (Z5k d (s2.by_ (s2.at_ d.y.flows k e9)) hqo.1 _ _) ?_
 refine pur 1 rfl (sqr 2 rfl (sp rfl (PE.add rfl rfl (by omega)) rfl (pur 1 rfl ?_)))
 rw [← Z73]
 exact Z7 ⟨k+1,by omega⟩ idH
 obtain rfl:k=(d.y.cells+1):=by omega
 generalize hg9:s2.at_ d.y.flows (d.y.cells+1) e9=g9 at hma hmf hmw hmd hmc hmo ⊢
 have hlt2:∀ m,0<s2.rk (s2.at_ d.y.flows m g9)∧s2.at_ d.y.flows m g9<(d.y.cells+1):=fun m=>by rw [← hg9,← s2.at_add];exact hlt _
 refine Z9 (Za (Za (Zh (sqt 1 rfl (pur 1 rfl (Z0 (sqt 2 rfl (pur 2 rfl (Z3 ?_)))))))))
 refine Zb (ι:=(k:{k:Nat // k≤m9})×OSl 312 2 (Zq (s2.path d.y.flows k.1 g9))) (fun x=>⟨[(0,.pointer (some ⟨d.bd,0,none⟩)),(3,.pointer (some ⟨b3,0,none⟩)),(5,.int .i64 (((d.y.cells+1):Nat):Int)),(6,.slice (some ⟨b22,0,none⟩) (d.y.cells+1) (d.y.cells+1)),(7,.slice (some ⟨b24,0,none⟩) (d.y.cells+1) (d.y.cells+1)),(9,.int .i64 (g9:Int)),(16,x.2.fs),(17,.int .i64 (s2.at_ d.y.flows x.1.1 g9:Int))],x.2.G++(b22,cel 3 (Zp (fnL (s2).p (d.y.cells+1))))::(b24,cel 312 (Zq (fnL (s2).by_ (d.y.cells+1))).flatten)::(b3,cel 235 (Z6y g vf vc less))::H,R⟩) (fun x=>m9-x.1.1) ⟨⟨0,Nat.zero_le _⟩,OSl.nil _ _⟩ ?_ (fun x=>?_)
 exact Ze idH
 obtain ⟨⟨k,hk⟩,o⟩:=x
 dsimp only at hk o ⊢
 obtain ⟨hq1,hq2⟩:=hlt2 k
 have hqo:=(hbf.way _ hq1).1
 have hpl:=Z8D d.y.flows s2 k g9
 obtain ⟨oa,oc,hoe,hof⟩:=o.freeze
 rw [show (Zq (s2.path d.y.flows k g9)).length=k by rw [List.length_map,hpl]] at hoe
 refine Z0 (sqt 8 rfl (pur 1 rfl (sp rfl (PE.lenSl Z4m (congrArg some hoe)) rfl (pur 2 rfl ?_))))
 refine Zw 101 rfl ?_ ?_<;>intro g101
 try simp only [cS] at g101
 have hkm:k<m9:=by omega
 refine pur 4 rfl ?_
 refine Z0S rfl ?_
 refine Z2 (Z0 (Z3 (sqr 8 rfl (pur 3 rfl (sp rfl (PE.indexAddr Z4S rfl rfl (by omega) (by omega)) rfl (spL rfl rfl (lhA (rest:=((Zq (fnL (s2).by_ (d.y.cells+1))).drop (s2.at_ d.y.flows k g9+1)).flatten) (wyr ((s2).by_ (s2.at_ d.y.flows k g9))) Z1M rfl (by rw [show 0+((s2.at_ d.y.flows k g9:Nat):Int).toNat*2=(s2.at_ d.y.flows k g9)*2 by omega];exact Z1n (Z26 _) (Z1L (Z1z (by omega)))) rfl) rfl ?_))))))
 refine bsl (out:=[_,_]) rfl ZbB Z2H rfl rfl rfl rfl rfl rfl (fun b117=>?_)
 refine apO (o) rfl Z72 rfl rfl (ZU (row:=wyr (s2.by_ (s2.at_ d.y.flows k g9))) rfl) rfl rfl ((by simp only [List.length_map,hpl,List.length_cons,List.length_nil];omega)) rfl (fun o118=>?_)
 refine pur 1 rfl (sqr 7 rfl (pur 3 rfl (sp rfl (PE.indexAddr Z4S rfl rfl (by omega) (by omega)) rfl (spL rfl rfl (lhA (rest:=((Zq (fnL (s2).by_ (d.y.cells+1))).drop (s2.at_ d.y.flows k g9+1)).flatten) (wyr ((s2).by_ (s2.at_ d.y.flows k g9))) Z1M rfl (by rw [show 0+((s2.at_ d.y.flows k g9:Nat):Int).toNat*2=(s2.at_ d.y.flows k g9)*2 by omega];exact Z1n (Z26 _) (Z1L (Z1z (by omega)))) rfl) rfl ?_))))
 refine clV rfl Z82 rfl rfl (Z5k d (s2.by_ (s2.at_ d.y.flows k g9)) hqo.1 _ _) ?_
 refine pur 1 rfl ?_
 rw [← Z73]
 exact Z7 ⟨⟨k+1,hkm⟩,o118.cast (by rw [Z4t];simp [Zq])⟩ (fun w h=>h.del b117)
 try simp only [cS] at g101
 refine pur 4 rfl ?_
 refine Z1 rfl ?_ ?_<;>intro hc7<;>try simp only [cS] at hc7
 have hkm:k<m9:=by
   by_cases e:k=m9
   · rw [e,hma] at hc7;exact absurd rfl hc7
   · omega
 refine Z2 (Z0 (Z3 (sqr 8 rfl (pur 3 rfl (sp rfl (PE.indexAddr Z4S rfl rfl (by omega) (by omega)) rfl (spL rfl rfl (lhA (rest:=((Zq (fnL (s2).by_ (d.y.cells+1))).drop (s2.at_ d.y.flows k g9+1)).flatten) (wyr ((s2).by_ (s2.at_ d.y.flows k g9))) Z1M rfl (by rw [show 0+((s2.at_ d.y.flows k g9:Nat):Int).toNat*2=(s2.at_ d.y.flows k g9)*2 by omega];exact Z1n (Z26 _) (Z1L (Z1z (by omega)))) rfl) rfl ?_))))))
 refine bsl (out:=[_,_]) rfl ZbB Z2H rfl rfl rfl rfl rfl rfl (fun b117=>?_)
 refine apO (o) rfl Z72 rfl rfl (ZU (row:=wyr (s2.by_ (s2.at_ d.y.flows k g9))) rfl) rfl rfl ((by simp only [List.length_map,hpl,List.length_cons,List.length_nil];omega)) rfl (fun o118=>?_)
 refine pur 1 rfl (sqr 7 rfl (pur 3 rfl (sp rfl (PE.indexAddr Z4S rfl rfl (by omega) (by omega)) rfl (spL rfl rfl (lhA (rest:=((Zq (fnL (s2).by_ (d.y.cells+1))).drop (s2.at_ d.y.flows k g9+1)).flatten) (wyr ((s2).by_ (s2.at_ d.y.flows k g9))) Z1M rfl (by rw [show 0+((s2.at_ d.y.flows k g9:Nat):Int).toNat*2=(s2.at_ d.y.flows k g9)*2 by omega];exact Z1n (Z26 _) (Z1L (Z1z (by omega)))) rfl) rfl ?_))))
 refine clV rfl Z82 rfl rfl (Z5k d (s2.by_ (s2.at_ d.y.flows k g9)) hqo.1 _ _) ?_
 refine pur 1 rfl ?_
 rw [← Z73]
 exact Z7 ⟨⟨k+1,hkm⟩,o118.cast (by rw [Z4t];simp [Zq])⟩ (fun w h=>h.del b117)
 obtain rfl:k=m9:=by
   by_cases e:k=m9
   · exact e
   · exact absurd (show s2.at_ d.y.flows k g9=g9 by omega) (hmf k (by omega) (by omega))
 obtain ⟨pb,pc,jj,e1,e2⟩:=OSl.ne o (ne0 (by rw [List.length_map,hpl];omega))
 rw [show (Zq (s2.path d.y.flows k g9)).length=(s2.path d.y.flows k g9).length from List.length_map _] at e1
 rw [e1,e2]
 refine Z9 (Za (Za (Zh (sqt 2 rfl (pur 2 rfl (Z5 ?_))))))
 exact rtA rfl rfl rfl (.inr ⟨_,pb,pc,g9,rfl,rfl,rfl,⟨ne0 (by rw [hpl];omega),by rw [hpl];exact hmn⟩,hmw,hmd,hmc,hmo⟩) (fun w h=>St.rows (rest:=jj) (show St ((pb,cel 312 ((Zq (s2.path d.y.flows k g9)).flatten++jj))::H) R w from (St.del b3 (St.del b24 (St.del b22 (show St ((pb,cel 312 ((Zq (s2.path d.y.flows k g9)).flatten++jj))::(b22,cel 3 (Zp (fnL (s2).p (d.y.cells+1))))::(b24,cel 312 (Zq (fnL (s2).by_ (d.y.cells+1))).flatten)::(b3,cel 235 (Z6y g vf vc less))::H) R w from h))))) (Z26 _))
 refine Z2 (sqr 2 rfl (sp rfl (PE.add rfl rfl (by omega)) rfl (pur 1 rfl ?_)))
 exact Z7 ⟨(j+1,some (w9.to d.y.flows),s1.put d.y.flows (wtl S less) r w9),by dsimp only;omega,hb1.put ⟨hwi,hw1,hwn1,hwn2⟩ hwf hfne (by rw [hwf];omega) hgb (by omega),by dsimp only;rw [htk];exact hdn.put (fun v hv=>((Z4L (fun g hg=>(Z0c hy g hg).1)).1 (List.mem_of_mem_take hv)).2) hwf hfne (by rw [hwf];omega)⟩ (fun w h=>h.del b13)
 refine Z2 (sqr 2 rfl (sp rfl (PE.add rfl rfl (by omega)) rfl (pur 1 rfl ?_)))
 exact Z7 ⟨(j+1,a1,s1),by dsimp only;omega,hb1.j,by dsimp only;rw [htk];exact hdn.snoc (by rw [hwf];omega)⟩ (fun w h=>h.del b13)
 obtain rfl:j=((Z16 d.y.flows A d.y.flows.length) c).length:=by omega
 rw [List.take_length] at hdn
 have hwl:=Z2l d.y.flows A c d.y.flows.length
 refine Z9 (Za (Za (Zh (sqr 2 rfl (sp rfl (PE.add rfl rfl (by omega)) rfl (pur 1 rfl ?_))))))
 exact Z7 ⟨(c+1,a1,s1),by dsimp only;omega,hb1.next (by omega) (fun v h1 h2=>by rw [← h2];exact hdn v ((Z4L (fun g hg=>(Z0c hy g hg).1)).2 ⟨h1,h2⟩))⟩ (fun w h=>h.ftail)
 obtain rfl:c=(d.y.cells+1):=by omega
 refine Z9 (Za (Za (Zh (sqt 2 rfl (pur 2 rfl ?_)))))
 refine Z1 rfl ?_ ?_<;>intro hc5<;>try simp only [cS] at hc5
 obtain rfl:a=none:=by
   cases a with
   | none=>rfl
   | some q=>simp only [atI] at hc5;omega
 refine sqt 1 rfl (pur 1 rfl (Z5 ?_))
 exact rtA rfl rfl rfl (.inl ⟨rfl,rfl,rfl,fun B hB=>hbs.bfi.best (fun c _=>hbs.non rfl c) (fun g hg=>(Z0c hy g hg).1) hf hB⟩) (fun w h=>(((h.del b22).del b24).del b3).ftail)
 have hsome:r+1<(d.y.cells+1):=hbs.som (fun e=>by rw [e] at hc5;simp [atI] at hc5)
 refine Z2 (sqr 2 rfl (sp rfl (PE.add rfl rfl (by omega)) rfl (pur 1 rfl ?_)))
 exact Z7 ⟨(r+1,atI a,s),by dsimp only;omega,hbs.round (by omega)⟩ idH
 exact absurd hc0 (by simp;omega)
end Go.Proofs.YtcfdanhklbklkaaGreat.Sk
