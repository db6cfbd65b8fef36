/- Walks of the functions of the program, and the laws that join them: what the last theorem of this claim needs, in order. -/
import Derived.Test.YthijcgkicjljhaaGreatTw2
namespace Go.Proofs.YthijcgkicjljhaaGreat.Hn
set_option linter.unusedSimpArgs false
set_option linter.unusedVariables false
open Go
theorem Ziq:apT Tryz.prog 184=some (226,2,16):=by kernel_rfl
theorem Zir:apT Tryz.prog 232=some (238,4,32):=by kernel_rfl
theorem Zf2:arE Tryz.prog 230=some (8,4):=by kernel_rfl
theorem ZfE:cal Tryz.prog 134=true:=by kernel_rfl
theorem ZfF:cal Tryz.prog 136=true:=by kernel_rfl
theorem ZfG:cal Tryz.prog 138=true:=by kernel_rfl
theorem Zjm:ZB Tryz.prog 232=some 1:=by kernel_rfl
theorem ZgW:ZB Tryz.prog 238=some 4:=by kernel_rfl
theorem Z3X:elN Tryz.prog 232=some 4:=by kernel_rfl
theorem Zhc:Tryz.prog.eqGuardType Tryz.prog.depth 226=false:=by kernel_rfl
theorem Zhd:Tryz.prog.eqGuardType Tryz.prog.depth 230=false:=by kernel_rfl
theorem Z4O:ZT Tryz.prog 238 0=some 0:=by kernel_rfl
theorem Z9Q:ZT Tryz.prog 238 1=some 1:=by kernel_rfl
theorem Z9R:ZT Tryz.prog 238 2=some 3:=by kernel_rfl
theorem ZcC:Z2n Tryz.prog 232=true:=by kernel_rfl
theorem ZhG:ZL Tryz.prog 238=some [(0,1),(1,2),(3,1)]:=by kernel_rfl
theorem Z2D:Z0g Tryz.prog 232=true:=by kernel_rfl
theorem ZjU:slE Tryz.prog 184=some (226,2):=by kernel_rfl
theorem ub4:Tryz.prog.underlying 4=some .bool:=by kernel_rfl
theorem Zk4:Zw Tryz.prog 232=some ([.slice none 0 0]):=by kernel_rfl
theorem ZeH:Zw Tryz.prog 238=some ([.int .i64 0,.int .i64 0,.int .i64 0,.int .i64 0]):=by kernel_rfl
theorem zl3:Zw Tryz.prog 3=some ([.int .i64 0]):=by kernel_rfl
structure Pln where
 sum:Int
 fr:Int
 to:Int
 rest:Int
def Z83 (p:Pln):List Value:=[.int .i64 p.sum,.int .i64 p.fr,.int .i64 p.to,.int .i64 p.rest]
def Z01 (l:List Pln):List (List Value):=l.map Z83
theorem ZcL (l:List Pln):(Z01 l).length=l.length:=List.length_map _
theorem Z4T (l:List Pln):∀ r∈Z01 l,r.length=4:=fun r hr=>by obtain ⟨x,_,rfl⟩:=List.mem_map.1 hr;rfl
theorem ZcK {l:List Pln} {k:Nat} {x:Pln} (h:l[k]?=some x):(Z01 l)[k]?=some (Z83 x):=by simp [Z01,h]
theorem Zac (l:List Pln):(Z01 l).flatten.length=l.length*4:=by rw [ZH (Z4T l),ZcL]
theorem Z1T {l:List Pln} {k j n:Nat} {x:Pln} {v:Value} (h:l[k]?=some x) (hv:(Z83 x)[j]?=some v) (hn:n=k*4+j):(Z01 l).flatten[n]?=some v:=by
 subst hn;exact Z1B (Z4T l) (ZcK h) hv
theorem ZcM {l:List Pln} {k i:Nat} {x:Pln} (hk:k<l.length) (e:i=k*4):spl (Z01 l).flatten i (Z83 x)=(Z01 (l.set k x)).flatten:=by
 have h:=Z48 (rows:=Z01 l) (Z4T l) (k:=k) (i:=i) (row:=Z83 x) (by rw [ZcL];exact hk) rfl e []
 rw [List.append_nil,List.append_nil] at h
 rw [h];simp [Z01,List.map_set]
theorem Zeb {l:List Pln} {k n:Nat} {x:Pln} (h:l[k]?=some x) (hn:n=k*4+1):∃ rest,(Z01 l).flatten.drop n=[.int .i64 x.fr,.int .i64 x.to]++rest:=by
 obtain ⟨rest,hr⟩:=Z2v (Z4T l) (ZcK h) []
 rw [List.append_nil] at hr
 subst hn
 refine ⟨.int .i64 x.rest::rest,?_⟩
 rw [← List.drop_drop,hr];rfl
theorem Zec (n:Nat):Z1U n [Value.int .i64 0,.int .i64 0,.int .i64 0,.int .i64 0]=(Z01 (List.replicate n ⟨0,0,0,0⟩)).flatten:=by
 rw [← Z0S];simp [Z01,Z83]
def Z84 (w:Wt) (S e:Nat) (tb:List Int) (k:Nat):Int:=((Z1D w.counts.length).take k).foldl (w.try1 S e tb) (na0 tb (e-1))
theorem Z5W {w:Wt} {S e:Nat} {tb:List Int} {k:Nat} {s:Nat×Nat} (h:(Z1D w.counts.length)[k]?=some s):Z84 w S e tb (k+1)=w.try1 S e tb (Z84 w S e tb k) s:=by unfold Z84;rw [List.take_add_one,h,List.foldl_append];rfl
theorem Z7u (w:Wt) (S e:Nat) (tb:List Int) (h:w.own S (e-1)=true):Z84 w S e tb (Z1D w.counts.length).length=w.prvN S e tb:=by unfold Z84 Wt.prvN;rw [List.take_length,h];rfl
theorem Z2e (w:Wt) (S:Nat):∀ e,(w.prvT S e).length=e+1
 | 0=>rfl
 | e+1=>by simp [Wt.prvT,Z2e w S e]
theorem Z4V (w:Wt) (S:Nat) {e i:Nat} (h:i≤e):na0 (w.prvT S (e+1)) i=na0 (w.prvT S e) i:=by
 unfold na0
 rw [List.getD_eq_getElem?_getD,List.getD_eq_getElem?_getD]
 show ((w.prvT S e++_)[i]?).getD 0=_
 rw [List.getElem?_append_left (by rw [Z2e];omega)]
theorem Z4U (w:Wt) (S e:Nat):na0 (w.prvT S (e+1)) (e+1)=w.prvN S (e+1) (w.prvT S e):=by
 unfold na0
 rw [List.getD_eq_getElem?_getD]
 show ((w.prvT S e++_)[e+1]?).getD 0=_
 rw [List.getElem?_append_right (by rw [Z2e];omega),Z2e];simp
theorem ZeB {w:Wt} (hw:w.ok) {S e:Nat} {tb:List Int} (htb:∀ i,i<e→0≤na0 tb i∧na0 tb i≤18000*(i:Int)) {f t:Nat} (hft:f<t) (ht:t<w.counts.length) {b:Int} (hb:0≤b∧b≤18000*(e:Int)):0≤w.try1 S e tb b (f,t)∧w.try1 S e tb b (f,t)≤18000*(e:Int):=by
 have hn:=hw.nc
 unfold Wt.try1
 cases hg:w.good S e (f,t) with
 | false=>simpa using hb
 | true =>
   simp only [Wt.good,Bool.and_eq_true,decide_eq_true_eq] at hg
   have h1:=Z9B (w.own S) (f:=f) (t:=t) (by omega) (by omega)
   have h2:=Zcz hw hft ht
   have h3:=h1.2.2.2 (by omega)
   have h4:=htb (Z3Y (w.own S) f t).1 (by omega)
   simp only [Bool.true_and]
   cases hc:decide (b<na0 tb (Z3Y (w.own S) f t).1+w.gap f t) with
   | false=>simpa using hb
   | true=>simp only [cond_true];simp only [decide_eq_true_eq] at hc;omega
theorem Z6O {w:Wt} (hw:w.ok) {S e:Nat} (he:1≤e) {tb:List Int} (htb:∀ i,i<e→0≤na0 tb i∧na0 tb i≤18000*(i:Int)):∀ k,0≤Z84 w S e tb k∧Z84 w S e tb k≤18000*(e:Int)
 | 0=>by have:=htb (e-1) (by omega);simp only [Z84,List.take_zero,List.foldl_nil];omega
 | k+1=>by
   have ih:=Z6O hw (S:=S) he htb k
   cases hs:(Z1D w.counts.length)[k]? with
   | none =>
     have e1:Z84 w S e tb (k+1)=Z84 w S e tb k:=by unfold Z84;rw [List.take_add_one,hs];simp
     rw [e1];exact ih
   | some s =>
     rw [Z5W hs]
     have hm:=str_mem.1 (show (s.1,s.2)∈Z1D w.counts.length from List.mem_of_getElem? hs)
     exact ZeB hw htb hm.1 hm.2 ih
theorem Zed {w:Wt} (hw:w.ok) {S e:Nat} (he:1≤e) {tb:List Int} (htb:∀ i,i<e→0≤na0 tb i∧na0 tb i≤18000*(i:Int)):0≤w.prvN S e tb∧w.prvN S e tb≤18000*(e:Int):=by
 cases h:w.own S (e-1) with
 | true=>rw [← Z7u w S e tb h];exact Z6O hw he htb _
 | false=>have:=htb (e-1) (by omega);unfold Wt.prvN;rw [h];simp only [cond_false];omega
theorem Z6N {w:Wt} (hw:w.ok) (S:Nat):∀ e i,i≤e→0≤na0 (w.prvT S e) i∧na0 (w.prvT S e) i≤18000*(i:Int)
 | 0, i, h => by obtain rfl : i = 0 := by omega
                 simp [Wt.prvT,na0]
 | e+1,i,h=>by
   rcases Nat.lt_or_ge e i with h1 | h1
   · obtain rfl:i=e+1:=by omega
     rw [Z4U];exact Zed hw (by omega) (fun j hj=>Z6N hw S e j (by omega))
   · rw [Z4V w S h1];exact Z6N hw S e i h1
structure PlI (w:Wt) (S e:Nat) (P:List Pln):Prop where
 len:P.length=w.counts.length
 at_:∀ i p,P[i]?=some p→i<e→p.sum=na0 (w.prvT S (e-1)) i∧(0<i→0≤p.rest∧p.rest<(i:Int))
theorem PlI.start {w:Wt} (S:Nat):PlI w S 1 (List.replicate w.counts.length ⟨0,0,0,0⟩):=⟨by simp,fun i p h hi=>by
 obtain rfl:i=0:=by omega
 rw [List.getElem?_replicate] at h
 split at h
 · cases h;exact ⟨rfl,fun h=>by omega⟩
 · cases h⟩
theorem PlI.next {w:Wt} {S e:Nat} {P:List Pln} (h:PlI w S e P) (he:1≤e) {p:Pln} (hp:P[e]?=some p) (hs:p.sum=w.prvN S e (w.prvT S (e-1))) (hr:0≤p.rest∧p.rest<(e:Int)):PlI w S (e+1) P:=⟨h.len,fun i q hq hi=>by
 obtain ⟨e',rfl⟩:∃ e',e=e'+1:=⟨e-1,by omega⟩
 rw [Nat.add_sub_cancel] at hs ⊢
 rcases Nat.lt_or_ge i (e'+1) with h1 | h1
 · have:=h.at_ i q hq h1
   rw [Nat.add_sub_cancel] at this
   rw [Z4V w S (by omega)];exact this
 · obtain rfl:i=e'+1:=by omega
   rw [hp] at hq;cases hq
   rw [Z4U];exact ⟨hs,fun _=>hr⟩⟩
theorem PlI.put {w:Wt} {S e:Nat} {P:List Pln} (h:PlI w S e P) (p:Pln):PlI w S e (P.set e p):=⟨by simp [h.len],fun i q hq hi=>by
 rw [List.getElem?_set,if_neg (by omega)] at hq
 exact h.at_ i q hq hi⟩
theorem Zbz {w:Wt} {S:Nat} (h:∀ i,w.own S i=false):w.prv S=0:=by
 have:∀ e i,na0 (w.prvT S e) i=0:=fun e=>by
   induction e with
   | zero=>intro i;rcases i with _ | i<;>rfl
   | succ e ih =>
     intro i
     rcases Nat.lt_or_ge e i with h1 | h1
     · rcases Nat.lt_or_ge (e+1) i with h2 | h2
       · unfold na0;rw [List.getD_eq_getElem?_getD,List.getElem?_eq_none (by rw [Z2e];omega)];rfl
       · obtain rfl:i=e+1:=by omega
         rw [Z4U];unfold Wt.prvN;rw [h];exact ih _
     · rw [Z4V w S h1];exact ih i
 exact this _ _
theorem Zbh {w:Wt} {S e f t:Nat} (hT:w.thr f t<2 ^ 6) (hS:S<2 ^ 6) (h1:(Z3Y (w.own S) f t).2+1=(e:Int)) (h2:w.thr f t&&&(18446744073709551615-S)=0) (h3:0<w.gap f t):w.good S e (f,t)=true:=by
 unfold Wt.good
 rw [decide_eq_true h1,decide_eq_true ((Z1L (by omega) (by omega)).1 h2),decide_eq_true h3];rfl
theorem Zbr {w:Wt} {S e f t:Nat} (h1:¬ (Z3Y (w.own S) f t).2+1=(e:Int)):w.good S e (f,t)=false:=by unfold Wt.good;rw [decide_eq_false h1];rfl
theorem Zbs {w:Wt} {S e f t:Nat} (hT:w.thr f t<2 ^ 6) (hS:S<2 ^ 6) (h2:¬ w.thr f t&&&(18446744073709551615-S)=0):w.good S e (f,t)=false:=by unfold Wt.good;rw [decide_eq_false (fun h=>h2 ((Z1L (by omega) (by omega)).2 h)),Bool.and_false];rfl
theorem Zbt {w:Wt} {S e f t:Nat} (h3:¬ 0<w.gap f t):w.good S e (f,t)=false:=by unfold Wt.good;rw [decide_eq_false h3,Bool.and_false]
theorem Z3N {w:Wt} {S e:Nat} {tb:List Int} {b:Int} {s:Nat×Nat} (h:w.good S e s=false):w.try1 S e tb b s=b:=by unfold Wt.try1;rw [h];rfl
theorem Zc0 {w:Wt} {S e:Nat} {tb:List Int} {b:Int} {s:Nat×Nat} (h:w.good S e s=true) (h2:b<na0 tb (Z3Y (w.own S) s.1 s.2).1+w.gap s.1 s.2):w.try1 S e tb b s=na0 tb (Z3Y (w.own S) s.1 s.2).1+w.gap s.1 s.2:=by unfold Wt.try1;rw [h,decide_eq_true h2];rfl
theorem ZaE {w:Wt} {S e:Nat} {tb:List Int} {b:Int} {s:Nat×Nat} (h2:¬ b<na0 tb (Z3Y (w.own S) s.1 s.2).1+w.gap s.1 s.2):w.try1 S e tb b s=b:=by unfold Wt.try1;rw [decide_eq_false h2,Bool.and_false];rfl
theorem ZaY (own:Nat→Bool):(ZI own=List.replicate 8 false)→∀ i,i<8→own i=false:=fun h i hi=>by
 have h1:(ZI own)[i]?=(List.replicate 8 false)[i]?:=by rw [h]
 rw [List.getElem?_replicate,if_pos hi] at h1
 simpa [ZI,hi] using h1
theorem Fn.heapP {P:Program} {f:FuncId} {a:List Value} {H H':Z7} {R:Z4} {Q:Value→Z7→Z4→Prop} (p:H.Perm H') (h:Fn P f a H' R Q):Fn P f a H R Q:=fun w hs=>h w (hs.perm p)
set_option maxHeartbeats 1000000 in
theorem Zdl (wt:Wt) (a1 a2 a3:Option Addr) (k1 k2 k3:Nat) (hw:wt.ok) (bd m:Nat) (kv:KV) (hkv:KvW wt kv) (Sx:Nat) (hSx:Sx<2 ^ 6) (H:Z7) (R:Z4) [hD:MemRows (some ⟨bd,0,none⟩) 15 [(wtl wt a1 a2 a3 k1 k2 k3++(Zj (wt.sums)++[.map (some m)]))] R] [hR1:MemRows a1 3 (crows wt.counts) R] [hK:MemF (MpF m kv) R] :
    Fn Tryz.prog 93 [.pointer (some ⟨bd,0,none⟩),.int .i64 (Sx:Nat)] H R (fun v H' R'=>∃ fs,v = .tuple #[fs,.int .i64 (wt.prv Sx)]∧H'=H∧R'=R):=by
 have hnc:=hw.nc
 refine Z1G Tryz.func93 rfl Tryz.ntmps93 rfl ?_
 refine sqt 4 rfl (bx rfl rfl rfl (fun b2=>bx rfl rfl rfl (fun b3=>pur 2 rfl (sqt 5 rfl (spL rfl rfl (lh Z2C rfl rfl) rfl (spL rfl rfl (lh sc3 rfl rfl) rfl ?_))))))
 refine clV rfl ZfE rfl rfl (Zdp wt a1 a2 a3 k1 k2 k3 hw bd m kv hkv Sx hSx _ _) ?_
 refine alc rfl Zc2 rfl (fun b6=>?_)
 refine Z03 (l':=ZC (ZI (wt.own Sx))) rfl rfl rfl ZgV rfl (by show (ZC (ZI (wt.own Sx))).length=8;simp [ZC,ZM]) (by show (ZC (ZI (wt.own Sx))).all (·.oneCell')=true;exact Z5m _) (Z7D (by show 8=(ZC (ZI (wt.own Sx))).length;simp [ZC,ZM])) (by show 0+(ZC (ZI (wt.own Sx))).length≤8;simp [ZC,ZM]) ?_
 refine Z0 (sqt 3 rfl (spL rfl rfl (lhA (ZC (ZI (wt.own Sx))) ZaQ rfl (rest:=[]) (by rw [List.append_nil];rfl) (by simp [ZC,ZM])) rfl (sp rfl (PE.zero (.inr (by rw [Z8s];rfl)) Zc2) rfl (sp rfl (PE.eqlBools (ZI (wt.own Sx)) (List.replicate 8 false) Zf2 Z8s ub4 Zhd rfl rfl (ZM _) rfl) rfl ?_))))
 refine Z2 rfl ?_ ?_<;>intro hc0
 have hno:=ZaY _ (by simpa using hc0)
 have hpz:wt.prv Sx=0:=Zbz fun i=>by
   rcases Nat.lt_or_ge i 8 with h | h
   · exact hno i h
   · unfold Wt.own;rw [dF (by omega)];rfl
 refine sqt 2 rfl (pur 2 rfl (Z5 ?_))
 exact ZF [] idH rfl (.cons (RV.tmp rfl) (.cons (RV.tmp rfl) .nil)) rfl ⟨_,by rw [hpz];rfl,rfl,rfl⟩ (fun w h=>((h.del b6).del b3).del b2)
 ·
  refine Z3 (sqt 9 rfl (spL rfl rfl (lh Z2C rfl rfl) rfl (sp rfl (PE.nilCheck rfl) rfl (sp rfl (PE.fA Z0D rfl) rfl (sp rfl (PE.fA ZN rfl) rfl (spL rfl rfl (lfB (sz:=15) Z02 rfl) rfl (sp rfl (PE.lenSl Z0p rfl) rfl ?_)))))))
  refine mkS rfl Zir ZeH rfl rfl (Nat.le_refl _) ⟨by omega,by omega⟩ rfl (fun b28=>?_)
  rw [Zec]
  refine alc rfl Zk4 rfl (fun b7=>?_)
  refine Z03 (l':=[.slice (some ⟨b28,0,none⟩) wt.counts.length wt.counts.length]) rfl rfl rfl Zjm rfl rfl rfl rfl (nl rfl) ?_
  refine Z0 (sqt 2 rfl (alc rfl zl3 rfl (fun b8=>?_)))
  refine sto rfl rfl rfl cn3 rfl rfl rfl rfl ?_
  refine Z1 ?_
  refine Z59 (ι:={x:Nat×List Pln×Nat×List Nat // 1≤x.1∧x.1≤wt.counts.length∧PlI wt Sx x.1 x.2.1}) (fun x=>⟨[(2,.pointer (some ⟨b2,0,none⟩)),(3,.pointer (some ⟨b3,0,none⟩)),(6,.pointer (some ⟨b6,0,none⟩)),(7,.pointer (some ⟨b7,0,none⟩)),(8,.pointer (some ⟨x.1.2.2.1,0,none⟩))],mks x.1.2.2.2,mkh x.1.2.2.2++(x.1.2.2.1,cel 3 [.int .i64 (x.1.1:Nat)])::(b28,cel 238 (Z01 x.1.2.1).flatten)::(b7,cel 232 [.slice (some ⟨b28,0,none⟩) wt.counts.length wt.counts.length])::(b6,cel 230 (ZC (ZI (wt.own Sx))))::(b3,cel 3 [.int .i64 (Sx:Nat)])::(b2,cel 181 [.pointer (some ⟨bd,0,none⟩)])::H,R⟩) (fun x=>wt.counts.length-x.1.1) ⟨(1,_,b8,[]),Nat.le_refl _,hnc.1,PlI.start Sx⟩ ?_ (fun x=>?_)
  exact Zav sbA rfl (fun w h=>(h.pull b28).pull b8)
  ·
   obtain ⟨⟨e,P,b8,ms⟩,he1,he2,hP⟩:=x
   dsimp only at he1 he2 hP ⊢
   have hPl:=hP.len
   have htb:∀ i,i<e→0≤na0 (wt.prvT Sx (e-1)) i∧na0 (wt.prvT Sx (e-1)) i≤18000*(i:Int):=fun i hi=>Z6N hw Sx (e-1) i (by omega)
   refine Z0 (Z0 ?_)
   refine Zd [0,0,2,6,14,30,62,127] (.ld 0 (.ld 1 (tks 2 3 (.ld 5 (.tk 6 (.tk 7 .done)))))) Zq (by kernel_rfl) ?_
   refine ld rfl rfl (lh sc3 rfl rfl) rfl (ld rfl rfl (lh Z2C rfl rfl) rfl (tk rfl (PE.nilCheck rfl) rfl (tk rfl (PE.fA Z0D rfl) rfl (tk rfl (PE.fA ZN rfl) rfl (ld rfl rfl (lfB (sz:=15) Z02 rfl) rfl (tk rfl (PE.lenSl Z0p rfl) rfl (Zm 1 rfl ?_)))))))
   refine Z2 rfl ?_ ?_<;>intro hc1<;>try simp only [cS] at hc1
   ·
    obtain ⟨p0,hp0⟩:∃ p,P[e-1]?=some p:=⟨_,List.getElem?_eq_getElem (by omega)⟩
    have hp0s:=hP.at_ _ _ hp0 (by omega)
    have hb0:=htb (e-1) (by omega)
    refine Z3 (Z0 (Z1 (Z0 ?_)))
    refine Zd [0,0,0,0,8,28,60,124,0,256,1020,2047,4095] (.ld 0 (.ld 1 (.ld 2 (.ld 3 (tks 4 3 (.ld 7 (.ld 8 (tks 9 3 (.big 12 .done))))))))) Zq (by kernel_rfl) ?_
    refine ld rfl rfl (lh Z2D rfl rfl) rfl (ld rfl rfl (lh sc3 rfl rfl) rfl (ld rfl rfl (lh Z2D rfl rfl) rfl (ld rfl rfl (lh sc3 rfl rfl) rfl (tk rfl (PE.sub rfl rfl (by omega)) rfl ?_))))
    rw [show (e:Int)-1=((e-1:Nat):Int) from by omega]
    refine tk rfl (PE.indexAddr Z3X rfl rfl (by omega) (by omega)) rfl (tk rfl (PE.fA Z4O rfl) rfl (ld rfl rfl (lh sc3 rfl (Z1T (k:=e-1) (j:=0) hp0 rfl (by rw [Int.toNat_natCast];omega))) rfl (ld rfl rfl (lh sc3 rfl rfl) rfl (tk rfl (PE.sub rfl rfl (by omega)) rfl (tk rfl (PE.build (out:=[_,_,_,_]) ZhG ZeH rfl rfl) rfl (tk rfl (PE.indexAddr Z3X rfl rfl (by omega) (by omega)) rfl ?_))))))
    obtain ⟨p1,hp1⟩:∃ p:Pln,p=⟨p0.sum,0,0,(e:Int)-1⟩:=⟨_,rfl⟩
    refine Z03 (l':=(Z01 (P.set e p1)).flatten) rfl rfl rfl ZgW rfl rfl rfl (by rw [hp1];exact ZcM (x:=⟨p0.sum,0,0,(e:Int)-1⟩) (by omega) (by rw [Int.toNat_natCast];omega)) (by rw [Zac];show 0+((e:Nat):Int).toNat*4+4≤_;rw [Int.toNat_natCast];omega) ?_
    have hP1:=hP.put p1
    have hPl1:=hP1.len
    have hpe:(P.set e p1)[e]?=some p1:=by rw [List.getElem?_set];simp;omega
    have hpr:0≤p1.rest∧p1.rest<(e:Int):=by rw [hp1];dsimp only;omega
    have hps:p1.sum=na0 (wt.prvT Sx (e-1)) (e-1):=by rw [hp1];exact hp0s.1
    clear hp1
    generalize P.set e p1=P at *
    refine bgT (Z0 (sqt 5 rfl (spL rfl rfl (lh sc3 rfl rfl) rfl (sp rfl (PE.sub rfl rfl (by omega)) rfl ?_))))
    rw [show (e:Int)-1=((e-1:Nat):Int) from by omega]
    refine sp rfl (PE.indexArr Z8s rfl rfl (by omega) (by omega)) rfl (spL rfl rfl (lh sc4 rfl (Z75 (i:=e-1) (by show 0+((e-1:Nat):Int).toNat*1=e-1;omega) (by omega))) rfl (pur 1 rfl ?_))
    refine Z2 rfl ?_ ?_<;>intro hc2
    refine Z8 (Za (Zn (Z0 (sqt 1 rfl (spL rfl rfl (lh sc3 rfl rfl) rfl (sqr 2 rfl ?_))))))
    refine Sy.heap (fun w h=>h.del b8) ?_
    refine alc rfl zl3 rfl (fun b8=>?_)
    refine sto rfl rfl rfl cn3 rfl rfl rfl rfl ?_
    refine sqr 3 rfl (spL rfl rfl (lh sc3 rfl rfl) rfl (sp rfl (PE.add rfl rfl (by omega)) rfl ?_))
    rw [show (e:Int)+1=((e+1:Nat):Int) from by omega]
    refine sto rfl rfl rfl cn3 rfl rfl rfl rfl ?_
    exact Z0J ⟨(e+1,P,b8,ms),by dsimp only;omega,by dsimp only;omega,hP1.next he1 hpe (by rw [hps];unfold Wt.prvN;rw [show wt.own Sx (e-1)=false by simpa using hc2];rfl) hpr⟩ (by dsimp only;omega) sbA rfl (fun w h=>h.perm (List.perm_middle (l₁:=mkh ms)).symm)
    ·
     refine Z3 (sqt 5 rfl (spL rfl rfl (lh Z2C rfl rfl) rfl (sp rfl (PE.nilCheck rfl) rfl (sp rfl (PE.fA Z0D rfl) rfl (spL rfl rfl (Zhu (sz:=15) (wtl wt a1 a2 a3 k1 k2 k3) Z1Y rfl rfl) rfl ?_)))))
     refine cl rfl Zcj rfl rfl (Zfm wt a1 a2 a3 k1 k2 k3 _ _) ?_
     rintro _ _ R1 ⟨qw,rfl,rfl,hR1⟩
     subst hR1
     have hown:wt.own Sx (e-1)=true:=by simpa using hc2
     refine Z1 ?_
     refine Z0o rfl Zcl (fun c0 bl0 bd0 hcp0 hca0 hcb0 hck0=>?_)
     refine ⟨fun st pend T R'=>st = .ready∧pend=none∧∃ (P:List Pln) (p:Pln),PlI wt Sx e P∧P[e]?=some p∧p.sum=wt.prvN Sx e (wt.prvT Sx (e-1))∧(0≤p.rest∧p.rest<(e:Int))∧T=(bd0,.deferred (some []))::(b8,cel 3 [.int .i64 (e:Nat)])::(mkh ms++(b28,cel 238 (Z01 P).flatten)::(b7,cel 232 [.slice (some ⟨b28,0,none⟩) wt.counts.length wt.counts.length])::(b6,cel 230 (ZC (ZI (wt.own Sx))))::(b3,cel 3 [.int .i64 (Sx:Nat)])::(b2,cel 181 [.pointer (some ⟨bd,0,none⟩)])::H)∧R'=RowsA (some ⟨qw,0,none⟩) 6 [(wtl wt a1 a2 a3 k1 k2 k3)]::R,
       Fn.mono (Fn.heapP (H':=(bl0,lob c0 .ready none)::(bd0,.deferred (some []))::(b8,cel 3 [.int .i64 (e:Nat)])::(mkh ms++(b28,cel 238 (Z01 P).flatten)::(b7,cel 232 [.slice (some ⟨b28,0,none⟩) wt.counts.length wt.counts.length])::(b6,cel 230 (ZC (ZI (wt.own Sx))))::(b3,cel 3 [.int .i64 (Sx:Nat)])::(b2,cel 181 [.pointer (some ⟨bd,0,none⟩)])::H)) (List.Perm.cons _ (List.Perm.cons _ List.perm_middle)) (Zcb wt a1 a2 a3 k1 k2 k3 hw qw bl0 (fun k H' R'=>∃ (P:List Pln) (p:Pln),PlI wt Sx e P∧P[e]?=some p∧p.sum=Z84 wt Sx e (wt.prvT Sx (e-1)) k∧(0≤p.rest∧p.rest<(e:Int))∧H'=(bl0,lob c0 .ready none)::(bd0,.deferred (some []))::(b8,cel 3 [.int .i64 (e:Nat)])::(mkh ms++(b28,cel 238 (Z01 P).flatten)::(b7,cel 232 [.slice (some ⟨b28,0,none⟩) wt.counts.length wt.counts.length])::(b6,cel 230 (ZC (ZI (wt.own Sx))))::(b3,cel 3 [.int .i64 (Sx:Nat)])::(b2,cel 181 [.pointer (some ⟨bd,0,none⟩)])::H)∧R'=RowsA (some ⟨qw,0,none⟩) 6 [(wtl wt a1 a2 a3 k1 k2 k3)]::R) (fun _ _=>False)
         (fun k H' R' h=>by obtain ⟨P,p,_,_,_,_,rfl,rfl⟩:=h;simp)
         (fun k f t H' R' hft htn hk hI=>?_) _ _ ⟨P,p1,hP1,hpe,hps,hpr,rfl,rfl⟩)) (fun v H' R' h=>?_),?_⟩
     rotate_left
     · rcases h with ⟨P,p,h1,h2,h3,h4,rfl,rfl⟩ | h
       · exact ⟨.ready,none,_,by simp,.refl _,rfl,rfl,P,p,h1,h2,by rw [h3];exact Z7u wt Sx e _ hown,h4,rfl,rfl⟩
       · exact h.elim
     rotate_left
     clear hP1 hpe hpr hps hPl hPl1
     obtain ⟨P2,p,hP2,hp,hpsum,hprest,rfl,rfl⟩:=hI
     have hPl2:=hP2.len
     have hst:=Z5W (w:=wt) (S:=Sx) (e:=e) (tb:=wt.prvT Sx (e-1)) hk
     have hvb:=Z6O hw (S:=Sx) he1 htb k
     have hend:=Z9B (wt.own Sx) (f:=f) (t:=t) (by omega) (by omega)
     have hgb:=Zcz hw hft htn
     have htl:=ZcT hw f t
     have hkw:=hkv.at_ f t hft htn
     rw [hst]
     clear hst
     generalize Z84 wt Sx e (wt.prvT Sx (e-1)) k=V at *
     refine Zc1 hcp0 hca0 hcb0 hck0 rfl ?_
     refine sqr 2 rfl (alc rfl Z2T rfl (fun b9=>?_))
     refine Z03 (l':=[.int .i64 (f:Nat),.int .i64 (t:Nat)]) rfl rfl rfl Z5w rfl rfl rfl rfl (nl rfl) ?_
     refine ZA ?_
     refine Z1 (sqt 9 rfl (spL rfl rfl (lh Z2C rfl rfl) rfl (spL rfl rfl (lhA [_,_] Z0Y rfl rfl rfl) rfl (spL rfl rfl (lhA (ZC (ZI (wt.own Sx))) ZaQ rfl (rest:=[]) (by rw [List.append_nil];rfl) (by simp [ZC,ZM])) rfl ?_))))
     refine clV rfl ZfF rfl rfl (Zfe _ (wt.own Sx) f t (by omega) (by omega) _ _) ?_
     refine pur 5 rfl (Z0 (Z0 ?_))
     refine Zd [0,1,0,7,15,31,63,127,255,31,1023,31,4095,8191,16383,32767,65535,65535,262143,524287,1048575] (.tk 0 (.tk 1 (.ld 2 (.tk 3 (.tk 4 (.ld 5 (.tk 6 (.tk 7 (.ld 8 (.ld 9 (.ld 10 (.ld 11 (tks 12 4 (.ld 16 (.ld 17 (.big 18 (.tk 19 (.tk 20 .done)))))))))))))))))) Zq (by kernel_rfl) ?_
     refine Zm 1 rfl (tk rfl (PE.add rfl rfl (by omega)) rfl (ld rfl rfl (lh sc3 rfl rfl) rfl (Zm 2 rfl ?_)))
     refine Zv 73 rfl ?_ ?_<;>intro g73
     try simp only [cS] at g73
     have hng:wt.good Sx e (f,t)=false:=Zbr (by omega)
     refine ldN rfl rfl rfl rfl rfl rfl rfl rfl ?_
     refine Zm 2 rfl ?_
     repeat refine ldN rfl rfl rfl rfl rfl rfl rfl rfl ?_
     refine Zm 4 rfl ?_
     repeat refine ldN rfl rfl rfl rfl rfl rfl rfl rfl ?_
     refine spN rfl rfl rfl rfl rfl rfl rfl rfl ?_
     refine bgT (Zm 2 rfl ?_)
     refine Z00 rfl ?_
     refine Z8 (Za (Zn ?_))
     first
       | exact Zi (.inl ⟨rfl,P2,p,hP2,hp,by rw [Z3N hng];exact hpsum,hprest,rfl,rfl⟩) (fun w h=>h.del b9)
       | exact Zi (.inl ⟨rfl,_,⟨pa.sum+wt.gap f t,f,t,a9⟩,hP2.put _,by rw [List.getElem?_set];simp;omega,by rw [hv9],by dsimp only;omega,rfl,rfl⟩) (fun w h=>h.del b9)
       | exact Zi (.inl ⟨rfl,P2,p,hP2,hp,by rw [hv9];exact hpsum,hprest,rfl,rfl⟩) (fun w h=>h.del b9)
     try simp only [cS] at g73
     refine ldG rfl rfl rfl rfl rfl (lh Z2C rfl rfl) rfl ?_
     refine tkG rfl rfl rfl rfl (PE.nilCheck rfl) rfl ?_
     refine tkG rfl rfl rfl rfl (PE.fA Z4N rfl) rfl ?_
     refine ldG rfl rfl rfl rfl rfl (lfB (sz:=15) ZbL (Z7e (by rw [(Z1W hw).len];rfl))) rfl (ldG rfl rfl rfl rfl rfl (lhA [_,_] Z0Y rfl rfl rfl) rfl ?_)
     refine Zjy rfl rfl rfl rfl rfl rfl (Z4S (b:=true) kv [((f:Nat):Int),((t:Nat):Int)] Z2J (KeyT.of Z26 Z2L) (Z0q zv3) rfl hkv.len (fun w hs=>hs.now (MemF.mem (f:=MpF m kv))) hkw) rfl ?_
     refine ldG rfl rfl rfl rfl rfl (lh sc3 rfl rfl) rfl ?_
     refine tkG rfl rfl rfl rfl (PE.andNotN (m:=wt.thr f t) (n:=Sx) rfl rfl (by omega) (by omega)) rfl ?_
     refine Zm 3 rfl ?_
     refine Zv 84 rfl ?_ ?_<;>intro g84
     have hng:wt.good Sx e (f,t)=false:=Zbs htl hSx (fun h=>by rw [h] at g84;simp at g84)
     repeat refine ldN rfl rfl rfl rfl rfl rfl rfl rfl ?_
     refine spN rfl rfl rfl rfl rfl rfl rfl rfl ?_
     refine bgT (Zm 2 rfl ?_)
     refine Z00 rfl ?_
     refine Z8 (Za (Zn ?_))
     first
       | exact Zi (.inl ⟨rfl,P2,p,hP2,hp,by rw [Z3N hng];exact hpsum,hprest,rfl,rfl⟩) (fun w h=>h.del b9)
       | exact Zi (.inl ⟨rfl,_,⟨pa.sum+wt.gap f t,f,t,a9⟩,hP2.put _,by rw [List.getElem?_set];simp;omega,by rw [hv9],by dsimp only;omega,rfl,rfl⟩) (fun w h=>h.del b9)
       | exact Zi (.inl ⟨rfl,P2,p,hP2,hp,by rw [hv9];exact hpsum,hprest,rfl,rfl⟩) (fun w h=>h.del b9)
     have hz:wt.thr f t&&&(18446744073709551615-Sx)=0:=Classical.byContradiction fun h=>by rw [dT (show ¬ ((wt.thr f t&&&(18446744073709551615-Sx):Nat):Int)=0 by omega)] at g84;cases g84
     refine ldG rfl rfl rfl rfl rfl (lh Z2C rfl rfl) rfl (ldG rfl rfl rfl rfl rfl (lhA [_,_] Z0Y rfl rfl rfl) rfl ?_)
     refine Z4A rfl rfl rfl rfl Z9i rfl rfl (Zdf wt a1 a2 a3 k1 k2 k3 hw bd m f t hft htn _ _) ?_
     refine bgT (Zm 2 rfl ?_)
     refine Z2 rfl ?_ ?_<;>intro hc3<;>try simp only [cS] at hc3
     have hng:wt.good Sx e (f,t)=false:=Zbt (by omega)
     refine Z8 (Za (Zn ?_))
     first
       | exact Zi (.inl ⟨rfl,P2,p,hP2,hp,by rw [Z3N hng];exact hpsum,hprest,rfl,rfl⟩) (fun w h=>h.del b9)
       | exact Zi (.inl ⟨rfl,_,⟨pa.sum+wt.gap f t,f,t,a9⟩,hP2.put _,by rw [List.getElem?_set];simp;omega,by rw [hv9],by dsimp only;omega,rfl,rfl⟩) (fun w h=>h.del b9)
       | exact Zi (.inl ⟨rfl,P2,p,hP2,hp,by rw [hv9];exact hpsum,hprest,rfl,rfl⟩) (fun w h=>h.del b9)
     have hg:wt.good Sx e (f,t)=true:=Zbh htl hSx (by omega) hz (by omega)
     obtain ⟨hl1,hl2,hl3⟩:=hend.2.2.2 (by omega)
     obtain ⟨a9,ha9⟩:∃ a,a=(Z3Y (wt.own Sx) f t).1:=⟨_,rfl⟩
     rw [← ha9] at hl2 hl3 ⊢
     have hae:a9<e:=by omega
     obtain ⟨pa,hpa⟩:∃ p,P2[a9]?=some p:=⟨_,List.getElem?_eq_getElem (by omega)⟩
     have hpas:=(hP2.at_ _ _ hpa hae).1
     have hab:=htb a9 hae
     refine Z3 (Z0 ?_)
     refine Zd [0,0,3,7,15,0,0,96,255,511] (.ld 0 (tks 1 3 (.ld 4 (.ld 5 (.ld 6 (.big 7 (.tk 8 (.tk 9 .done)))))))) Zq (by kernel_rfl) ?_
     refine ld rfl rfl (lh Z2D rfl rfl) rfl (Zm 1 rfl (tk rfl (PE.indexAddr Z3X rfl rfl (by omega) (by omega)) rfl (tk rfl (PE.fA Z4O rfl) rfl (ld rfl rfl (lh sc3 rfl (Z1T (k:=a9) (j:=0) hpa rfl (by rw [Int.toNat_natCast];omega))) rfl (ld rfl rfl (lh Z2C rfl rfl) rfl (ld rfl rfl (lhA [_,_] Z0Y rfl rfl rfl) rfl ?_))))))
     refine clV rfl Z9i rfl rfl (Zdf wt a1 a2 a3 k1 k2 k3 hw bd m f t hft htn _ _) ?_
     refine bg (fun w hs=>⟨trivial,trivial,(lh sc3 rfl (Z1T (k:=a9) (j:=0) hpa rfl (by rw [Int.toNat_natCast];omega))) w hs,(lh Z2D rfl rfl) w hs,trivial⟩) ?_
     refine tk rfl (PE.add rfl rfl (by omega)) rfl (Zm 1 rfl (sqt 7 rfl (pur 1 rfl (spL rfl rfl (lh Z2D rfl rfl) rfl (spL rfl rfl (lh sc3 rfl rfl) rfl (sp rfl (PE.indexAddr Z3X rfl rfl (by omega) (by omega)) rfl (sp rfl (PE.fA Z4O rfl) rfl (spL rfl rfl (lh sc3 rfl (Z1T (k:=e) (j:=0) hp rfl (by rw [Int.toNat_natCast];omega))) rfl (pur 1 rfl ?_)))))))))
     refine Z2 rfl ?_ ?_<;>intro hc4<;>try simp only [cS] at hc4
     have hv9:=Zc0 (tb:=wt.prvT Sx (e-1)) (b:=V) hg (by dsimp only;rw [← ha9,← hpas,← hpsum];omega)
     dsimp only at hv9
     rw [← ha9,← hpas] at hv9
     refine sqr 8 rfl (spL rfl rfl (lh Z2D rfl rfl) rfl (spL rfl rfl (lh sc3 rfl rfl) rfl (pur 1 rfl (spL rfl rfl (lhA [_,_] Z0Y rfl rfl rfl) rfl (pur 1 rfl (sp rfl (PE.build (out:=[_,_,_,_]) ZhG ZeH rfl rfl) rfl (sp rfl (PE.indexAddr Z3X rfl rfl (by omega) (by omega)) rfl ?_)))))))
     refine Z03 (l':=(Z01 (P2.set e ⟨pa.sum+wt.gap f t,f,t,a9⟩)).flatten) rfl rfl rfl ZgW rfl rfl rfl (ZcM (x:=⟨pa.sum+wt.gap f t,f,t,a9⟩) (by omega) (by rw [Int.toNat_natCast];omega)) (by rw [Zac];show 0+((e:Nat):Int).toNat*4+4≤_;rw [Int.toNat_natCast];omega) ?_
     first
       | exact Zi (.inl ⟨rfl,P2,p,hP2,hp,by rw [Z3N hng];exact hpsum,hprest,rfl,rfl⟩) (fun w h=>h.del b9)
       | exact Zi (.inl ⟨rfl,_,⟨pa.sum+wt.gap f t,f,t,a9⟩,hP2.put _,by rw [List.getElem?_set];simp;omega,by rw [hv9],by dsimp only;omega,rfl,rfl⟩) (fun w h=>h.del b9)
       | exact Zi (.inl ⟨rfl,P2,p,hP2,hp,by rw [hv9];exact hpsum,hprest,rfl,rfl⟩) (fun w h=>h.del b9)
     have hv9:=ZaE (w:=wt) (S:=Sx) (e:=e) (tb:=wt.prvT Sx (e-1)) (b:=V) (s:=(f,t)) (by dsimp only;rw [← ha9,← hpas,← hpsum];omega)
     refine Z3 ?_
     first
       | exact Zi (.inl ⟨rfl,P2,p,hP2,hp,by rw [Z3N hng];exact hpsum,hprest,rfl,rfl⟩) (fun w h=>h.del b9)
       | exact Zi (.inl ⟨rfl,_,⟨pa.sum+wt.gap f t,f,t,a9⟩,hP2.put _,by rw [List.getElem?_set];simp;omega,by rw [hv9],by dsimp only;omega,rfl,rfl⟩) (fun w h=>h.del b9)
       | exact Zi (.inl ⟨rfl,P2,p,hP2,hp,by rw [hv9];exact hpsum,hprest,rfl,rfl⟩) (fun w h=>h.del b9)
     rintro _ _ _ _ ⟨rfl,rfl,P3,p3,hP3,hp3,hs3,hr3,rfl,rfl⟩
     refine Sy.heap (fun w h=>h.ftail) ?_
     refine Z40 ?_
     refine Z0 (sqt 1 rfl (spL rfl rfl (lh sc3 rfl rfl) rfl (sqr 2 rfl ?_)))
     refine Sy.heap (fun w h=>h.del b8) ?_
     refine alc rfl zl3 rfl (fun b8=>?_)
     refine sto rfl rfl rfl cn3 rfl rfl rfl rfl ?_
     refine sqr 3 rfl (spL rfl rfl (lh sc3 rfl rfl) rfl (sp rfl (PE.add rfl rfl (by omega)) rfl ?_))
     rw [show (e:Int)+1=((e+1:Nat):Int) from by omega]
     refine sto rfl rfl rfl cn3 rfl rfl rfl rfl ?_
     exact Z0J ⟨(e+1,P3,b8,bd0::ms),by dsimp only;omega,by dsimp only;omega,hP3.next he1 hp3 hs3 hr3⟩ (by dsimp only;omega) sbA rfl (fun w h=>h.perm (List.perm_middle (l₁:=mkh (bd0::ms))).symm)
   obtain rfl:e=wt.counts.length:=by omega
   refine Z8 (Za (Za (Zn (sqt 1 rfl (pur 1 rfl (Z0 (sqt 4 rfl (spL rfl rfl (lh Z2D rfl rfl) rfl (sp rfl (PE.lenSl ZcC rfl) rfl (sp rfl (PE.sub rfl rfl (by omega)) rfl (pur 1 rfl (Z1 ?_))))))))))))
   have hlast:∀ i p,P[i]?=some p→p.sum=na0 (wt.prvT Sx (wt.counts.length-1)) i∧(0<i→0≤p.rest∧p.rest<(i:Int)):=fun i p h=>hP.at_ i p h (by have:=(List.getElem?_eq_some_iff.1 h).1;omega)
   rw [show (wt.counts.length:Int)-1=((wt.counts.length-1:Nat):Int) from by omega]
   refine Sy.heap (H':=mkh ms++(b28,cel 238 (Z01 P).flatten)::(b7,cel 232 [.slice (some ⟨b28,0,none⟩) wt.counts.length wt.counts.length])::(b6,cel 230 (ZC (ZI (wt.own Sx))))::(b3,cel 3 [.int .i64 (Sx:Nat)])::(b2,cel 181 [.pointer (some ⟨bd,0,none⟩)])::H) (fun w h=>h.del b8) ?_
   refine Z59 (ι:=(x:{x:Nat×List (Int×Int) // x.1<wt.counts.length∧x.2.length+x.1<wt.counts.length})×OSl 226 2 (Zz x.1.2)) (fun x=>⟨[(2,.pointer (some ⟨b2,0,none⟩)),(3,.pointer (some ⟨b3,0,none⟩)),(6,.pointer (some ⟨b6,0,none⟩)),(7,.pointer (some ⟨b7,0,none⟩)),(13,x.2.fs),(14,.int .i64 x.1.1.1)],mks ms,mkh ms++(x.2.G++(b28,cel 238 (Z01 P).flatten)::(b7,cel 232 [.slice (some ⟨b28,0,none⟩) wt.counts.length wt.counts.length])::(b6,cel 230 (ZC (ZI (wt.own Sx))))::(b3,cel 3 [.int .i64 (Sx:Nat)])::(b2,cel 181 [.pointer (some ⟨bd,0,none⟩)])::H),R⟩) (fun x=>x.1.1.1) ⟨⟨(wt.counts.length-1,[]),by dsimp only;omega,by simp;omega⟩,OSl.nil _ _⟩ ?_ (fun x=>?_)
   exact Zav sbA rfl idH
   obtain ⟨⟨⟨i,l⟩,hi,hli⟩,o⟩:=x
   dsimp only at hi hli o ⊢
   obtain ⟨p,hp⟩:∃ p,P[i]?=some p:=⟨_,List.getElem?_eq_getElem (by omega)⟩
   have hpi:=hlast i p hp
   obtain ⟨rl,hrl⟩:=Zeb (n:=0+((i:Nat):Int).toNat*4+1) hp (by rw [Int.toNat_natCast];omega)
   refine Z0 (sqt 2 rfl (pur 2 rfl ?_))
   refine Z2 rfl ?_ ?_<;>intro hc5
   try simp only [cS] at hc5
   have hpr9:=hpi.2 (by omega)
   refine Z3 (Z0 (Z1 (sqt 3 rfl (sp rfl (PE.build (out:=[_,_]) Zby Z2T rfl rfl) rfl (alc rfl Z2T rfl (fun b15=>?_))))))
   refine sto rfl rfl rfl Z5w rfl rfl rfl rfl ?_
   refine Z0 ?_
   refine Zd [0,0,3,7,15,0,63] (.ld 0 (tks 1 3 (.ld 4 (.ld 5 (.tk 6 .done))))) Zq (by kernel_rfl) ?_
   refine ld rfl rfl (lh Z2D rfl rfl) rfl (Zm 1 rfl (tk rfl (PE.indexAddr Z3X rfl rfl (by omega) (by omega)) rfl (tk rfl (PE.fA Z9Q rfl) rfl (ld rfl rfl (lhA [.int .i64 p.fr,.int .i64 p.to] Z0Y rfl (rest:=rl) hrl rfl) rfl (ld rfl rfl (lhA [_,_] Z0Y rfl rfl rfl) rfl (tk rfl (PE.neqAgg [p.fr,p.to] [0,0] (Z25 10000 226 true 2 Z26) Zhc rfl rfl rfl rfl) rfl ?_))))))
   refine Z2 rfl ?_ ?_<;>intro hc6
   refine sqr 9 rfl (pur 1 rfl (spL rfl rfl (lh Z2D rfl rfl) rfl (pur 1 rfl (sp rfl (PE.indexAddr Z3X rfl rfl (by omega) (by omega)) rfl (sp rfl (PE.fA Z9Q rfl) rfl (spL rfl rfl (lhA [.int .i64 p.fr,.int .i64 p.to] Z0Y rfl (rest:=rl) hrl rfl) rfl ?_))))))
   refine bsl (out:=[_,_]) rfl ZjU Z2T rfl rfl rfl rfl rfl rfl (fun b138=>?_)
   refine apO (o) rfl Ziq rfl rfl (Z2z (row:=[.int .i64 p.fr,.int .i64 p.to]) rfl) rfl rfl ((by rw [Z1c];simp only [List.length_singleton];omega)) rfl (fun o139=>?_)
   refine pur 1 rfl (sqr 6 rfl (spL rfl rfl (lh Z2D rfl rfl) rfl (pur 1 rfl (sp rfl (PE.indexAddr Z3X rfl rfl (by omega) (by omega)) rfl (sp rfl (PE.fA Z9R rfl) rfl (spL rfl rfl (lh sc3 rfl (Z1T (k:=i) (j:=3) hp rfl (by rw [Int.toNat_natCast];omega))) rfl (pur 1 rfl ?_)))))))
   obtain ⟨r9,hr9⟩:∃ r9:Nat,p.rest=r9:=⟨p.rest.toNat,by omega⟩
   rw [hr9]
   first
     | exact Z0J ⟨⟨(r9,l++[(p.fr,p.to)]),by dsimp only;omega,by simp;omega⟩,o139.cast (by simp [Zz])⟩ (by dsimp only;omega) sbA rfl (fun w h=>(h.del b138).del b15)
     | exact Z0J ⟨⟨(r9,l),by dsimp only;omega,by dsimp only;omega⟩,o⟩ (by dsimp only;omega) sbA rfl (fun w h=>h.del b15)
   refine Z3 (sqr 6 rfl (spL rfl rfl (lh Z2D rfl rfl) rfl (pur 1 rfl (sp rfl (PE.indexAddr Z3X rfl rfl (by omega) (by omega)) rfl (sp rfl (PE.fA Z9R rfl) rfl (spL rfl rfl (lh sc3 rfl (Z1T (k:=i) (j:=3) hp rfl (by rw [Int.toNat_natCast];omega))) rfl (pur 1 rfl ?_)))))))
   obtain ⟨r9,hr9⟩:∃ r9:Nat,p.rest=r9:=⟨p.rest.toNat,by omega⟩
   rw [hr9]
   first
     | exact Z0J ⟨⟨(r9,l++[(p.fr,p.to)]),by dsimp only;omega,by simp;omega⟩,o139.cast (by simp [Zz])⟩ (by dsimp only;omega) sbA rfl (fun w h=>(h.del b138).del b15)
     | exact Z0J ⟨⟨(r9,l),by dsimp only;omega,by dsimp only;omega⟩,o⟩ (by dsimp only;omega) sbA rfl (fun w h=>h.del b15)
   refine Z8 (Za (Za (Zn (sqt 2 rfl (pur 1 rfl ?_)))))
   refine Sy.heap (H':=o.G++(mkh ms++(b28,cel 238 (Z01 P).flatten)::(b7,cel 232 [.slice (some ⟨b28,0,none⟩) wt.counts.length wt.counts.length])::(b6,cel 230 (ZC (ZI (wt.own Sx))))::(b3,cel 3 [.int .i64 (Sx:Nat)])::(b2,cel 181 [.pointer (some ⟨bd,0,none⟩)])::H)) (fun w h=>h.perm (Zy _ _ _)) ?_
   refine cl rfl ZfG rfl rfl (Z6g l o (by omega) _ _) ?_
   rintro _ _ R1 ⟨rfl,rfl,hR1⟩
   obtain rfl:=hR1.symm
   clear hR1
   obtain ⟨pz,hpz⟩:∃ p,P[wt.counts.length-1]?=some p:=⟨_,List.getElem?_eq_getElem (by omega)⟩
   have hpzs:=(hlast _ _ hpz).1
   refine Z0 ?_
   refine Zd [0,0,0,4,12,30,62,126,1,511] (.tk 0 (.ld 1 (.ld 2 (tks 3 4 (.ld 7 (.tk 8 (.tk 9 .done))))))) Zq (by kernel_rfl) ?_
   refine Zm 1 rfl (ld rfl rfl (lh Z2D rfl rfl) rfl (ld rfl rfl (lh Z2D rfl rfl) rfl (tk rfl (PE.lenSl ZcC rfl) rfl (tk rfl (PE.sub rfl rfl (by omega)) rfl ?_))))
   rw [show (wt.counts.length:Int)-1=((wt.counts.length-1:Nat):Int) from by omega]
   refine tk rfl (PE.indexAddr Z3X rfl rfl (by omega) (by omega)) rfl (tk rfl (PE.fA Z4O rfl) rfl (ld rfl rfl (lh sc3 rfl (Z1T (k:=wt.counts.length-1) (j:=0) hpz rfl (by rw [Int.toNat_natCast];omega))) rfl (Zm 2 rfl (Z5 ?_))))
   exact ZF ms idH rfl (.cons (RV.tmp rfl) (.cons (RV.tmp rfl) .nil)) rfl ⟨_,by rw [hpzs];rfl,rfl,rfl⟩ (fun w h=>((((h.del b28).del b7).del b6).del b3).del b2)
theorem Zjb:cal Tryz.prog 92=true:=by kernel_rfl
theorem Zjc:cal Tryz.prog 93=true:=by kernel_rfl
theorem Zkd {n:Nat} (h:n≤6):1≤2 ^ n∧2 ^ n≤64:=⟨Nat.one_le_two_pow,Nat.pow_le_pow_right (n:=2) (by decide) h⟩
def Wt.full (w:Wt):Nat:=2 ^ w.hands.toNat-1
theorem ZdL {w:Wt} (hw:w.ok):w.full<2 ^ 6:=by have:=hw.hands;have:=Zkd (n:=w.hands.toNat) (by omega);unfold Wt.full;omega
theorem c_Missing (wt:Wt) (a1 a2 a3:Option Addr) (k1 k2 k3:Nat) (hw:wt.ok) (hcl:wt.clash=false) (H:Z7) (R:Z4) [hR1:MemRows a1 3 (crows wt.counts) R] [hR2:MemRows a2 2 (bkrows wt.books) R] [hR3:MemRows a3 3 (sprows wt.spells) R] :
    FnV Tryz.prog 47 [(wt.v a1 a2 a3 k1 k2 k3)] H R (.tuple #[.int .i64 (wt.prv wt.full),.int .i64 0]):=by
 refine Z9 Tryz.func47 rfl Tryz.ntmps47 rfl ?_
 refine sqt 3 rfl (bx rfl rfl rfl (fun b1=>pur 2 rfl (sqt 7 rfl (spL rfl rfl (lhA (wtl wt a1 a2 a3 k1 k2 k3) Z1Y rfl rfl rfl) rfl ?_))))
 refine cl rfl Zjb rfl rfl (Z5s wt a1 a2 a3 k1 k2 k3 hw hcl _ _) ?_
 rintro _ _ R1 ⟨bd,m,kv,rfl,hkv,rfl,hR1⟩
 subst hR1
 refine pur 5 rfl (Z0 (sqt 2 rfl (pur 2 rfl ?_)))
 refine Z2 rfl ?_ ?_<;>intro hc0
 exact absurd hc0 (by simp)
 have hha:=hw.hands
 obtain ⟨hn,hhn⟩:∃ n:Nat,wt.hands=n:=⟨wt.hands.toNat,by omega⟩
 have hfl:wt.full=2 ^ hn-1:=by unfold Wt.full;rw [hhn,Int.toNat_natCast]
 have hp6:=Zkd (n:=hn) (by omega)
 refine Z3 (sqt 11 rfl (pur 1 rfl (sp rfl (PE.fA Z6t rfl) rfl (spL rfl rfl (lh (v:=.int .i64 (hn:Nat)) sc3 rfl (by show some (Value.int .i64 wt.hands)=_;rw [hhn])) rfl (sp rfl (PE.shlN (m:=1) (n:=hn) rfl rfl rfl (by omega) (by omega)) rfl (sp rfl (PE.sub rfl rfl (by omega)) rfl ?_))))))
 rw [show ((1*2 ^ hn:Nat):Int)-1=((wt.full:Nat):Int) from by rw [hfl];omega]
 refine cl rfl Zjc rfl rfl (Zdl wt a1 a2 a3 k1 k2 k3 hw bd m kv hkv wt.full (ZdL hw) _ _) ?_
 rintro _ _ R1 ⟨fs,rfl,rfl,hR1⟩
 subst hR1
 refine pur 5 rfl (sqt 3 rfl (pur 3 rfl (Z5 ?_)))
 exact rtB rfl rfl rfl rfl ⟨rfl,rfl,rfl⟩ (fun w h=>(h.del b1).ftail.ftail)
end Go.Proofs.YthijcgkicjljhaaGreat.Hn
namespace Go.Proofs.YthijcgkicjljhaaGreat.Ro
set_option linter.unusedSimpArgs false
set_option linter.unusedVariables false
structure Rd where
 c:Int
 r:Int
 g:Int
 s:Int
def dsC (cols k:Nat) (c r:Int):Int:=max (((k%cols:Nat):Int)-c) (-(((k%cols:Nat):Int)-c))+max (((k / cols:Nat):Int)-r) (-(((k / cols:Nat):Int)-r))
theorem dsC_nn (cols k:Nat) (c r:Int):0≤dsC cols k c r:=by unfold dsC;omega
def ZZ (d:Nat→Int) (g:Int) (h:Nat→Int):Nat→Int
 | 0=>0
 | k+1=>bif decide (d k≤g) then max (ZZ d g h k) (h k-d k) else ZZ d g h k
theorem feel_nn (d:Nat→Int) (g:Int) (h:Nat→Int):∀ n,0≤ZZ d g h n
 | 0=>Int.le_refl _
 | k+1=>by
   have ih:=feel_nn d g h k
   unfold ZZ
   cases decide (d k≤g) with
   | false=>exact ih
   | true=>show 0≤max _ _;omega
theorem Z9I {d:Nat→Int} {g:Int} {h h':Nat→Int}:∀ n,(∀ k,k<n→h k≤h' k)→ZZ d g h n≤ZZ d g h' n
 | 0,_=>Int.le_refl _
 | k+1,hh=>by
   have ih:=Z9I (d:=d) (g:=g) k (fun j hj=>hh j (by omega))
   have h1:=hh k (by omega)
   unfold ZZ
   cases decide (d k≤g) with
   | false=>exact ih
   | true=>show max _ _≤max _ _;omega
theorem Z9H {d:Nat→Int} {g:Int} {h:Nat→Int}:∀ n k,k<n→d k≤g→h k-d k≤ZZ d g h n
 | 0,_,hk,_=>by omega
 | n+1,k,hk,hd=>by
   unfold ZZ
   rcases Nat.lt_or_ge k n with h1 | h1
   · have ih:=Z9H (h:=h) n k h1 hd
     cases decide (d n≤g) with
     | false=>exact ih
     | true=>show _≤max _ _;omega
   · obtain rfl:k=n:=by omega
     rw [decide_eq_true hd]
     show _≤max _ _;omega
theorem feel_ub {d:Nat→Int} {g:Int} {h:Nat→Int} {s:Int} (hs:0≤s):∀ n,(∀ k,k<n→d k≤g→h k-d k≤s)→ZZ d g h n≤s
 | 0,_=>hs
 | n+1,hh=>by
   have ih:=feel_ub hs n (fun k hk=>hh k (by omega))
   unfold ZZ
   by_cases h1:d n≤g
   · have:=hh n (by omega) h1
     rw [decide_eq_true h1];show max _ _≤_;omega
   · rw [decide_eq_false h1];exact ih
theorem Z6p {d:Nat→Int} {g:Int} {h:Nat→Int}:∀ n,0<ZZ d g h n→∃ k,k<n∧d k≤g∧h k-d k=ZZ d g h n
 | 0,hp=>absurd hp (Int.lt_irrefl _)
 | n+1,hp=>by
   unfold ZZ at hp ⊢
   by_cases h1:d n≤g
   · rw [decide_eq_true h1] at hp ⊢
     simp only [cond_true] at hp ⊢
     rcases Int.le_total (h n-d n) (ZZ d g h n) with h2 | h2
     · obtain ⟨k,a,b,c⟩:=Z6p (d:=d) (g:=g) (h:=h) n (by omega)
       exact ⟨k,by omega,b,by omega⟩
     · exact ⟨n,by omega,h1,by omega⟩
   · rw [decide_eq_false h1] at hp ⊢
     simp only [cond_false] at hp ⊢
     obtain ⟨k,a,b,c⟩:=Z6p (d:=d) (g:=g) (h:=h) n hp
     exact ⟨k,by omega,b,c⟩
def Z8b (d:Rd→Int) (t:Int) (x:Rd):Int:=bif decide (d x≤x.g) then min t (x.s+d x) else t
def Z5c (d:Rd→Int) (l:List Rd):Int:=l.foldl (Z8b d) 9
theorem Z13 {d:Rd→Int}:∀ (l:List Rd) (t:Int),l.foldl (Z8b d) t≤t∧∀ x∈l,d x≤x.g→l.foldl (Z8b d) t≤x.s+d x
 | [],t=>⟨Int.le_refl _,fun x hx=>by cases hx⟩
 | y::l,t=>by
   obtain ⟨h1,h2⟩:=Z13 (d:=d) l (Z8b d t y)
   rw [List.foldl_cons]
   have h3:Z8b d t y≤t:=by unfold Z8b;cases decide (d y≤y.g) with
     | false=>exact Int.le_refl _
     | true=>show min _ _≤_;omega
   refine ⟨by omega,fun x hx hd=>?_⟩
   rcases List.mem_cons.1 hx with rfl | hx
   · have:Z8b d t x≤x.s+d x:=by unfold Z8b;rw [decide_eq_true hd];show min _ _≤_;omega
     omega
   · exact h2 x hx hd
theorem Z3x {d:Rd→Int} {z:Int}:∀ (l:List Rd) (t:Int),z≤t→(∀ x∈l,d x≤x.g→z≤x.s+d x)→z≤l.foldl (Z8b d) t
 | [],t,h,_=>h
 | y::l,t,h,hh=>by
   rw [List.foldl_cons]
   refine Z3x l _ ?_ (fun x hx=>hh x (by simp [hx]))
   unfold Z8b
   by_cases h1:d y≤y.g
   · have:=hh y (by simp) h1
     rw [decide_eq_true h1];show z≤min _ _;omega
   · rw [decide_eq_false h1];exact h
theorem ZeA (d:Rd→Int) (l:List Rd):Z5c d l≤9:=(Z13 l 9).1
theorem ZcU {d:Rd→Int} {l:List Rd} {x:Rd} (hx:x∈l) (h:d x≤x.g):Z5c d l≤x.s+d x:=(Z13 l 9).2 x hx h
theorem ZaD {d:Rd→Int} {l:List Rd} {z:Int} (h:z≤9) (hh:∀ x∈l,d x≤x.g→z≤x.s+d x):z≤Z5c d l:=Z3x l 9 h hh
theorem top_more (d:Rd→Int) (l:List Rd) (x:Rd):Z5c d (l++[x])≤Z5c d l:=by
 unfold Z5c
 rw [List.foldl_append]
 exact (Z13 [x] _).1
structure Rb where
 cols:Nat
 rows:Nat
 rods:List Rd
def Rb.n (b:Rb):Nat:=b.cols*b.rows
def Rb.d (b:Rb) (k:Nat) (x:Rd):Int:=dsC b.cols k x.c x.r
def Rb.top (b:Rb) (k:Nat):Int:=Z5c (b.d k) b.rods
def Rb.feel (b:Rb) (h:Nat→Int) (x:Rd):Int:=ZZ (fun k=>b.d k x) x.g h b.n
def Rb.expl (b:Rb) (k:Nat) (x:Rd):Prop:=b.d k x≤x.g∧0<x.s∧b.top k-b.d k x=x.s
def Rb.alone (b:Rb) (k:Nat):Prop:=∃ (i:Nat) (x:Rd),b.rods[i]?=some x∧b.expl k x∧∀ j,j<b.n→j≠k→¬ b.expl j x
structure RTru (b:Rb) (h:Nat→Int):Prop where
 ht:∀ k,k<b.n→0≤h k∧h k≤9
 s:∀ x∈b.rods,x.s=b.feel h x
theorem RTru.top {b:Rb} {h:Nat→Int} (t:RTru b h) {k:Nat} (hk:k<b.n):h k≤b.top k:=ZaD (t.ht k hk).2 fun x hx hd=>by
 have h1:=t.s x hx
 have h2:=Z9H (d:=fun k=>b.d k x) (g:=x.g) (h:=h) b.n k hk hd
 unfold Rb.feel at h1
 try dsimp only at h2
 omega
theorem RTru.fits {b:Rb} {h:Nat→Int} (t:RTru b h) {x:Rd} (hx:x∈b.rods):b.feel b.top x=x.s:=by
 have h1:=t.s x hx
 have h2:b.feel h x≤b.feel b.top x:=Z9I b.n (fun k hk=>t.top hk)
 have h3:0≤x.s:=by rw [h1];exact feel_nn _ _ _ _
 have h4:b.feel b.top x≤x.s:=feel_ub h3 b.n (fun k hk hd=>by
   have:b.top k≤x.s+b.d k x:=ZcU (d:=b.d k) hx hd
   omega)
 omega
theorem RTru.alone {b:Rb} {h:Nat→Int} (t:RTru b h) {k:Nat} (ha:b.alone k):h k=b.top k∧0<b.top k:=by
 obtain ⟨i,x,hi,⟨h1,h2,h3⟩,h4⟩:=ha
 have hx:=List.mem_of_getElem? hi
 have h5:=t.s x hx
 have hd0:0≤b.d k x:=dsC_nn _ _ _ _
 obtain ⟨j,j1,j2,j3⟩:=Z6p (d:=fun k=>b.d k x) (g:=x.g) (h:=h) b.n (by unfold Rb.feel at h5;omega)
 try dsimp only at j2 j3
 have j4:=t.top j1
 have j5:b.top j≤x.s+b.d j x:=ZcU (d:=b.d j) hx j2
 unfold Rb.feel at h5
 have hjk:j=k:=by
   false_or_by_contra
   rename_i hne
   exact h4 j j1 hne ⟨j2,h2,by omega⟩
 subst hjk
 exact ⟨by omega,by omega⟩
theorem RTru.more {b:Rb} {h:Nat→Int} (t:RTru b h) {x:Rd} (hx:x.s=b.feel h x):RTru { b with rods:=b.rods++[x] } h:=⟨t.ht,fun y hy=>by
 rcases List.mem_append.1 hy with h1 | h1
 · exact t.s y h1
 · rw [List.mem_singleton.1 h1];exact hx⟩
def Rb.ex (b:Rb) (k:Nat) (x:Rd):Bool:=decide (b.d k x≤x.g)&&(decide (0<x.s)&&decide (b.top k-b.d k x=x.s))
theorem Rb.ex_iff {b:Rb} {k:Nat} {x:Rd}:b.ex k x=true↔b.expl k x:=by
 unfold Rb.ex Rb.expl
 simp only [Bool.and_eq_true,decide_eq_true_eq]
def Z3V (p:Nat→Bool):Nat→Nat
 | 0=>0
 | j+1=>bif p j then Z3V p j|||2 ^ j else Z3V p j
theorem Z46 (p:Nat→Bool):∀ (n i:Nat),(Z3V p n).testBit i=(decide (i<n)&&p i)
 | 0,i=>by simp [Z3V]
 | n+1,i=>by
   have ih:=Z46 p n i
   unfold Z3V
   cases hp:p n with
   | false =>
     rw [cond_false,ih]
     by_cases h:i=n
     · subst h;simp [hp]
     · rw [show decide (i<n+1)=decide (i<n) from decide_eq_decide.2 (by omega)]
   | true =>
     rw [cond_true,Nat.testBit_or,ih,Nat.testBit_two_pow]
     by_cases h:i=n
     · subst h;simp [hp]
     · rw [show decide (i<n+1)=decide (i<n) from decide_eq_decide.2 (by omega),decide_eq_false (show ¬ n=i from fun e=>h e.symm),Bool.or_false]
theorem Z4u (p:Nat→Bool):∀ n,Z3V p n<2 ^ n
 | 0=>by simp [Z3V]
 | n+1=>by
   have ih:=Z4u p n
   unfold Z3V
   have h2:2 ^ n<2 ^ (n+1):=Nat.pow_lt_pow_right (by decide) (by omega)
   cases p n with
   | false=>rw [cond_false];omega
   | true=>rw [cond_true];exact Nat.or_lt_two_pow (by omega) h2
def Rb.exI (b:Rb) (k i:Nat):Bool:=match b.rods[i]? with | some x=>b.ex k x | none=>false
def Rb.bits (b:Rb) (k j:Nat):Nat:=Z3V (b.exI k) j
def Rb.all (b:Rb) (k:Nat):Nat:=b.bits k b.rods.length
theorem Rb.bits_step {b:Rb} {k j:Nat} {x:Rd} (h:b.rods[j]?=some x):b.bits k (j+1)=bif b.ex k x then b.bits k j|||1*2 ^ j else b.bits k j:=by
 unfold Rb.bits
 rw [Nat.one_mul]
 show (bif b.exI k j then _ else _)=_
 rw [show b.exI k j=b.ex k x by unfold Rb.exI;rw [h]]
theorem Rb.bits_lt (b:Rb) (k j:Nat):b.bits k j<2 ^ j:=Z4u _ _
theorem Rb.all_test {b:Rb} {k i:Nat}:(b.all k).testBit i=true↔∃ x,b.rods[i]?=some x∧b.expl k x:=by
 unfold Rb.all Rb.bits
 rw [Z46,Bool.and_eq_true,decide_eq_true_eq]
 unfold Rb.exI
 constructor
 · rintro ⟨h1,h2⟩
   rw [List.getElem?_eq_getElem h1] at h2
   exact ⟨_,List.getElem?_eq_getElem h1,Rb.ex_iff.1 h2⟩
 · rintro ⟨x,h1,h2⟩
   exact ⟨(List.getElem?_eq_some_iff.1 h1).1,by rw [h1];exact Rb.ex_iff.2 h2⟩
def Rb.key (b:Rb) (k:Nat):List Int:=[((k%b.cols:Nat):Int),((k / b.cols:Nat):Int)]
theorem Rb.key_inj {b:Rb} {k k':Nat} (h:b.key k=b.key k'):k=k':=by
 unfold Rb.key at h
 simp only [List.cons.injEq,and_true] at h
 have h1:k%b.cols=k'%b.cols:=by omega
 have h2:k / b.cols=k' / b.cols:=by omega
 rw [← Nat.div_add_mod k b.cols,← Nat.div_add_mod k' b.cols,h1,h2]
def Rb.want (b:Rb) (K j k:Nat):Nat:=bif decide (k<K) then b.all k else bif decide (k=K) then b.bits k j else 0
theorem Rb.want_at (b:Rb) (K j:Nat):b.want K j K=b.bits K j:=by unfold Rb.want;rw [decide_eq_false (Nat.lt_irrefl K),decide_eq_true rfl];rfl
theorem Rb.want_next (b:Rb) (K:Nat):b.want (K+1) 0=b.want K b.rods.length:=by
 funext k
 unfold Rb.want
 rcases Nat.lt_trichotomy k K with h | h | h
 · rw [decide_eq_true (show k<K+1 by omega),decide_eq_true h];rfl
 · subst h
   rw [decide_eq_true (show k<k+1 by omega),decide_eq_false (Nat.lt_irrefl k),decide_eq_true rfl];rfl
 · rw [decide_eq_false (show ¬ k<K+1 by omega),decide_eq_false (show ¬ k<K by omega),decide_eq_false (show ¬ k=K by omega)]
   cases h2:decide (k=K+1) with
   | false=>rfl
   | true=>exact (of_decide_eq_true h2)▸rfl
theorem Z7w:∀ (l:KV) (k:List Int) (v:Value),(l.put k v).map (·.1)=if k∈l.map (·.1) then l.map (·.1) else l.map (·.1)++[k]
 | [],k,v=>by simp [KV.put]
 | (a,u)::l,k,v=>by
   have ih:=Z7w l k v
   unfold KV.put
   by_cases h:a=k
   · subst h;simp
   · rw [decide_eq_false h,cond_false,List.map_cons,ih,List.map_cons]
     have e:k∈(a::l.map (·.1))↔k∈l.map (·.1):=by simp [show k≠a from fun e=>h e.symm]
     by_cases h2:k∈l.map (·.1)
     · rw [if_pos h2,if_pos (e.2 h2)]
     · rw [if_neg h2,if_neg (fun h3=>h2 (e.1 h3))];rfl
theorem Zae {l:KV} (h:(l.map (·.1)).Nodup) (k:List Int) (v:Value):((l.put k v).map (·.1)).Nodup:=by
 rw [Z7w]
 split
 · exact h
 · rename_i hn
   rw [List.nodup_append]
   exact ⟨h,by simp,fun a ha b hb e=>by rw [List.mem_singleton.1 hb] at e;exact hn (e▸ha)⟩
theorem ZcI:∀ {l:KV},(l.map (·.1)).Nodup→∀ {e:List Int×Value},e∈l→l.get e.1=some e.2
 | [],_,e,he=>by cases he
 | (a,u)::l,h,e,he=>by
   rw [List.map_cons,List.nodup_cons] at h
   unfold KV.get
   rcases List.mem_cons.1 he with rfl | he
   · simp
   · have hne:¬ a=e.1:=fun h2=>h.1 (show a∈l.map (·.1) by rw [h2];exact List.mem_map_of_mem he)
     have ih:=ZcI h.2 he
     unfold KV.get at ih
     rw [List.find?_cons,decide_eq_false hne];exact ih
structure KvR (b:Rb) (f:Nat→Nat) (kv:KV):Prop where
 len:∀ e∈kv,e.1.length=2
 key:∀ e∈kv,∃ k,k<b.n∧e.1=b.key k
 nd:(kv.map (·.1)).Nodup
 at_:∀ k,k<b.n→(kv.get (b.key k)).getD (.int .i64 0) = .int .i64 ((f k:Nat):Int)
theorem KvR.ent {b:Rb} {f:Nat→Nat} {kv:KV} (h:KvR b f kv) {e:List Int×Value} (he:e∈kv):∃ k,k<b.n∧e=(b.key k,.int .i64 ((f k:Nat):Int)):=by
 obtain ⟨k,h1,h2⟩:=h.key e he
 have h3:=h.at_ k h1
 rw [← h2,ZcI h.nd he] at h3
 have h4:e.2 = .int .i64 ((f k:Nat):Int):=h3
 exact ⟨k,h1,by rw [← h2,← h4]⟩
theorem KvR.nil (b:Rb):KvR b (b.want 0 0) []:=⟨by simp,by simp,by simp,fun k _=>by
 have e:b.want 0 0 k=0:=by
   unfold Rb.want
   rw [decide_eq_false (Nat.not_lt_zero k),cond_false]
   cases decide (k=0)<;>rfl
 rw [e];rfl⟩
theorem KvR.put {b:Rb} {f f':Nat→Nat} {kv:KV} (h:KvR b f kv) {k v:Nat} (hk:k<b.n) (hf:∀ q,f' q=bif decide (q=k) then v else f q):KvR b f' (kv.put (b.key k) (.int .i64 ((v:Nat):Int))):=by
 refine ⟨fun e he=>?_,fun e he=>?_,Zae h.nd _ _,fun q hq=>?_⟩
 · rcases KV.put_mem he with rfl | he
   · rfl
   · exact h.len e he
 · rcases KV.put_mem he with rfl | he
   · exact ⟨k,hk,rfl⟩
   · exact h.key e he
 · rw [KV.get_put,hf]
   by_cases e:q=k
   · subst e
     rw [decide_eq_true rfl,decide_eq_true rfl];rfl
   · rw [decide_eq_false (show ¬ b.key k=b.key q from fun e2=>e (Rb.key_inj e2).symm),decide_eq_false e]
     exact h.at_ q hq
theorem Rb.want_step {b:Rb} {k j q:Nat}:b.want k (j+1) q=bif decide (q=k) then b.bits k (j+1) else b.want k j q:=by
 unfold Rb.want
 by_cases h1:q=k
 · subst h1
   rw [decide_eq_false (Nat.lt_irrefl q),decide_eq_true rfl];rfl
 · rw [decide_eq_false h1];rfl
theorem Rb.want_same {b:Rb} {k j q:Nat}:b.want k j q=bif decide (q=k) then b.bits k j else b.want k j q:=by
 by_cases h1:q=k
 · subst h1;rw [decide_eq_true rfl,b.want_at];rfl
 · rw [decide_eq_false h1];rfl
theorem KvR.same {b:Rb} {k j:Nat} {kv:KV} (h:KvR b (b.want k j) kv) (hb:b.bits k (j+1)=b.bits k j):KvR b (b.want k (j+1)) kv:=by
 have e:b.want k (j+1)=b.want k j:=funext fun q=>by rw [Rb.want_step,hb,← Rb.want_same]
 rw [e];exact h
theorem KvR.next {b:Rb} {k:Nat} {kv:KV} (h:KvR b (b.want k b.rods.length) kv):KvR b (b.want (k+1) 0) kv:=by rw [Rb.want_next];exact h
theorem KvR.all {b:Rb} {kv:KV} (h:KvR b (b.want b.n 0) kv):KvR b b.all kv:=⟨h.len,h.key,h.nd,fun k hk=>by rw [h.at_ k hk];unfold Rb.want;rw [decide_eq_true hk];rfl⟩
theorem Z80 {kv:KV} {k:List Int} {v:Value} (h:kv.get k=some v):(k,v)∈kv:=by
 unfold KV.get at h
 obtain ⟨e,h1,h2⟩:=Option.map_eq_some_iff.1 h
 have h3:=List.mem_of_find?_eq_some h1
 have h4:=List.find?_some h1
 have h5:e.1=k:=of_decide_eq_true h4
 rw [← h5,← h2];exact h3
theorem KvR.has {b:Rb} {f:Nat→Nat} {kv:KV} (h:KvR b f kv) {k:Nat} (hk:k<b.n) (h0:f k≠0):(b.key k,.int .i64 ((f k:Nat):Int))∈kv:=by
 have h1:=h.at_ k hk
 cases hg:kv.get (b.key k) with
 | none =>
   rw [hg] at h1
   have h2:Value.int .i64 0 = .int .i64 ((f k:Nat):Int):=h1
   injection h2 with _ h3
   exact absurd (show f k=0 by omega) h0
 | some v =>
   rw [hg] at h1
   have h2:v = .int .i64 ((f k:Nat):Int):=h1
   rw [← h2];exact Z80 hg
structure Oth (b:Rb) (k:Nat) (kv:KV) (seen:List Nat) (m:Nat):Prop where
 lt:m<2 ^ 8
 bit:∀ i,m.testBit i=true↔∃ j k',j∈seen∧kv[j]?=some (b.key k',.int .i64 ((b.all k':Nat):Int))∧k'≠k∧k'<b.n∧(b.all k').testBit i=true
theorem Oth.start (b:Rb) (k:Nat) (kv:KV):Oth b k kv [] 0:=⟨by decide,fun i=>by simp⟩
theorem Rb.all_lt {b:Rb} (h:b.rods.length≤8) (k:Nat):b.all k<2 ^ 8:=Nat.lt_of_lt_of_le (b.bits_lt k _) (Nat.pow_le_pow_right (by decide) h)
theorem Oth.skip {b:Rb} {k:Nat} {kv:KV} {seen:List Nat} {m j:Nat} (h:Oth b k kv seen m) (hj:kv[j]?=some (b.key k,.int .i64 ((b.all k:Nat):Int))):Oth b k kv (seen++[j]) m:=⟨h.lt,fun i=>by
 rw [h.bit i]
 constructor
 · rintro ⟨j',k',h1,h2⟩
   exact ⟨j',k',List.mem_append_left _ h1,h2⟩
 · rintro ⟨j',k',h1,h2,h3,h4⟩
   rcases List.mem_append.1 h1 with h5 | h5
   · exact ⟨j',k',h5,h2,h3,h4⟩
   · rw [List.mem_singleton.1 h5,hj] at h2
     injection h2 with h2
     injection h2 with h2 _
     exact absurd (Rb.key_inj h2).symm h3⟩
theorem Oth.more {b:Rb} (hr:b.rods.length≤8) {k k':Nat} {kv:KV} {seen:List Nat} {m j:Nat} (h:Oth b k kv seen m) (hk:k'≠k) (hn:k'<b.n) (hj:kv[j]?=some (b.key k',.int .i64 ((b.all k':Nat):Int))):Oth b k kv (seen++[j]) (m|||b.all k'):=⟨Nat.or_lt_two_pow h.lt (Rb.all_lt hr k'),fun i=>by
 rw [Nat.testBit_or,Bool.or_eq_true,h.bit i]
 constructor
 · rintro (⟨j',q,h1,h2⟩ | h1)
   · exact ⟨j',q,List.mem_append_left _ h1,h2⟩
   · exact ⟨j,k',by simp,hj,hk,hn,h1⟩
 · rintro ⟨j',q,h1,h2,h3,h4,h5⟩
   rcases List.mem_append.1 h1 with h6 | h6
   · exact .inl ⟨j',q,h6,h2,h3,h4,h5⟩
   · rw [List.mem_singleton.1 h6,hj] at h2
     injection h2 with h2
     injection h2 with h2 _
     rw [← Rb.key_inj h2] at h5
     exact .inr h5⟩
def Rb.aloneB (b:Rb) (k:Nat):Bool:=(List.range b.rods.length).any fun i=>(b.all k).testBit i&&!((List.range b.n).any fun j=>!(decide (j=k))&&(b.all j).testBit i)
theorem Rb.alone_iff {b:Rb} {k:Nat}:b.aloneB k=true↔b.alone k:=by
 unfold Rb.aloneB Rb.alone
 rw [List.any_eq_true]
 constructor
 · rintro ⟨i,_,h1⟩
   rw [Bool.and_eq_true] at h1
   obtain ⟨x,hx,he⟩:=Rb.all_test.1 h1.1
   refine ⟨i,x,hx,he,fun j hj hne hej=>?_⟩
   have h2:=h1.2
   rw [Bool.not_eq_true'] at h2
   have h3:=List.any_eq_false.1 h2 j (List.mem_range.2 hj)
   rw [decide_eq_false hne,Rb.all_test.2 ⟨x,hx,hej⟩] at h3
   exact h3 rfl
 · rintro ⟨i,x,hx,he,hno⟩
   refine ⟨i,List.mem_range.2 (List.getElem?_eq_some_iff.1 hx).1,?_⟩
   rw [Rb.all_test.2 ⟨x,hx,he⟩,Bool.true_and,Bool.not_eq_true',List.any_eq_false]
   intro j hj h
   rw [Bool.and_eq_true,Bool.not_eq_true',decide_eq_false_iff_not] at h
   obtain ⟨y,hy,hey⟩:=Rb.all_test.1 h.2
   rw [hx] at hy;cases hy
   exact hno j (List.mem_range.1 hj) h.1 hey
theorem Oth.done {b:Rb} {k:Nat} {kv:KV} {seen:List Nat} {m:Nat} (h:Oth b k kv seen m) (hv:KvR b b.all kv) (hs:∀ j,j<kv.length→j∈seen) (i:Nat):m.testBit i=true↔∃ k',k'<b.n∧k'≠k∧(b.all k').testBit i=true:=by
 rw [h.bit i]
 constructor
 · rintro ⟨j,k',_,_,h1,h2,h3⟩;exact ⟨k',h2,h1,h3⟩
 · rintro ⟨k',h1,h2,h3⟩
   have h4:=hv.has h1 (fun e=>by rw [e] at h3;simp at h3)
   obtain ⟨j,hj⟩:=List.getElem?_of_mem h4
   exact ⟨j,k',hs j (List.getElem?_eq_some_iff.1 hj).1,hj,h2,h1,h3⟩
theorem Oth.alone {b:Rb} (hr:b.rods.length≤8) {k:Nat} {kv:KV} {seen:List Nat} {m:Nat} (h:Oth b k kv seen m) (hv:KvR b b.all kv) (hs:∀ j,j<kv.length→j∈seen):decide (((b.all k&&&(18446744073709551615-m):Nat):Int)≠0)=b.aloneB k:=by
 have hl:=h.lt
 have hk:=Rb.all_lt hr k
 have e:(b.all k&&&(18446744073709551615-m)=0)↔b.all k&&&m=b.all k:=Z1L (by omega) (by omega)
 rw [Bool.eq_iff_iff,decide_eq_true_eq,Rb.alone_iff]
 have key:b.all k&&&m=b.all k↔¬ b.alone k:=by
   constructor
   · rintro h1 ⟨i,x,hx,he,hno⟩
     have h2:(b.all k).testBit i=true:=Rb.all_test.2 ⟨x,hx,he⟩
     rw [← h1,Nat.testBit_and,Bool.and_eq_true] at h2
     obtain ⟨k',g1,g2,g3⟩:=(h.done hv hs i).1 h2.2
     obtain ⟨y,hy,hey⟩:=Rb.all_test.1 g3
     rw [hx] at hy;cases hy
     exact hno k' g1 g2 hey
   · intro h1
     apply Nat.eq_of_testBit_eq
     intro i
     rw [Nat.testBit_and]
     cases h2:(b.all k).testBit i with
     | false=>rfl
     | true =>
       rw [Bool.true_and]
       obtain ⟨x,hx,he⟩:=Rb.all_test.1 h2
       refine (h.done hv hs i).2 (Classical.byContradiction fun hn=>h1 ⟨i,x,hx,he,fun j hj hne hej=>hn ⟨j,hj,hne,Rb.all_test.2 ⟨x,hx,hej⟩⟩⟩)
 constructor
 · intro h1
   exact Classical.byContradiction fun h2=>h1 (by rw [e.2 (key.2 h2)];rfl)
 · intro h1 h2
   exact key.1 (e.1 (by omega)) h1
open Go
theorem ZG:Z1g Tryz.prog 39=some 3:=by kernel_rfl
theorem Z1Z:Z1g Tryz.prog 43=some 2:=by kernel_rfl
theorem ZaH:Z1g Tryz.prog 50=some 4:=by kernel_rfl
theorem Zfo:cal Tryz.prog 108=true:=by kernel_rfl
theorem Zfp:cal Tryz.prog 109=true:=by kernel_rfl
theorem Z5t:cal Tryz.prog 110=true:=by kernel_rfl
theorem Zfr:cal Tryz.prog 111=true:=by kernel_rfl
theorem ZfI:cal Tryz.prog 146=true:=by kernel_rfl
theorem Z5u:cal Tryz.prog 147=true:=by kernel_rfl
theorem ZgI:cal Tryz.prog 32=true:=by kernel_rfl
theorem Z5v:cal Tryz.prog 33=true:=by kernel_rfl
theorem ZgL:cal Tryz.prog 67=true:=by kernel_rfl
theorem ZiV:cal Tryz.prog 68=true:=by kernel_rfl
theorem ZiW:cal Tryz.prog 69=true:=by kernel_rfl
theorem Z3R:elN Tryz.prog 30=some 1:=by kernel_rfl
theorem ZdG:elN Tryz.prog 37=some 4:=by kernel_rfl
theorem Z1q:ZT Tryz.prog 39 0=some 0:=by kernel_rfl
theorem Z1r:ZT Tryz.prog 39 1=some 1:=by kernel_rfl
theorem Z0a:ZT Tryz.prog 39 2=some 2:=by kernel_rfl
theorem Z2a:ZT Tryz.prog 43 0=some 0:=by kernel_rfl
theorem Z2b:ZT Tryz.prog 43 1=some 1:=by kernel_rfl
theorem Z4a:ZT Tryz.prog 50 0=some 0:=by kernel_rfl
theorem Z4b:ZT Tryz.prog 50 1=some 2:=by kernel_rfl
theorem Z2H:ZT Tryz.prog 50 2=some 3:=by kernel_rfl
theorem Z04:Z2n Tryz.prog 30=true:=by kernel_rfl
theorem Z3Z:Z2n Tryz.prog 37=true:=by kernel_rfl
theorem Zab:ZL Tryz.prog 43=some [(0,1),(1,1)]:=by kernel_rfl
theorem Z51:Z0g Tryz.prog 131=true:=by kernel_rfl
theorem ZjI:Z0g Tryz.prog 151=true:=by kernel_rfl
theorem sc3:Z0g Tryz.prog 3=true:=by kernel_rfl
theorem Z52:Z0g Tryz.prog 37=true:=by kernel_rfl
theorem Z3S:Zw Tryz.prog 43=some ([.int .i64 0,.int .i64 0]):=by kernel_rfl
structure Rb.ok (b:Rb):Prop where
 cols:1≤b.cols∧b.cols≤5
 rows:1≤b.rows∧b.rows≤5
 few:b.rods.length≤8
 rod:∀ x∈b.rods,(0≤x.c∧x.c<b.cols)∧(0≤x.r∧x.r<b.rows)∧(0≤x.g∧x.g≤3)∧0≤x.s∧x.s≤9
def na (l:List Int) (k:Nat):Int:=l.getD k 0
@[reducible] def inR (n lo hi : Int) : Bool := decide (lo ≤ n) && decide (n ≤ hi)
def rdrow (x:Rd):List Value:=[.int .i64 x.c,.int .i64 x.r,.int .i64 x.g,.int .i64 x.s]
def rdrows (l:List Rd):List (List Value):=l.map rdrow
abbrev irows (l:List Int):List (List Value):=l.map fun z=>[.int .i64 z]
def rbl (b:Rb) (a:Option Addr) (c:Nat):List Value:=[.int .i64 (b.cols:Int),.int .i64 (b.rows:Int),.slice a b.rods.length c]
def Rb.v (b:Rb) (a:Option Addr) (c:Nat):Value:=.agg (rbl b a c).toArray
theorem Z7y {l:List Rd} {k:Nat} {x:Rd} (h:l[k]?=some x):(rdrows l)[k]?=some (rdrow x):=by simp [rdrows,h]
theorem rd_len (l:List Rd):(rdrows l).length=l.length:=List.length_map _
theorem Z6Q (l:List Rd):∀ r∈rdrows l,r.length=4:=fun r hr=>by obtain ⟨x,_,rfl⟩:=List.mem_map.1 hr;rfl
theorem Z1s {l:List Int} {k:Nat} {x:Int} (h:l[k]?=some x):(irows l)[k]?=some [.int .i64 x]:=by simp [irows,h]
theorem irl (l:List Int):(irows l).length=l.length:=List.length_map _
theorem Z6 (l:List Int):(Zj l).length=l.length:=by simp [Zj]
theorem Z0x {l:List Int} {k:Nat} {v:Int} (h:l[k]?=some v):(Zj l)[k]?=some (.int .i64 v):=by simp [Zj,h]
theorem na_get {l:List Int} {k:Nat} (h:k<l.length):l[k]?=some (na l k):=by
 unfold na;rw [List.getD_eq_getElem?_getD,List.getElem?_eq_getElem h];rfl
theorem Z4c {w:List Int} {k i:Nat} (hk:k<w.length) (e:i=k):(Zj w)[i]?=some (.int .i64 (na w k)):=by
 subst e;exact Z0x (na_get hk)
theorem Z6B {n lo hi:Int} (h:lo≤n∧n≤hi):inR n lo hi=true:=by simp [inR,h]
def dsI (c1 r1 c2 r2:Int):Int:=max (c1-c2) (-(c1-c2))+max (r1-r2) (-(r1-r2))
theorem Zh2 (cols k:Nat) (c r:Int):dsC cols k c r=dsI ((k%cols:Nat):Int) ((k / cols:Nat):Int) c r:=rfl
theorem Rb.lt {b:Rb} (hb:b.ok) {k:Nat} (hk:k<b.n):k%b.cols<b.cols∧k / b.cols<b.rows∧k<25:=by
 have h1:=hb.cols
 have h2:=hb.rows
 unfold Rb.n at hk
 refine ⟨Nat.mod_lt _ (by omega),Nat.div_lt_of_lt_mul hk,?_⟩
 have h3:b.cols*b.rows≤5*5:=Nat.mul_le_mul h1.2 h2.2
 omega
theorem Rb.n_le {b:Rb} (hb:b.ok):1≤b.n∧b.n≤25:=by
 have h1:=hb.cols
 have h2:=hb.rows
 have h3:b.cols*b.rows≤5*5:=Nat.mul_le_mul h1.2 h2.2
 have h4:1*1≤b.cols*b.rows:=Nat.mul_le_mul h1.1 h2.1
 exact ⟨by unfold Rb.n;omega,by unfold Rb.n;omega⟩
theorem Rb.d_bd {b:Rb} (hb:b.ok) {k:Nat} (hk:k<b.n) {x:Rd} (hx:(0≤x.c∧x.c<5)∧0≤x.r∧x.r<5):0≤b.d k x∧b.d k x≤20:=by
 obtain ⟨h1,h2,_⟩:=Rb.lt hb hk
 have h3:=hb.cols
 have h4:=hb.rows
 unfold Rb.d dsC
 generalize k%b.cols=u at h1 ⊢
 generalize k / b.cols=v at h2 ⊢
 simp only [Int.max_def]
 split<;>split<;>omega
theorem Zr {α:Type} {xs:List α} {p:α→Bool} {k:Nat} {x:α} (hx:xs[k]?=some x) (hn:∀ y∈xs.take k,p y=false) (h:p x=true):xs.findIdx? p=some k:=by
 induction xs generalizing k with
 | nil=>simp at hx
 | cons y ys ih =>
   cases k with
   | zero=>simp only [List.getElem?_cons_zero,Option.some.injEq] at hx;subst hx;simp [List.findIdx?_cons,h]
   | succ k =>
     have hy:=hn y (by simp)
     have:=ih (by simpa using hx) (fun z hz=>hn z (by simp [hz]))
     simp [List.findIdx?_cons,hy,this]
theorem Zp {α:Type} {xs:List α} {p:α→Bool} (hn:∀ y∈xs,p y=false):xs.findIdx? p=none:=by
 rw [List.findIdx?_eq_none_iff];exact hn
theorem ZJ {α:Type} {xs:List α} {p:α→Bool} {k:Nat} {x:α} (hx:xs[k]?=some x) (hn:∀ y∈xs.take k,p y=false) (h:p x=false):∀ y∈xs.take (k+1),p y=false:=by
 intro y hy
 rw [List.take_add_one,hx] at hy
 rcases List.mem_append.1 hy with h1 | h1
 · exact hn y h1
 · simp only [Option.toList_some,List.mem_singleton] at h1;subst h1;exact h
theorem Z0b {α:Type} (xs:List α) (p:α→Bool):Value.bool (decide (0≤(match xs.findIdx? p with | some k=>(k:Int) | none => -1))) = .bool (xs.any p):=by
 congr 1
 cases h:xs.findIdx? p with
 | none =>
   have:=List.findIdx?_eq_none_iff.1 h
   have h2:xs.any p=false:=by simpa using this
   rw [h2];rfl
 | some k =>
   have h2:xs.any p=true:=by
     rw [← Bool.not_eq_false];intro h3
     have:xs.findIdx? p=none:=List.findIdx?_eq_none_iff.2 (by simpa using h3)
     rw [this] at h;cases h
   rw [h2];simp
theorem Zx {α:Type} (xs:List α) (p:α→Bool):Value.bool (!xs.any fun x=>!p x) = .bool (xs.all p):=by
 congr 1
 induction xs with
 | nil=>rfl
 | cons x xs ih=>simp [← ih]
theorem Z6l (n lo hi:Int) (H:Z7) (R:Z4) :
    FnV Tryz.prog 33 [.int .i64 n,.int .i64 lo,.int .i64 hi] H R (.bool (inR n lo hi)):=by
 refine Z9 Tryz.func33 rfl Tryz.ntmps33 rfl ?_
 refine sqt 1 rfl (pur 1 rfl (sqt 9 rfl (pur 4 rfl ?_)))
 refine Zv 10 rfl ?_ ?_<;>intro g10
 refine pur 5 rfl (Z5 ?_)
 exact rtA rfl rfl rfl ⟨by simp_all only [Z08,inR,Bool.true_and,Bool.false_and,cond_true,cond_false],rfl,rfl⟩ drp
 refine pur 5 rfl (Z5 ?_)
 exact rtA rfl rfl rfl ⟨by simp_all only [Z08,inR,Bool.true_and,Bool.false_and,cond_true,cond_false],rfl,rfl⟩ drp
theorem Z0w (n lo hi:Int) (h:lo≤n∧n≤hi) (H:Z7) (R:Z4):FnV Tryz.prog 33 [.int .i64 n,.int .i64 lo,.int .i64 hi] H R (.bool true):=by
 have:=Z6l n lo hi H R
 rwa [Z6B h] at this
theorem Z92 (xs:List Rd) (a:Option Addr) (c g:Nat) (fst cap:List Value) (p:Rd→Bool) (hg:cal Tryz.prog g=true) (hl:xs.length≤9223372036854775807) (H:Z7) (R:Z4) [hR:MemRows a 4 (rdrows xs) R] (hp:∀ x,x∈xs→FnV Tryz.prog g (fst++[.agg (rdrow x).toArray]++cap) H R (.bool (p x))) :
    FnV Tryz.prog 146 [.slice a xs.length c,.func (.func g) fst.toArray cap.toArray] H R (.int .i64 (match xs.findIdx? p with | some k=>(k:Int) | none => -1)):=by
 refine Z9 Tryz.func146 rfl Tryz.ntmps146 rfl ?_
 refine sqt 1 rfl (pur 1 rfl (Z0 (sqt 3 rfl (pur 1 rfl (sp rfl (PE.lenSl Z3Z rfl) rfl (pur 1 rfl (Z1 ?_)))))))
 refine Zc (ι:={k:Nat // k≤xs.length∧∀ x∈xs.take k,p x=false}) (fun k=>⟨[(0,.slice a xs.length c),(1,.func (.func g) fst.toArray cap.toArray),(7,.int .i64 xs.length),(8,.int .i64 k.1)],H,R⟩) (fun k=>xs.length-k.1) ⟨0,by simp⟩ ?_ (fun k=>?_)
 exact Zf idH
 obtain ⟨k,hk,hn⟩:=k
 dsimp only
 refine sqt 1 rfl (pur 1 rfl (Z0 ?_))
 refine Z2 rfl ?_ ?_<;>intro hc0
 simp only [cS] at hc0
 obtain ⟨x,hx⟩:∃ x,xs[k]?=some x:=⟨_,List.getElem?_eq_getElem (by omega)⟩
 have hxm:=List.mem_of_getElem? hx
 refine Zl (a:=a) (sz:=4) (rows:=rdrows xs) (by cases xs<;>simp_all [rdrows]) (fun b off he=>?_)
 subst he
 refine Z3 (Z0 (Z1 (sqt 2 rfl (pur 2 rfl (sqt 6 rfl (pur 3 rfl (sp rfl (PE.indexAddr ZdG rfl rfl (by omega) (by omega)) rfl (spL rfl rfl (lfA ZaH (row:=rdrow x) (by simp [rdrows,hx]) rfl) rfl ?_))))))))
 refine Z2r rfl rfl (hg) rfl rfl (hp x hxm) ?_
 refine Z2 rfl ?_ ?_<;>intro hc1
 refine sqt 2 rfl (pur 2 rfl (Z5 ?_))
 first | (exact rtA rfl rfl rfl ⟨by rw [Zr hx hn hc1];rfl,rfl,rfl⟩ idH) | (exact rtA rfl rfl rfl ⟨by rw [Zp (by simpa using hn)];rfl,rfl,rfl⟩ idH)
 refine Z3 (sqr 2 rfl (sp rfl (PE.add rfl rfl (by omega)) rfl (pur 1 rfl ?_)))
 exact Zb ⟨k+1,by omega,ZJ hx hn hc1⟩ idH
 simp only [cS] at hc0
 obtain rfl:k=xs.length:=by omega
 refine Z8 (Za (Za (Zn (sqt 1 rfl (pur 1 rfl (Z5 ?_))))))
 first | (exact rtA rfl rfl rfl ⟨by rw [Zr hx hn hc1];rfl,rfl,rfl⟩ idH) | (exact rtA rfl rfl rfl ⟨by rw [Zp (by simpa using hn)];rfl,rfl,rfl⟩ idH)
theorem Z8W (xs:List Rd) (a:Option Addr) (c g:Nat) (fst cap:List Value) (p:Rd→Bool) (hg:cal Tryz.prog g=true) (hl:xs.length≤9223372036854775807) (H:Z7) (R:Z4) [hR:MemRows a 4 (rdrows xs) R] (hp:∀ x,x∈xs→FnV Tryz.prog g (fst++[.agg (rdrow x).toArray]++cap) H R (.bool (p x))) :
    FnV Tryz.prog 108 [.slice a xs.length c,.func (.func g) fst.toArray cap.toArray] H R (.bool (xs.any p)):=by
 refine Z9 Tryz.func108 rfl Tryz.ntmps108 rfl ?_
 refine sqt 1 rfl (pur 1 rfl (sqt 5 rfl (pur 2 rfl ?_)))
 refine clV rfl ZfI rfl rfl (Z92 xs a c g fst cap p hg hl _ _ hp) ?_
 refine pur 2 rfl (Z5 ?_)
 exact rtA rfl rfl rfl ⟨by simp only [Z08];exact Z0b _ _,rfl,rfl⟩ drp
theorem Z8N (x:Rd) (g bf:Nat) (fst cap:List Value) (p:Bool) (hg:cal Tryz.prog g=true) (H:Z7) (R:Z4) [hM:Mem1 bf (cel 151 [.func (.func g) fst.toArray cap.toArray]) H] (hp:∀ b,FnV Tryz.prog g (fst++[.agg (rdrow x).toArray]++cap) ((b,cel 50 (rdrow x))::H) R (.bool p)) :
    FnV Tryz.prog 109 [.agg (rdrow x).toArray,.pointer (some ⟨bf,0,none⟩)] H R (.bool !p):=by
 refine Z9 Tryz.func109 rfl Tryz.ntmps109 rfl ?_
 refine sqt 2 rfl (bx rfl rfl rfl (fun b2=>pur 1 rfl (sqt 5 rfl (spL rfl rfl (lh ZjI rfl rfl) rfl (spL rfl rfl (lhA [_,_,_,_] ZaH rfl rfl rfl) rfl ?_)))))
 refine Z2r rfl rfl (hg) rfl rfl (hp _) ?_
 refine pur 2 rfl (Z5 ?_)
 exact rtA rfl rfl rfl ⟨rfl,rfl,rfl⟩ drp
theorem Z3c (xs:List Rd) (a:Option Addr) (c g:Nat) (fst cap:List Value) (p:Rd→Bool) (hg:cal Tryz.prog g=true) (hl:xs.length≤9223372036854775807) (H:Z7) (R:Z4) [hR:MemRows a 4 (rdrows xs) R] (hp:∀ b b2 x,x∈xs→FnV Tryz.prog g (fst++[.agg (rdrow x).toArray]++cap) ((b2,cel 50 (rdrow x))::(b,cel 151 [.func (.func g) fst.toArray cap.toArray])::H) R (.bool (p x))) :
    FnV Tryz.prog 67 [.slice a xs.length c,.func (.func g) fst.toArray cap.toArray] H R (.bool (xs.all p)):=by
 refine Z9 Tryz.func67 rfl Tryz.ntmps67 rfl ?_
 refine sqt 2 rfl (bx rfl rfl rfl (fun b3=>pur 1 rfl (sqt 5 rfl (pur 1 rfl (sp rfl (PE.makeFunc rfl rfl) rfl ?_)))))
 refine clV rfl Zfo rfl rfl (Z8W xs a c 109 [] [_] (fun x=>!p x) Zfp hl _ _ (hp:=fun x hx=>Z8N x g _ fst cap (p x) hg _ _ (hp:=fun b=>hp _ _ x hx))) ?_
 refine pur 2 rfl (Z5 ?_)
 exact rtA rfl rfl rfl ⟨by simp only [Z08];rw [Zx],rfl,rfl⟩ drp
theorem Z1m (xs:List Int) (a:Option Addr) (c g:Nat) (fst cap:List Value) (p:Int→Bool) (hg:cal Tryz.prog g=true) (hl:xs.length≤9223372036854775807) (H:Z7) (R:Z4) [hR:MemRows a 1 (irows xs) R] (hp:∀ x,x∈xs→FnV Tryz.prog g (fst++[.int .i64 x]++cap) H R (.bool (p x))) :
    FnV Tryz.prog 147 [.slice a xs.length c,.func (.func g) fst.toArray cap.toArray] H R (.int .i64 (match xs.findIdx? p with | some k=>(k:Int) | none => -1)):=by
 refine Z9 Tryz.func147 rfl Tryz.ntmps147 rfl ?_
 refine sqt 1 rfl (pur 1 rfl (Z0 (sqt 3 rfl (pur 1 rfl (sp rfl (PE.lenSl Z04 rfl) rfl (pur 1 rfl (Z1 ?_)))))))
 refine Zc (ι:={k:Nat // k≤xs.length∧∀ x∈xs.take k,p x=false}) (fun k=>⟨[(0,.slice a xs.length c),(1,.func (.func g) fst.toArray cap.toArray),(7,.int .i64 xs.length),(8,.int .i64 k.1)],H,R⟩) (fun k=>xs.length-k.1) ⟨0,by simp⟩ ?_ (fun k=>?_)
 exact Zf idH
 obtain ⟨k,hk,hn⟩:=k
 dsimp only
 refine sqt 1 rfl (pur 1 rfl (Z0 ?_))
 refine Z2 rfl ?_ ?_<;>intro hc0
 simp only [cS] at hc0
 obtain ⟨x,hx⟩:∃ x,xs[k]?=some x:=⟨_,List.getElem?_eq_getElem (by omega)⟩
 have hxm:=List.mem_of_getElem? hx
 refine Zl (a:=a) (sz:=1) (rows:=irows xs) (by cases xs<;>simp_all [irows]) (fun b off he=>?_)
 subst he
 refine Z3 (Z0 (Z1 (sqt 2 rfl (pur 2 rfl (sqt 6 rfl (pur 3 rfl (sp rfl (PE.indexAddr Z3R rfl rfl (by omega) (by omega)) rfl (spL rfl rfl (lf0 sc3 (by simp [irows,hx];rfl) rfl) rfl ?_))))))))
 refine Z2r rfl rfl (hg) rfl rfl (hp x hxm) ?_
 refine Z2 rfl ?_ ?_<;>intro hc1
 refine sqt 2 rfl (pur 2 rfl (Z5 ?_))
 first | (exact rtA rfl rfl rfl ⟨by rw [Zr hx hn hc1];rfl,rfl,rfl⟩ idH) | (exact rtA rfl rfl rfl ⟨by rw [Zp (by simpa using hn)];rfl,rfl,rfl⟩ idH)
 refine Z3 (sqr 2 rfl (sp rfl (PE.add rfl rfl (by omega)) rfl (pur 1 rfl ?_)))
 exact Zb ⟨k+1,by omega,ZJ hx hn hc1⟩ idH
 simp only [cS] at hc0
 obtain rfl:k=xs.length:=by omega
 refine Z8 (Za (Za (Zn (sqt 1 rfl (pur 1 rfl (Z5 ?_))))))
 first | (exact rtA rfl rfl rfl ⟨by rw [Zr hx hn hc1];rfl,rfl,rfl⟩ idH) | (exact rtA rfl rfl rfl ⟨by rw [Zp (by simpa using hn)];rfl,rfl,rfl⟩ idH)
theorem Z1l (xs:List Int) (a:Option Addr) (c g:Nat) (fst cap:List Value) (p:Int→Bool) (hg:cal Tryz.prog g=true) (hl:xs.length≤9223372036854775807) (H:Z7) (R:Z4) [hR:MemRows a 1 (irows xs) R] (hp:∀ x,x∈xs→FnV Tryz.prog g (fst++[.int .i64 x]++cap) H R (.bool (p x))) :
    FnV Tryz.prog 110 [.slice a xs.length c,.func (.func g) fst.toArray cap.toArray] H R (.bool (xs.any p)):=by
 refine Z9 Tryz.func110 rfl Tryz.ntmps110 rfl ?_
 refine sqt 1 rfl (pur 1 rfl (sqt 5 rfl (pur 2 rfl ?_)))
 refine clV rfl Z5u rfl rfl (Z1m xs a c g fst cap p hg hl _ _ hp) ?_
 refine pur 2 rfl (Z5 ?_)
 exact rtA rfl rfl rfl ⟨by simp only [Z08];exact Z0b _ _,rfl,rfl⟩ drp
theorem Z1k (x:Int) (g bf:Nat) (fst cap:List Value) (p:Bool) (hg:cal Tryz.prog g=true) (H:Z7) (R:Z4) [hM:Mem1 bf (cel 131 [.func (.func g) fst.toArray cap.toArray]) H] (hp:FnV Tryz.prog g (fst++[.int .i64 x]++cap) H R (.bool p)) :
    FnV Tryz.prog 111 [.int .i64 x,.pointer (some ⟨bf,0,none⟩)] H R (.bool !p):=by
 refine Z9 Tryz.func111 rfl Tryz.ntmps111 rfl ?_
 refine sqt 1 rfl (pur 1 rfl (sqt 5 rfl (spL rfl rfl (lh Z51 rfl rfl) rfl (pur 1 rfl ?_))))
 refine Z2r rfl rfl (hg) rfl rfl (hp) ?_
 refine pur 2 rfl (Z5 ?_)
 exact rtA rfl rfl rfl ⟨rfl,rfl,rfl⟩ drp
theorem Z07 (xs:List Int) (a:Option Addr) (c g:Nat) (fst cap:List Value) (p:Int→Bool) (hg:cal Tryz.prog g=true) (hl:xs.length≤9223372036854775807) (H:Z7) (R:Z4) [hR:MemRows a 1 (irows xs) R] (hp:∀ b x,x∈xs→FnV Tryz.prog g (fst++[.int .i64 x]++cap) ((b,cel 131 [.func (.func g) fst.toArray cap.toArray])::H) R (.bool (p x))) :
    FnV Tryz.prog 70 [.slice a xs.length c,.func (.func g) fst.toArray cap.toArray] H R (.bool (xs.all p)):=by
 refine Z9 Tryz.func70 rfl Tryz.ntmps70 rfl ?_
 refine sqt 2 rfl (bx rfl rfl rfl (fun b3=>pur 1 rfl (sqt 5 rfl (pur 1 rfl (sp rfl (PE.makeFunc rfl rfl) rfl ?_)))))
 refine clV rfl Z5t rfl rfl (Z1l xs a c 111 [] [_] (fun x=>!p x) Zfr hl _ _ (hp:=fun x hx=>Z1k x g _ fst cap (p x) hg _ _ (hp:=hp _ x hx))) ?_
 refine pur 2 rfl (Z5 ?_)
 exact rtA rfl rfl rfl ⟨by simp only [Z08];rw [Zx],rfl,rfl⟩ drp
theorem Zfh (b:Rb) (a:Option Addr) (c:Nat) (hb:b.ok) (x y:Int) (hx:0≤x∧x<b.cols) (hy:0≤y∧y<b.rows) (H:Z7) (R:Z4) :
    FnV Tryz.prog 32 [(b.v a c),.agg #[.int .i64 x,.int .i64 y]] H R (.bool true):=by
 have h1:=hb.cols
 have h2:=hb.rows
 refine Z9 Tryz.func32 rfl Tryz.ntmps32 rfl ?_
 refine sqt 3 rfl (bx rfl rfl rfl (fun b2=>bx rfl rfl rfl (fun b3=>pur 1 rfl (sqt 15 rfl (sp rfl (PE.fA Z2a rfl) rfl (spL rfl rfl (lh sc3 rfl rfl) rfl (sp rfl (PE.fA Z1q rfl) rfl (spL rfl rfl (lh sc3 rfl rfl) rfl (sp rfl (PE.sub rfl rfl (by omega)) rfl ?_)))))))))
 refine clV rfl Z5v rfl rfl (Z0w _ _ _ (by omega) _ _) ?_
 refine pur 1 rfl ?_
 refine Zv 11 rfl ?_ ?_<;>intro g11
 refine spG rfl rfl rfl rfl (PE.fA Z2b rfl) rfl ?_
 refine Z1b rfl rfl rfl rfl rfl (lh sc3 rfl rfl) rfl ?_
 refine spG rfl rfl rfl rfl (PE.fA Z1r rfl) rfl ?_
 refine Z1b rfl rfl rfl rfl rfl (lh sc3 rfl rfl) rfl ?_
 refine spG rfl rfl rfl rfl (PE.sub rfl rfl (by omega)) rfl ?_
 refine Z4A rfl rfl rfl rfl Z5v rfl rfl (Z0w _ _ _ (by omega) _ _) ?_
 refine pur 2 rfl (Z5 ?_)
 exact rtA rfl rfl rfl ⟨rfl,rfl,rfl⟩ drp
 exact absurd g11 (by simp)
theorem Z8S (c1 r1 c2 r2:Int) (h1 : -1000≤c1∧c1≤1000) (h2 : -1000≤r1∧r1≤1000) (h3 : -1000≤c2∧c2≤1000) (h4 : -1000≤r2∧r2≤1000) (H:Z7) (R:Z4) :
    FnV Tryz.prog 72 [.agg #[.int .i64 c1,.int .i64 r1],.agg #[.int .i64 c2,.int .i64 r2]] H R (.int .i64 (dsI c1 r1 c2 r2)):=by
 refine Z9 Tryz.func72 rfl Tryz.ntmps72 rfl ?_
 refine sqt 3 rfl (bx rfl rfl rfl (fun b2=>bx rfl rfl rfl (fun b3=>pur 1 rfl (Z0 ?_))))
 refine Zd [0,1,0,4,15,0,32,0,128,480,31,2047] (.tk 0 (.ld 1 (.tk 2 (.ld 3 (.tk 4 (.tk 5 (.ld 6 (.tk 7 (.ld 8 (tks 9 3 .done)))))))))) Zq (by kernel_rfl) ?_
 refine tk rfl (PE.fA Z2a rfl) rfl (ld rfl rfl (lh sc3 rfl rfl) rfl (tk rfl (PE.fA Z2a rfl) rfl (ld rfl rfl (lh sc3 rfl rfl) rfl (tk rfl (PE.sub rfl rfl (by omega)) rfl (tk rfl (PE.fA Z2b rfl) rfl (ld rfl rfl (lh sc3 rfl rfl) rfl (tk rfl (PE.fA Z2b rfl) rfl (ld rfl rfl (lh sc3 rfl rfl) rfl (tk rfl (PE.sub rfl rfl (by omega)) rfl (Zm 2 rfl (sqt 10 rfl (pur 2 rfl ?_))))))))))))
 refine sp rfl ((PE.negW rfl).to (show Value.int .i64 (IntKind.i64.wrap (0-(c1-c2)))=Value.int .i64 (-(c1-c2)) by rw [IntWalk.i64_in _ (by omega)];congr 1;omega)) rfl ?_
 refine sp rfl (PE.max rfl rfl) rfl (pur 2 rfl ?_)
 refine sp rfl ((PE.negW rfl).to (show Value.int .i64 (IntKind.i64.wrap (0-(r1-r2)))=Value.int .i64 (-(r1-r2)) by rw [IntWalk.i64_in _ (by omega)];congr 1;omega)) rfl ?_
 refine sp rfl (PE.max rfl rfl) rfl (sp rfl (PE.add rfl rfl (by omega)) rfl (pur 1 rfl (Z5 ?_)))
 exact rtA rfl rfl rfl ⟨rfl,rfl,rfl⟩ drp
theorem Z5n (b:Rb) (a:Option Addr) (c:Nat) (hb:b.ok) (x:Rd) (hx:x∈b.rods) (b1:Nat) (H:Z7) (R:Z4) [hM:Mem1 b1 (cel 39 (rbl b a c)) H] :
    FnV Tryz.prog 68 [.agg (rdrow x).toArray,.pointer (some ⟨b1,0,none⟩)] H R (.bool true):=by
 have hxo:=hb.rod x hx
 refine Z9 Tryz.func68 rfl Tryz.ntmps68 rfl ?_
 refine sqt 2 rfl (bx rfl rfl rfl (fun b2=>pur 1 rfl (sqt 5 rfl (spL rfl rfl (lhA (rbl b a c) ZG rfl rfl rfl) rfl (sp rfl (PE.fA Z4a rfl) rfl (spL rfl rfl (lhA [.int .i64 x.c,.int .i64 x.r] Z1Z rfl rfl rfl) rfl ?_))))))
 refine clV rfl ZgI rfl rfl (Zfh b a c hb x.c x.r hxo.1 hxo.2.1 _ _) ?_
 refine pur 1 rfl (Z5 ?_)
 exact rtA rfl rfl rfl ⟨rfl,rfl,rfl⟩ drp
theorem Z5o (b:Rb) (hb:b.ok) (x:Rd) (hx:x∈b.rods) (H:Z7) (R:Z4) :
    FnV Tryz.prog 69 [.agg (rdrow x).toArray] H R (.bool true):=by
 have hxo:=hb.rod x hx
 refine Z9 Tryz.func69 rfl Tryz.ntmps69 rfl ?_
 refine sqt 2 rfl (bx rfl rfl rfl (fun b1=>pur 1 rfl (sqt 9 rfl (sp rfl (PE.fA Z4b rfl) rfl (spL rfl rfl (lh sc3 rfl rfl) rfl ?_)))))
 refine clV rfl Z5v rfl rfl (Z0w _ _ _ (by omega) _ _) ?_
 refine pur 1 rfl ?_
 refine Zv 6 rfl ?_ ?_<;>intro g6
 refine spG rfl rfl rfl rfl (PE.fA Z2H rfl) rfl ?_
 refine Z1b rfl rfl rfl rfl rfl (lh sc3 rfl rfl) rfl ?_
 refine Z4A rfl rfl rfl rfl Z5v rfl rfl (Z0w _ _ _ (by omega) _ _) ?_
 refine pur 2 rfl (Z5 ?_)
 exact rtA rfl rfl rfl ⟨rfl,rfl,rfl⟩ drp
 exact absurd g6 (by simp)
theorem Z0M (b:Rb) (a:Option Addr) (c:Nat) (hb:b.ok) (H:Z7) (R:Z4) [hB:MemRows a 4 (rdrows b.rods) R] :
    FnV Tryz.prog 30 [(b.v a c)] H R (.int .i64 0):=by
 have h1:=hb.cols
 have h2:=hb.rows
 have h3:=hb.few
 refine Z9 Tryz.func30 rfl Tryz.ntmps30 rfl ?_
 refine sqt 2 rfl (bx rfl rfl rfl (fun b1=>pur 1 rfl (Z0 (Z1 (sqt 17 rfl (sp rfl (PE.fA Z1q rfl) rfl (spL rfl rfl (lh sc3 rfl rfl) rfl ?_)))))))
 refine clV rfl Z5v rfl rfl (Z0w _ _ _ (by omega) _ _) ?_
 refine pur 2 rfl ?_
 refine Zv 8 rfl ?_ ?_<;>intro g8
 exact absurd g8 (by simp)
 refine spG rfl rfl rfl rfl (PE.fA Z1r rfl) rfl ?_
 refine Z1b rfl rfl rfl rfl rfl (lh sc3 rfl rfl) rfl ?_
 refine Z4A rfl rfl rfl rfl Z5v rfl rfl (Z0w _ _ _ (by omega) _ _) ?_
 refine pur 3 rfl ?_
 refine Zv 14 rfl ?_ ?_<;>intro g14
 exact absurd g14 (by simp)
 refine spG rfl rfl rfl rfl (PE.fA Z0a rfl) rfl ?_
 refine Z1b rfl rfl rfl rfl rfl (lh Z52 rfl rfl) rfl ?_
 refine spG rfl rfl rfl rfl (PE.lenSl Z3Z rfl) rfl ?_
 refine pur 3 rfl ?_
 refine Z2 rfl ?_ ?_<;>intro hc0
 exact absurd hc0 (by simp;omega)
 try simp only [cS] at hc0
 refine sqt 6 rfl (sp rfl (PE.fA Z0a rfl) rfl (spL rfl rfl (lh Z52 rfl rfl) rfl (sp rfl (PE.makeFunc rfl rfl) rfl ?_)))
 refine cl rfl ZgL rfl rfl (Z3c b.rods a c 68 [] [.pointer (some ⟨b1,0,none⟩)] (fun _=>true) ZiV (by omega) _ _ (fun b3 b2 x hx=>Z5n b a c hb x hx b1 _ _)) ?_
 rintro _ _ R1 ⟨rfl,rfl,hR1⟩
 obtain rfl:=hR1.symm
 clear hR1
 rw [show (b.rods.all fun _=>true)=true by simp]
 refine pur 2 rfl ?_
 refine Z2 rfl ?_ ?_<;>intro hc1
 exact absurd hc1 (by simp)
 refine sqt 5 rfl (sp rfl (PE.fA Z0a rfl) rfl (spL rfl rfl (lh Z52 rfl rfl) rfl ?_))
 refine cl rfl ZgL rfl rfl (Z3c b.rods a c 69 [] [] (fun _=>true) ZiW (by omega) _ _ (fun b3 b2 x hx=>Z5o b hb x hx _ _)) ?_
 rintro _ _ R1 ⟨rfl,rfl,hR1⟩
 obtain rfl:=hR1.symm
 clear hR1
 rw [show (b.rods.all fun _=>true)=true by simp]
 refine pur 2 rfl ?_
 refine Z2 rfl ?_ ?_<;>intro hc2
 exact absurd hc2 (by simp)
 refine Z3 (sqt 1 rfl (pur 1 rfl (Z5 ?_)))
 exact rtA rfl rfl rfl ⟨rfl,rfl,rfl⟩ (fun w h=>h.del b1)
theorem Z7N (l:List Int) (a:Option Addr) (c:Nat) (hl:l.length≤1000000) (H:Z7) (R:Z4) [hR:MemRows a 1 (irows l) R] :
    FnV Tryz.prog 73 [.slice a l.length c] H R (.int .i64 (l.foldl max 0)):=by
 refine Z9 Tryz.func73 rfl Tryz.ntmps73 rfl ?_
 refine sqt 1 rfl (pur 1 rfl (sqt 1 rfl (pur 1 rfl (Z0 (sqt 3 rfl (pur 1 rfl (sp rfl (PE.lenSl Z04 rfl) rfl (pur 1 rfl (Z1 ?_)))))))))
 refine Zc (ι:={k:Nat // k≤l.length}) (fun k=>⟨[(3,.int .i64 ((l.take k.1).foldl max 0)),(6,.slice a l.length c),(7,.int .i64 l.length),(8,.int .i64 k.1)],H,R⟩) (fun k=>l.length-k.1) ⟨0,Nat.zero_le _⟩ ?_ (fun k=>?_)
 exact Zf idH
 obtain ⟨k,hk⟩:=k
 dsimp only at hk ⊢
 refine sqt 1 rfl (pur 1 rfl (Z0 ?_))
 refine Z2 rfl ?_ ?_<;>intro hc0<;>try simp only [cS] at hc0
 obtain ⟨x,hx⟩:∃ x,l[k]?=some x:=⟨_,List.getElem?_eq_getElem (by omega)⟩
 refine Zl (a:=a) (sz:=1) (rows:=irows l) (ne0 (by rw [irl];omega)) (fun ba oa he=>?_)
 subst he
 refine Z3 (Z0 (Z1 (sqt 3 rfl (sp rfl (PE.indexAddr Z3R rfl rfl (by omega) (by omega)) rfl (spL rfl rfl (lf0 sc3 (Z1s hx) rfl) rfl (pur 1 rfl (sqr 4 rfl (pur 2 rfl (sp rfl (PE.max rfl rfl) rfl (pur 1 rfl (sqr 2 rfl (sp rfl (PE.add rfl rfl (by omega)) rfl (pur 1 rfl ?_)))))))))))))
 rw [show max ((l.take k).foldl max 0) x=(l.take (k+1)).foldl max 0 by rw [List.take_add_one,hx];simp]
 exact Zb ⟨k+1,by omega⟩ idH
 obtain rfl:k=l.length:=by omega
 rw [List.take_length]
 refine Z8 (Za (Za (Zn (sqt 2 rfl (pur 2 rfl (Z5 ?_))))))
 exact rtA rfl rfl rfl ⟨rfl,rfl,rfl⟩ drp
theorem Z38 (b:Rb) (a:Option Addr) (c:Nat) (H:Z7) (R:Z4) :
    Fn Tryz.prog 37 [(b.v a c)] H R (fun v H' R'=>∃ xb,v = .func (.func 78) #[] #[.pointer (some ⟨xb,0,none⟩)]∧H'=H∧R'=RowsA (some ⟨xb,0,none⟩) 3 [rbl b a c]::R):=by
 refine Z9 Tryz.func37 rfl Tryz.ntmps37 rfl ?_
 refine sqt 2 rfl (bx rfl rfl rfl (fun b1=>pur 1 rfl (sqt 2 rfl (sp rfl (PE.makeFunc rfl rfl) rfl (pur 1 rfl (Z5 ?_))))))
 refine Sy.heap (fun w h=>St.rows (sz:=3) (rows:=[rbl b a c]) (rest:=[]) (h.pull b1) (by simp [rbl])) ?_
 exact rtA rfl rfl rfl ⟨b1,rfl,rfl,rfl⟩ idH
set_option maxHeartbeats 400000 in
theorem Z22 (b:Rb) (a:Option Addr) (c:Nat) (hb:b.ok) (xb lp:Nat) (I:Nat→Z7→Z4→Prop) (E:Z7→Z4→Prop) (hI:∀ k H R,I k H R→RowsA (some ⟨xb,0,none⟩) 3 [rbl b a c]∈R)
    (hy:∀ k H R,k<b.n→I k H R→Yd Tryz.prog lp [.int .i64 (k:Int),.agg #[.int .i64 ((k%b.cols:Nat):Int),.int .i64 ((k / b.cols:Nat):Int)]] H R (fun v H' R'=>(v = .bool true∧I (k+1) H' R')∨(v = .bool false∧E H' R'))) (H:Z7) (R:Z4) (h0:I 0 H R) :
    Fn Tryz.prog 78 [yv lp,.pointer (some ⟨xb,0,none⟩)] H R (fun _ H' R'=>I b.n H' R'∨E H' R'):=by
 have h1:=hb.cols
 have h2:=hb.rows
 haveI:MemRows (some ⟨xb,0,none⟩) 3 [rbl b a c] R:=⟨hI _ _ _ h0⟩
 refine Z9 Tryz.func78 rfl Tryz.ntmps78 rfl ?_
 refine sqt 1 rfl (pur 1 rfl (sqt 3 rfl (sp rfl (PE.fA Z1r rfl) rfl (spL rfl rfl (lfB (sz:=3) sc3 rfl) rfl (pur 1 rfl (Z1 ?_))))))
 refine Zc (ι:={x:Nat×Z7×Z4 // x.1≤b.rows∧I (x.1*b.cols) x.2.1 x.2.2}) (fun x=>⟨[(0,yv lp),(1,.pointer (some ⟨xb,0,none⟩)),(3,.int .i64 ((x.1.1*b.cols:Nat):Int)),(7,.int .i64 (b.rows:Int)),(8,.int .i64 (x.1.1:Int))],x.1.2.1,x.1.2.2⟩) (fun x=>b.rows-x.1.1) ⟨(0,H,R),Nat.zero_le _,by rw [Nat.zero_mul];exact h0⟩ ?_ (fun x=>?_)
 exact ZbT (by dsimp only;rw [Nat.zero_mul];exact sbA) idH
 obtain ⟨⟨j,H0,Q0⟩,hj,hI0⟩:=x
 dsimp only at hj hI0 ⊢
 haveI:MemRows (some ⟨xb,0,none⟩) 3 [rbl b a c] Q0:=⟨hI _ _ _ hI0⟩
 refine sqt 1 rfl (pur 1 rfl (Z0 ?_))
 refine Z2 rfl ?_ ?_<;>intro hc0<;>try simp only [cS] at hc0
 refine Z3 (Z0 (Z1 (sqt 2 rfl (pur 2 rfl (sqt 3 rfl (sp rfl (PE.fA Z1q rfl) rfl (spL rfl rfl (lfB (sz:=3) sc3 rfl) rfl (pur 1 rfl (Z1 ?_)))))))))
 refine Zc (ι:={x:Nat×Z7×Z4 // x.1≤b.cols∧I (j*b.cols+x.1) x.2.1 x.2.2}) (fun x=>⟨[(0,yv lp),(1,.pointer (some ⟨xb,0,none⟩)),(3,.int .i64 ((j*b.cols+x.1.1:Nat):Int)),(4,.int .i64 (j:Int)),(7,.int .i64 (b.rows:Int)),(8,.int .i64 (j:Int)),(12,.int .i64 (b.cols:Int)),(13,.int .i64 (x.1.1:Int))],x.1.2.1,x.1.2.2⟩) (fun x=>b.cols-x.1.1) ⟨(0,H0,Q0),Nat.zero_le _,hI0⟩ ?_ (fun x=>?_)
 exact Zf idH
 obtain ⟨⟨i,H1,Q1⟩,hi,hI1⟩:=x
 dsimp only at hi hI1 ⊢
 haveI:MemRows (some ⟨xb,0,none⟩) 3 [rbl b a c] Q1:=⟨hI _ _ _ hI1⟩
 refine sqt 1 rfl (pur 1 rfl (Z0 ?_))
 refine Z2 rfl ?_ ?_<;>intro hc1<;>try simp only [cS] at hc1
 have hlt:j*b.cols+i<b.n:=by
   unfold Rb.n
   have h5:(j+1)*b.cols≤b.rows*b.cols:=Nat.mul_le_mul_right _ (by omega)
   rw [Nat.add_mul] at h5
   rw [Nat.mul_comm b.cols];omega
 have hnl:=Rb.n_le hb
 have hyy:=hy _ _ _ hlt hI1
 rw [show (j*b.cols+i)%b.cols=i by rw [Nat.mul_comm,Nat.mul_add_mod];exact Nat.mod_eq_of_lt (by omega),show (j*b.cols+i) / b.cols=j by rw [Nat.mul_comm,Nat.mul_add_div (by omega),Nat.div_eq_of_lt (by omega)];rfl] at hyy
 refine Z3 (Z0 (Z1 (sqt 2 rfl (pur 2 rfl (Z0 (sqt 7 rfl (pur 4 rfl (sp rfl (PE.build (out:=[_,_]) Zab Z3S rfl rfl) rfl ?_))))))))
 refine clY rfl rfl rfl rfl (hyy) ?_
 rintro v H3 R3 (⟨rfl,hI3⟩ | ⟨rfl,hE3⟩)
 refine pur 1 rfl ?_
 refine ZD rfl ?_
 refine Z3 (sqr 3 rfl (pur 1 rfl (sp rfl (PE.add rfl rfl (by omega)) rfl (pur 1 rfl (sqr 2 rfl (sp rfl (PE.add rfl rfl (by omega)) rfl (pur 1 rfl ?_)))))))
 exact Zb ⟨(i+1,H3,R3),by dsimp only;omega,hI3⟩ idH
 refine pur 1 rfl ?_
 refine Z00 rfl ?_
 refine Z5 ?_
 exact Zk (vs:=[]) rfl .nil rfl (.inr hE3) idH
 obtain rfl:i=b.cols:=by omega
 have hjc:j*b.cols+b.cols=(j+1)*b.cols:=by rw [Nat.add_mul];omega
 refine Z8 (Za (Za (Zn (sqr 2 rfl (sp rfl (PE.add rfl rfl (by omega)) rfl (pur 1 rfl ?_))))))
 exact Z0e ⟨(j+1,H1,Q1),by dsimp only;omega,by rw [← hjc];exact hI1⟩ (by dsimp only;omega) (by dsimp only;rw [← hjc];exact sbA) idH
 obtain rfl:j=b.rows:=by omega
 refine Z8 (Za (Za (Zn ?_)))
 exact Z0Q (vs:=[]) rfl .nil rfl (.inl (by unfold Rb.n;rw [Nat.mul_comm];exact hI0)) idH
theorem Zin:Z1g Tryz.prog 157=some 1:=by kernel_rfl
theorem ZaI:Z1g Tryz.prog 87=some 25:=by kernel_rfl
theorem ZaR:arN Tryz.prog 87=some (25,1):=by kernel_rfl
theorem Zcc:cal Tryz.prog 112=true:=by kernel_rfl
theorem ZgJ:cal Tryz.prog 34=true:=by kernel_rfl
theorem Z9o:cal Tryz.prog 37=true:=by kernel_rfl
theorem ZiX:cal Tryz.prog 70=true:=by kernel_rfl
theorem ZiY:cal Tryz.prog 71=true:=by kernel_rfl
theorem Zdw:cal Tryz.prog 72=true:=by kernel_rfl
theorem ZiZ:cal Tryz.prog 73=true:=by kernel_rfl
theorem Z9p:cal Tryz.prog 78=true:=by kernel_rfl
theorem Zjh:ZB Tryz.prog 157=some 1:=by kernel_rfl
theorem cn3:ZB Tryz.prog 3=some 1:=by kernel_rfl
theorem Z9u:ZB Tryz.prog 43=some 2:=by kernel_rfl
theorem ZaJ:ZB Tryz.prog 50=some 4:=by kernel_rfl
theorem Zjq:ZB Tryz.prog 87=some 25:=by kernel_rfl
theorem Z9M:ZT Tryz.prog 157 0=some 0:=by kernel_rfl
theorem ZjD:ZL Tryz.prog 157=some [(0,1)]:=by kernel_rfl
theorem Z6a:slE Tryz.prog 30=some (3,1):=by kernel_rfl
theorem Zi7:Zw Tryz.prog 157=some ([.nilFunc]):=by kernel_rfl
theorem zl3:Zw Tryz.prog 3=some ([.int .i64 0]):=by kernel_rfl
theorem Z3Q:Zw Tryz.prog 50=some ([.int .i64 0,.int .i64 0,.int .i64 0,.int .i64 0]):=by kernel_rfl
theorem ZeV:Zw Tryz.prog 87=some ([.int .i64 0,.int .i64 0,.int .i64 0,.int .i64 0,.int .i64 0,.int .i64 0,.int .i64 0,.int .i64 0,.int .i64 0,.int .i64 0,.int .i64 0,.int .i64 0,.int .i64 0,.int .i64 0,.int .i64 0,.int .i64 0,.int .i64 0,.int .i64 0,.int .i64 0,.int .i64 0,.int .i64 0,.int .i64 0,.int .i64 0,.int .i64 0,.int .i64 0]):=by kernel_rfl
theorem Z6W {w:List Int} {i k:Nat} {v:Int} (hk:k<w.length) (e:i=k):spl (Zj w) i [.int .i64 v]=Zj (w.set k v):=by
 subst e
 unfold spl Zj
 apply List.ext_getElem?
 intro j
 rw [List.getElem?_map,List.getElem?_set]
 simp only [List.length_singleton]
 rcases Nat.lt_trichotomy j i with h | h | h
 · rw [List.getElem?_append_left (by simp;omega),List.getElem?_append_left (by simp;omega),List.getElem?_take,if_pos h,if_neg (by omega),List.getElem?_map]
 · subst h
   rw [List.getElem?_append_left (by simp;omega),List.getElem?_append_right (by simp;omega),if_pos rfl,if_pos hk]
   simp [show min j w.length=j by omega]
 · rw [List.getElem?_append_right (by simp;omega),if_neg (by omega),List.getElem?_drop,List.getElem?_map]
   congr 2
   simp;omega
theorem Z2Z {a:Option Addr} {sz:Nat} {rows:List (List Value)} {w:World} (h:RowsA a sz rows w) (ha:a.isNone=true):rows=[]:=by
 false_or_by_contra
 rename_i h0
 obtain ⟨b,off,e⟩:=Z3I h h0
 rw [e] at ha;cases ha
theorem PE.slArrHi {P:Program} {L:Zo} {d:Option Tmp} {ty:TypeId} {pos:String} {af:Array Edge} {g:Option (Nat×Bool)} {T m n b off h:Nat} {x y:Operand} {k:IntKind} (hT:arN P T=some (m,n)) (hx:ev L x=some (.pointer (some ⟨b,off,none⟩))) (hy:ev L y=some (.int k h)) (hh:h≤m) :
   PE P L ⟨d,.slice T x none (some y) none,ty,pos,af,g⟩ (.slice (some ⟨b,off,none⟩) h m):=fun ρ hρ w=>by
 obtain ⟨e,i,hu,hi,rfl⟩:=Z6b hT
 have ha:(⟨b,off,none⟩:Addr).add (0*i.size)=⟨b,off,none⟩:=by rw [Z0m];simp
 have hb:∀ c w,(Instr.sliceBound (.int k (h:Int)) m c).run P w = .ok h w:=fun c w=>by rw [Zai (by omega)];simp
 simp only [execOp,hρ _ _ hx,hρ _ _ hy,Option.map_none,Option.map_some,Instr.sliceAt,Sem.run_bind,run_underlying hu,Result.andThen,Instr.sureAddr,Sem.run_pure,Instr.sliceBounds,hb,sizeOf,typeInfo,program,hi,Sem.run]
 rw [ha]
 by_cases h0:m=0<;>simp [h0]
def Rb.topK (b:Rb) (K:Nat):List Int:=(List.range 25).map fun k=>bif decide (k<K) then b.top k else 0
def Rb.topA (b:Rb):List Int:=b.topK b.n
theorem topK_len (b:Rb) (K:Nat):(b.topK K).length=25:=by simp [Rb.topK]
theorem ZaA {b:Rb} {K k:Nat} (hk:k<25):na (b.topK K) k=bif decide (k<K) then b.top k else 0:=by
 unfold na Rb.topK;rw [List.getD_eq_getElem?_getD,List.getElem?_map,List.getElem?_range hk];rfl
theorem ZaB {b:Rb} {K:Nat} (hK:K<25):(b.topK K).set K (b.top K)=b.topK (K+1):=by
 apply List.ext_getElem?
 intro j
 rw [List.getElem?_set,topK_len]
 by_cases e:K=j
 · subst e
   rw [if_pos rfl,if_pos hK]
   unfold Rb.topK
   rw [List.getElem?_map,List.getElem?_range hK]
   show some _=some (bif _ then _ else _)
   rw [decide_eq_true (show K<K+1 by omega)];rfl
 · rw [if_neg e]
   unfold Rb.topK
   rw [List.getElem?_map,List.getElem?_map]
   rcases Nat.lt_or_ge j 25 with h | h
   · rw [List.getElem?_range h]
     show some (bif _ then _ else _)=some (bif _ then _ else _)
     rw [show decide (j<K+1)=decide (j<K) from decide_eq_decide.2 (by omega)]
   · rw [List.getElem?_eq_none (by rw [List.length_range];exact h)];rfl
theorem topA_top {b:Rb} (hb:b.ok) {k:Nat} (hk:k<b.n):na b.topA k=b.top k:=by
 have:=Rb.n_le hb
 unfold Rb.topA;rw [ZaA (by omega),decide_eq_true hk];rfl
theorem ZcV {b:Rb} (hb:b.ok) {k:Nat} (hk:k<b.n):0≤b.top k:=ZaD (by decide) fun x hx _=>by
 have h1:=hb.rod x hx
 have h2:=hb.cols
 have h3:=hb.rows
 have h4:=Rb.d_bd hb hk (x:=x) ⟨by omega,by omega⟩
 unfold Rb.d at h4 ⊢
 omega
theorem Zey {b:Rb} (hb:b.ok) {k:Nat} (hk:k<25):0≤na b.topA k∧na b.topA k≤9:=by
 unfold Rb.topA
 rw [ZaA hk]
 by_cases h:k<b.n
 · rw [decide_eq_true h,cond_true];exact ⟨ZcV hb h,ZeA _ _⟩
 · rw [decide_eq_false h,cond_false];exact ⟨Int.le_refl _,by decide⟩
theorem Z2u {d:Nat→Int} {g:Int} {h h':Nat→Int}:∀ n,(∀ k,k<n→h k=h' k)→ZZ d g h n=ZZ d g h' n
 | 0,_=>rfl
 | n+1,hh=>by
   unfold ZZ
   rw [Z2u n (fun k hk=>hh k (by omega)),hh n (by omega)]
theorem Z9J {b:Rb} (hb:b.ok) (x:Rd):b.feel (na b.topA) x=b.feel b.top x:=Z2u _ fun k hk=>topA_top hb hk
theorem ZaC {b:Rb} {k j:Nat} {x:Rd} (h:b.rods[j]?=some x):Z5c (b.d k) (b.rods.take (j+1))=Z8b (b.d k) (Z5c (b.d k) (b.rods.take j)) x:=by
 unfold Z5c
 rw [List.take_add_one,h,Option.toList_some,List.foldl_append];rfl
theorem Zez {b:Rb} (hb:b.ok) {k j:Nat} (hk:k<b.n):0≤Z5c (b.d k) (b.rods.take j)∧Z5c (b.d k) (b.rods.take j)≤9:=by
 refine ⟨ZaD (by decide) fun x hx _=>?_,ZeA _ _⟩
 have h1:=hb.rod x (List.mem_of_mem_take hx)
 have h2:=hb.cols
 have h3:=hb.rows
 have h4:=Rb.d_bd hb hk (x:=x) ⟨by omega,by omega⟩
 omega
theorem Rb.d_is {b:Rb} {k u v:Nat} (hu:k%b.cols=u) (hv:k / b.cols=v) (x:Rd):b.d k x=dsI (u:Int) (v:Int) x.c x.r:=by unfold Rb.d;rw [Zh2,hu,hv]
theorem Zel {w:List Int} {k i:Nat} {v:Int} (hk:k<w.length) (e:i=k):(Zj (w.set k v))[i]?=some (.int .i64 v):=by
 subst e;simp [Zj,hk]
theorem ZbM (l:List Int) (k:Nat) (u v:Int):(l.set k u).set k v=l.set k v:=by simp
theorem Z6C:∀ (l:List Int),(irows l).flatten=Zj l:=Z2y
theorem ZdN (l:List Int):(irows l).flatten.all (·.oneCell')=true:=by rw [Z6C];exact Z06 l
theorem Zhl (l:List Int):∀ r∈irows l,r.length=1:=fun r hr=>by obtain ⟨x,_,rfl⟩:=List.mem_map.1 hr;rfl
theorem Zef (l:List Rd):(rdrows l).flatten.all (·.oneCell')=true:=List.all_eq_true.2 fun v hv=>by
 obtain ⟨r,hr,h2⟩:=List.mem_flatten.1 hv
 obtain ⟨x,_,rfl⟩:=List.mem_map.1 hr
 simp only [rdrow,List.mem_cons,List.not_mem_nil,or_false] at h2
 rcases h2 with rfl | rfl | rfl | rfl<;>rfl
theorem Z4W (l:List Rd):(rdrows l).flatten.length=l.length*4:=by rw [ZH (Z6Q l),rd_len]
def Z1F (l:List Int):List Int:=l++List.replicate (25-l.length) 0
theorem Z0V {l:List Int} (h:l.length≤25):(Z1F l).length=25:=by simp [Z1F];omega
theorem Z7s {l:List Int} {k:Nat} (h:k<l.length):na (Z1F l) k=na l k:=by
 unfold na Z1F;rw [List.getD_eq_getElem?_getD,List.getD_eq_getElem?_getD,List.getElem?_append_left h]
theorem Za7 {l:List Int} {k:Nat} (h:l.length≤k):na (Z1F l) k=0:=by
 unfold na Z1F
 rw [List.getD_eq_getElem?_getD,List.getElem?_append_right h,List.getElem?_replicate]
 split<;>rfl
theorem Z81 {l:List Int} (h:l.length≤25):spl (Zj (List.replicate 25 0)) 0 (irows l).flatten=Zj (Z1F l):=by
 rw [Z6C]
 unfold spl Z1F Zj
 simp only [List.take_zero,List.nil_append,Nat.zero_add,List.map_append,List.length_map]
 congr 1
 rw [List.map_replicate,List.map_replicate,List.drop_replicate]
theorem Rb.mulN (b:Rb):(b.cols:Int)*(b.rows:Int)=((b.n:Nat):Int):=by unfold Rb.n;exact (Int.natCast_mul _ _).symm
set_option maxHeartbeats 400000 in
theorem Z8R (b:Rb) (a:Option Addr) (c:Nat) (hb:b.ok) (hs:List Int) (hl:hs.length=25) (hh:∀ k,k<25→0≤na hs k∧na hs k≤9) (x:Rd) (hx:(0≤x.c∧x.c<5)∧0≤x.r∧x.r<5) (H:Z7) (R:Z4) :
    FnV Tryz.prog 34 [(b.v a c),.agg (Zj hs).toArray,.agg #[.int .i64 x.c,.int .i64 x.r],.int .i64 x.g] H R (.int .i64 (b.feel (na hs) x)):=by
 refine Z1G Tryz.func34 rfl Tryz.ntmps34 rfl ?_
 refine sqt 5 rfl (bx rfl rfl rfl (fun b4=>bx rfl rfl rfl (fun b5=>bx rfl rfl rfl (fun b6=>bx rfl rfl rfl (fun b7=>pur 1 rfl (sqt 2 rfl (alc rfl zl3 rfl (fun b9=>?_))))))))
 refine sto rfl rfl rfl cn3 rfl rfl rfl rfl ?_
 refine Z0 (sqt 2 rfl (spL rfl rfl (lhA (rbl b a c) ZG rfl rfl rfl) rfl ?_))
 refine cl rfl Z9o rfl rfl (Z38 b a c _ _) ?_
 rintro _ _ _ ⟨xb,rfl,rfl,rfl⟩
 refine Z1 ?_
 refine Z0o rfl Z9p (fun c0 bl0 bd0 hcp0 hca0 hcb0 hck0=>?_)
 refine ⟨fun st pend T R'=>st = .ready∧pend=none∧T=(bd0,.deferred (some []))::(b9,cel 3 [.int .i64 (ZZ (fun k=>b.d k x) x.g (na hs) (b.n))])::(b7,cel 3 [.int .i64 x.g])::(b6,cel 43 [.int .i64 x.c,.int .i64 x.r])::(b5,cel 87 (Zj hs))::(b4,cel 39 (rbl b a c))::H∧R'=RowsA (some ⟨xb,0,none⟩) 3 [rbl b a c]::R,
   Fn.mono (Z22 b a c hb xb bl0 (fun k H' R'=>H'=(bl0,lob c0 .ready none)::(bd0,.deferred (some []))::(b9,cel 3 [.int .i64 (ZZ (fun k=>b.d k x) x.g (na hs) (k))])::(b7,cel 3 [.int .i64 x.g])::(b6,cel 43 [.int .i64 x.c,.int .i64 x.r])::(b5,cel 87 (Zj hs))::(b4,cel 39 (rbl b a c))::H∧R'=RowsA (some ⟨xb,0,none⟩) 3 [rbl b a c]::R) (fun _ _=>False)
     (fun k H' R' h9=>by obtain ⟨_,rfl⟩:=h9;simp)
     (fun k H' R' hk h9=>?_) _ _ ⟨rfl,rfl⟩) (fun v H' R' h9=>?_),?_⟩
 rotate_left
 · rcases h9 with ⟨rfl,rfl⟩ | h9
   · exact ⟨.ready,none,_,by simp,.refl _,rfl,rfl,rfl,rfl⟩
   · exact h9.elim
 rotate_left
 obtain ⟨rfl,rfl⟩:=h9
 have hdb:=Rb.d_bd hb hk hx
 obtain ⟨u,hu⟩:∃ u:Nat,k%b.cols=u:=⟨_,rfl⟩
 obtain ⟨v,hv⟩:∃ v:Nat,k / b.cols=v:=⟨_,rfl⟩
 obtain ⟨hku,hkv,hk25⟩:=Rb.lt hb hk
 rw [hu] at hku ⊢
 rw [hv] at hkv ⊢
 have hbc:=hb.cols
 have hbr:=hb.rows
 have hbf:=hb.few
 have hd:=Rb.d_is hu hv x
 have hhk:=hh k hk25
 have hfn:=feel_nn (fun k=>b.d k x) x.g (na hs) k
 refine Z4m hcp0 hca0 hcb0 hck0 rfl rfl ?_
 refine sqt 1 rfl (pur 1 rfl (sqr 2 rfl (alc rfl Z3S rfl (fun b11=>?_))))
 refine sto rfl rfl rfl Z9u rfl rfl rfl rfl ?_
 refine ZA ?_
 refine Z1 (sqt 4 rfl (spL rfl rfl (lhA [.int .i64 (u:Int),.int .i64 (v:Int)] Z1Z rfl rfl rfl) rfl (spL rfl rfl (lhA [.int .i64 x.c,.int .i64 x.r] Z1Z rfl rfl rfl) rfl ?_)))
 refine cl rfl Zdw rfl rfl (Z8S (u:Int) (v:Int) x.c x.r (by omega) (by omega) (by omega) (by omega) _ _) ?_
 rintro _ _ R1 ⟨rfl,rfl,hR1⟩
 obtain rfl:=hR1.symm
 clear hR1
 rw [← hd]
 refine pur 1 rfl (sqt 3 rfl (pur 1 rfl (spL rfl rfl (lh sc3 rfl rfl) rfl (pur 1 rfl ?_))))
 refine Z2 rfl ?_ ?_<;>intro hc0<;>try simp only [cS] at hc0
 have hst:(ZZ (fun k=>b.d k x) x.g (na hs) (k+1))=[(ZZ (fun k=>b.d k x) x.g (na hs) (k)),na hs k-b.d k x].foldl max 0:=by
   show (bif decide (b.d k x≤x.g) then max _ _ else _)=_
   rw [dT hc0]
   show max (ZZ (fun k=>b.d k x) x.g (na hs) (k)) (na hs k-b.d k x)=max (max 0 (ZZ (fun k=>b.d k x) x.g (na hs) (k))) (na hs k-b.d k x)
   omega
 refine Zd [0,0,2,6,0,30,63,127,255] (.ld 0 (.tk 1 (.tk 2 (.ld 3 (.tk 4 (.tk 5 (.big 6 (.big 7 (.big 8 .done))))))))) Zq (by kernel_rfl) ?_
 refine ld rfl rfl (lh sc3 rfl rfl) rfl (Zm 1 rfl (tk rfl (PE.indexArr ZaR rfl rfl (by omega) (by omega)) rfl (ld rfl rfl (lh sc3 rfl (Z4c (w:=hs) (k:=k) (by omega) (by show 0+((k:Nat):Int).toNat*1=k;omega))) rfl (Zm 1 rfl (tk rfl (PE.sub rfl rfl (by omega)) rfl ?_)))))
 refine bsl (out:=[_,_]) rfl Z6a zl3 rfl rfl rfl rfl rfl rfl (fun b29=>?_)
 refine bgT ?_
 refine Sy.heap (fun w h9=>St.intRows (l:=[(ZZ (fun k=>b.d k x) x.g (na hs) (k)),na hs k-b.d k x]) (h9.pull b29)) ?_
 refine clV rfl ZiZ rfl rfl (Z7N [(ZZ (fun k=>b.d k x) x.g (na hs) (k)),na hs k-b.d k x] (some ⟨b29,0,none⟩) 2 (nl rfl) _ _) ?_
 refine bgT ?_
 refine Z03 (l':=[.int .i64 (ZZ (fun k=>b.d k x) x.g (na hs) (k+1))]) rfl rfl rfl cn3 rfl rfl rfl (by rw [hst];rfl) (nl rfl) ?_
 refine bgT ?_
 exact Zi (.inl ⟨rfl,rfl,rfl⟩) (fun _ h9=>(h9.del b11).ftail)
 have hst:(ZZ (fun k=>b.d k x) x.g (na hs) (k+1))=(ZZ (fun k=>b.d k x) x.g (na hs) (k)):=by
   show (bif decide (b.d k x≤x.g) then max _ _ else _)=_
   rw [dF (by omega)];rfl
 refine Z3 ?_
 exact Zi (.inl ⟨rfl,rfl,rfl⟩) (fun _ h9=>by rw [hst];exact h9.del b11)
 rintro _ _ _ _ ⟨rfl,rfl,rfl,rfl⟩
 refine Z40 ?_
 refine sqt 2 rfl (spL rfl rfl (lh sc3 rfl rfl) rfl (pur 1 rfl (Z5 ?_)))
 exact ZF [bd0] idH rfl (.cons (RV.tmp rfl) .nil) rfl ⟨rfl,rfl,rfl⟩ (fun w h=>((((((h.del b9).del b7).del b6).del b5).del b4)).ftail)
theorem Zc8 (k:Int) (H:Z7) (R:Z4) :
    FnV Tryz.prog 112 [.int .i64 k] H R (.bool true):=by
 refine Z9 Tryz.func112 rfl Tryz.ntmps112 rfl ?_
 refine sqt 1 rfl (pur 1 rfl (sqt 1 rfl (pur 1 rfl (Z5 ?_))))
 exact rtA rfl rfl rfl ⟨rfl,rfl,rfl⟩ drp
theorem Z7M (H:Z7) (R:Z4) :
    FnV Tryz.prog 75 [] H R (.agg #[.func (.func 112) #[] #[]]):=by
 refine Z9 Tryz.func75 rfl Tryz.ntmps75 rfl ?_
 refine sqt 1 rfl (alc rfl Zi7 rfl (fun b0=>sqt 2 rfl (sp rfl (PE.build (out:=[_]) ZjD Zi7 rfl rfl) rfl ?_)))
 refine sto rfl rfl rfl Zjh rfl rfl rfl rfl ?_
 refine Z5 ?_
 exact Zk (vs:=[_]) rfl (.cons (RV.cell rfl (lhA [_] Zin rfl rfl rfl)) .nil) rfl ⟨rfl,rfl,rfl⟩ (fun w h=>h.del b0)
set_option maxHeartbeats 1000000 in
theorem Z1n (b:Rb) (a:Option Addr) (c:Nat) (hb:b.ok) (H:Z7) (R:Z4) [hB:MemRows a 4 (rdrows b.rods) R] :
    FnV Tryz.prog 74 [(b.v a c),(.agg #[.func (.func 112) #[] #[]])] H R (.agg (Zj b.topA).toArray):=by
 refine Z1G Tryz.func74 rfl Tryz.ntmps74 rfl ?_
 refine sqt 3 rfl (bx rfl rfl rfl (fun b2=>bx rfl rfl rfl (fun b3=>alc rfl ZeV rfl (fun b4=>sqt 1 rfl (alc rfl ZeV rfl (fun b5=>Z0 (sqt 2 rfl (spL rfl rfl (lhA (rbl b a c) ZG rfl rfl rfl) rfl ?_))))))))
 refine cl rfl Z9o rfl rfl (Z38 b a c _ _) ?_
 rintro _ _ _ ⟨xb,rfl,rfl,rfl⟩
 refine Z1 ?_
 refine Z0o rfl Z9p (fun c0 bl0 bd0 hcp0 hca0 hcb0 hck0=>?_)
 refine ⟨fun st pend T R'=>st = .ready∧pend=none∧T=(bd0,.deferred (some []))::(b5,cel 87 (Zj (b.topK (b.n))))::(b4,cel 87 [.int .i64 0,.int .i64 0,.int .i64 0,.int .i64 0,.int .i64 0,.int .i64 0,.int .i64 0,.int .i64 0,.int .i64 0,.int .i64 0,.int .i64 0,.int .i64 0,.int .i64 0,.int .i64 0,.int .i64 0,.int .i64 0,.int .i64 0,.int .i64 0,.int .i64 0,.int .i64 0,.int .i64 0,.int .i64 0,.int .i64 0,.int .i64 0,.int .i64 0])::(b3,cel 157 [.func (.func 112) #[] #[]])::(b2,cel 39 (rbl b a c))::H∧R'=RowsA (some ⟨xb,0,none⟩) 3 [rbl b a c]::R,
   Fn.mono (Z22 b a c hb xb bl0 (fun k H' R'=>H'=(bl0,lob c0 .ready none)::(bd0,.deferred (some []))::(b5,cel 87 (Zj (b.topK (k))))::(b4,cel 87 [.int .i64 0,.int .i64 0,.int .i64 0,.int .i64 0,.int .i64 0,.int .i64 0,.int .i64 0,.int .i64 0,.int .i64 0,.int .i64 0,.int .i64 0,.int .i64 0,.int .i64 0,.int .i64 0,.int .i64 0,.int .i64 0,.int .i64 0,.int .i64 0,.int .i64 0,.int .i64 0,.int .i64 0,.int .i64 0,.int .i64 0,.int .i64 0,.int .i64 0])::(b3,cel 157 [.func (.func 112) #[] #[]])::(b2,cel 39 (rbl b a c))::H∧R'=RowsA (some ⟨xb,0,none⟩) 3 [rbl b a c]::R) (fun _ _=>False)
     (fun k H' R' h9=>by obtain ⟨_,rfl⟩:=h9;simp)
     (fun k H' R' hk h9=>?_) _ _ ⟨rfl,rfl⟩) (fun v H' R' h9=>?_),?_⟩
 rotate_left
 · rcases h9 with ⟨rfl,rfl⟩ | h9
   · exact ⟨.ready,none,_,by simp,.refl _,rfl,rfl,rfl,rfl⟩
   · exact h9.elim
 rotate_left
 obtain ⟨rfl,rfl⟩:=h9
 obtain ⟨u,hu⟩:∃ u:Nat,k%b.cols=u:=⟨_,rfl⟩
 obtain ⟨v,hv⟩:∃ v:Nat,k / b.cols=v:=⟨_,rfl⟩
 obtain ⟨hku,hkv,hk25⟩:=Rb.lt hb hk
 rw [hu] at hku ⊢
 rw [hv] at hkv ⊢
 have hbc:=hb.cols
 have hbr:=hb.rows
 have hbf:=hb.few
 have hnl:=Rb.n_le hb
 refine Z4m hcp0 hca0 hcb0 hck0 rfl rfl ?_
 refine sqt 1 rfl (pur 1 rfl (sqr 2 rfl (alc rfl Z3S rfl (fun b7=>?_))))
 refine sto rfl rfl rfl Z9u rfl rfl rfl rfl ?_
 refine ZA ?_
 refine Z1 (sqt 3 rfl (pur 1 rfl (sp rfl (PE.indexArr ZaR rfl rfl (by omega) (by omega)) rfl ?_)))
 refine Z03 (l':=Zj ((b.topK k).set k (Z5c (b.d k) (b.rods.take (0))))) rfl rfl rfl cn3 rfl rfl rfl (Z6W (by rw [topK_len];omega) (by show 0+((k:Nat):Int).toNat*1=k;omega)) (by rw [Z6,topK_len];show 0+((k:Nat):Int).toNat*1+1≤25;omega) ?_
 refine sqt 4 rfl (sp rfl (PE.fA Z0a rfl) rfl (spL rfl rfl (lh Z52 rfl rfl) rfl (sp rfl (PE.lenSl Z3Z rfl) rfl (pur 1 rfl (Z1 ?_)))))
 refine Zc (ι:={j:Nat // j≤b.rods.length}) (fun j=>⟨[(2,.pointer (some ⟨b2,0,none⟩)),(3,.pointer (some ⟨b3,0,none⟩)),(5,.pointer (some ⟨b5,0,none⟩)),(6,.int .i64 (k:Int)),(7,.pointer (some ⟨b7,0,none⟩)),(18,.slice a b.rods.length c),(19,.int .i64 b.rods.length),(20,.int .i64 (j.1:Int))],(b7,cel 43 [.int .i64 (u:Int),.int .i64 (v:Int)])::(bl0,lob c0 .busy none)::(bd0,.deferred (some []))::(b5,cel 87 (Zj ((b.topK k).set k (Z5c (b.d k) (b.rods.take (j.1))))))::(b4,cel 87 [.int .i64 0,.int .i64 0,.int .i64 0,.int .i64 0,.int .i64 0,.int .i64 0,.int .i64 0,.int .i64 0,.int .i64 0,.int .i64 0,.int .i64 0,.int .i64 0,.int .i64 0,.int .i64 0,.int .i64 0,.int .i64 0,.int .i64 0,.int .i64 0,.int .i64 0,.int .i64 0,.int .i64 0,.int .i64 0,.int .i64 0,.int .i64 0,.int .i64 0])::(b3,cel 157 [.func (.func 112) #[] #[]])::(b2,cel 39 (rbl b a c))::H,RowsA (some ⟨xb,0,none⟩) 3 [rbl b a c]::R⟩) (fun j=>b.rods.length-j.1) ⟨0,Nat.zero_le _⟩ ?_ (fun j=>?_)
 exact Zf idH
 obtain ⟨j,hj⟩:=j
 dsimp only at hj ⊢
 refine sqt 1 rfl (pur 1 rfl (Z0 ?_))
 refine Z2 rfl ?_ ?_<;>intro hc0<;>try simp only [cS] at hc0
 obtain ⟨x,hx⟩:∃ x,b.rods[j]?=some x:=⟨_,List.getElem?_eq_getElem (by omega)⟩
 have hxo:=hb.rod x (List.mem_of_getElem? hx)
 have hdb:=Rb.d_bd hb hk (x:=x) ⟨by omega,by omega⟩
 have hd:=Rb.d_is hu hv x
 have htb:=Zez hb (j:=j) hk
 have hst:=ZaC (k:=k) hx
 refine Zl (a:=a) (sz:=4) (rows:=rdrows b.rods) (ne0 (by rw [rd_len];omega)) (fun ba oa he=>?_)
 subst he
 refine Z3 (Z0 (Z1 (sqt 6 rfl (pur 1 rfl (sp rfl (PE.indexAddr ZdG rfl rfl (by omega) (by omega)) rfl (spL rfl rfl (lfA ZaH (row:=rdrow x) (Z7y hx) rfl) rfl (alc rfl Z3Q rfl (fun b9=>pur 1 rfl ?_))))))))
 refine Z03 (l':=rdrow x) rfl rfl rfl ZaJ rfl rfl rfl rfl (nl rfl) ?_
 refine sqt 5 rfl (spL rfl rfl (lhA [.int .i64 (u:Int),.int .i64 (v:Int)] Z1Z rfl rfl rfl) rfl (sp rfl (PE.fA Z4a rfl) rfl (spL rfl rfl (lhA [.int .i64 x.c,.int .i64 x.r] Z1Z rfl rfl rfl) rfl ?_)))
 refine cl rfl Zdw rfl rfl (Z8S (u:Int) (v:Int) x.c x.r (by omega) (by omega) (by omega) (by omega) _ _) ?_
 rintro _ _ R1 ⟨rfl,rfl,hR1⟩
 obtain rfl:=hR1.symm
 clear hR1
 rw [← hd]
 refine pur 1 rfl (sqt 10 rfl (sp rfl (PE.fA Z9M rfl) rfl (spL rfl rfl (lh Z51 rfl rfl) rfl (pur 1 rfl ?_))))
 refine Z2r rfl rfl (Zcc) rfl rfl (Zc8 _ _ _) ?_
 refine pur 1 rfl ?_
 refine Zv 33 rfl ?_ ?_<;>intro g33
 refine pur 1 rfl ?_
 refine spG rfl rfl rfl rfl (PE.fA Z4b rfl) rfl ?_
 refine Z1b rfl rfl rfl rfl rfl (lh sc3 rfl rfl) rfl (pur 2 rfl ?_)
 refine Z2 rfl ?_ ?_<;>intro hc1<;>try simp only [cS] at hc1
 have hs2:(Z5c (b.d k) (b.rods.take (j+1)))=min (Z5c (b.d k) (b.rods.take (j))) (x.s+b.d k x):=by rw [hst];unfold Z8b;rw [dT hc1];rfl
 refine Zd [0,0,2,6,0,16,0,112,254,511,1023] (tks 0 3 (.ld 3 (.tk 4 (.ld 5 (tks 6 4 (.big 10 .done)))))) Zq (by kernel_rfl) ?_
 refine Zm 2 rfl (tk rfl (PE.indexArr ZaR rfl rfl (by omega) (by omega)) rfl (ld rfl rfl (lh sc3 rfl (Zel (by rw [topK_len];omega) (by show 0+((k:Nat):Int).toNat*1=k;omega))) rfl (tk rfl (PE.fA Z2H rfl) rfl (ld rfl rfl (lh sc3 rfl rfl) rfl (Zm 1 rfl (tk rfl (PE.add rfl rfl (by omega)) rfl (tk rfl (PE.min rfl rfl) rfl (tk rfl (PE.indexArr ZaR rfl rfl (by omega) (by omega)) rfl ?_))))))))
 refine Z03 (l':=Zj ((b.topK k).set k (Z5c (b.d k) (b.rods.take (j+1))))) rfl rfl rfl cn3 rfl rfl rfl ((Z6W (by rw [List.length_set,topK_len];omega) (by show 0+((k:Nat):Int).toNat*1=k;omega)).trans (by rw [ZbM,hs2])) (by rw [Z6,List.length_set,topK_len];show 0+((k:Nat):Int).toNat*1+1≤25;omega) ?_
 refine bgT (sqr 2 rfl (sp rfl (PE.add rfl rfl (by omega)) rfl (pur 1 rfl ?_)))
 exact Zb ⟨j+1,by omega⟩ (fun w h9=>h9.del b9)
 have hs2:(Z5c (b.d k) (b.rods.take (j+1)))=(Z5c (b.d k) (b.rods.take (j))):=by rw [hst];unfold Z8b;rw [dF (by omega)];rfl
 refine Z3 (sqr 2 rfl (sp rfl (PE.add rfl rfl (by omega)) rfl (pur 1 rfl ?_)))
 exact Zb ⟨j+1,by omega⟩ (fun w h9=>by dsimp only;rw [hs2];exact h9.del b9)
 exact absurd g33 (by simp)
 obtain rfl:j=b.rods.length:=by omega
 have hfin:=ZaB (b:=b) (K:=k) hk25
 have htk:b.rods.take b.rods.length=b.rods:=List.take_length
 refine Z8 (Za (Za (Zn ?_)))
 exact Zi (.inl ⟨rfl,rfl,rfl⟩) (fun _ h9=>by rw [← hfin];rw [htk] at h9;exact h9.del b7)
 rintro _ _ _ _ ⟨rfl,rfl,rfl,rfl⟩
 refine Z40 ?_
 refine sqt 2 rfl (spL rfl rfl (lhI b.topA ZaI rfl rfl (topK_len _ _)) rfl ?_)
 refine ZbQ rfl rfl rfl Zjq rfl (by rw [Z6];exact topK_len _ _) rfl (Z06 _) ?_
 refine Z5 ?_
 exact ZF [bd0] (H:=(b5,cel 87 (Zj b.topA))::(b4,cel 87 (Zj b.topA))::(b3,cel 157 [.func (.func 112) #[] #[]])::(b2,cel 39 (rbl b a c))::H) idH rfl (.cons (RV.cell rfl (lhI b.topA ZaI rfl rfl (topK_len _ _))) .nil) rfl ⟨rfl,rfl,rfl⟩ (fun w h=>((((h.del b5).del b4).del b3).del b2).ftail)
set_option maxHeartbeats 400000 in
theorem Zff (b:Rb) (a:Option Addr) (c:Nat) (hb:b.ok) (hs:List Int) (hl:hs.length=25) (hh:∀ k,k<25→0≤na hs k∧na hs k≤9) (hf:∀ x∈b.rods,b.feel (na hs) x=x.s) (H:Z7) (R:Z4) [hB:MemRows a 4 (rdrows b.rods) R] :
    FnV Tryz.prog 76 [(b.v a c),.agg (Zj hs).toArray,(.agg #[.func (.func 112) #[] #[]])] H R (.bool true):=by
 refine Z9 Tryz.func76 rfl Tryz.ntmps76 rfl ?_
 refine sqt 4 rfl (bx rfl rfl rfl (fun b3=>bx rfl rfl rfl (fun b4=>bx rfl rfl rfl (fun b5=>pur 1 rfl (Z0 (sqt 4 rfl (sp rfl (PE.fA Z0a rfl) rfl (spL rfl rfl (lh Z52 rfl rfl) rfl (sp rfl (PE.lenSl Z3Z rfl) rfl (pur 1 rfl (Z1 ?_)))))))))))
 refine Zc (ι:={j:Nat // j≤b.rods.length}) (fun j=>⟨[(3,.pointer (some ⟨b3,0,none⟩)),(4,.pointer (some ⟨b4,0,none⟩)),(5,.pointer (some ⟨b5,0,none⟩)),(10,.slice a b.rods.length c),(11,.int .i64 b.rods.length),(12,.int .i64 (j.1:Int))],(b5,cel 157 [.func (.func 112) #[] #[]])::(b4,cel 87 (Zj hs))::(b3,cel 39 (rbl b a c))::H,R⟩) (fun j=>b.rods.length-j.1) ⟨0,Nat.zero_le _⟩ ?_ (fun j=>?_)
 exact Zf idH
 obtain ⟨j,hj⟩:=j
 dsimp only at hj ⊢
 refine sqt 1 rfl (pur 1 rfl (Z0 ?_))
 refine Z2 rfl ?_ ?_<;>intro hc0<;>try simp only [cS] at hc0
 obtain ⟨x,hx⟩:∃ x,b.rods[j]?=some x:=⟨_,List.getElem?_eq_getElem (by omega)⟩
 have hxm:=List.mem_of_getElem? hx
 have hxo:=hb.rod x hxm
 have hbc:=hb.cols
 have hbr:=hb.rows
 have hbf:=hb.few
 have hfx:=hf x hxm
 refine Zl (a:=a) (sz:=4) (rows:=rdrows b.rods) (ne0 (by rw [rd_len];omega)) (fun ba oa he=>?_)
 subst he
 refine Z3 (Z0 (Z1 (sqt 6 rfl (pur 1 rfl (sp rfl (PE.indexAddr ZdG rfl rfl (by omega) (by omega)) rfl (spL rfl rfl (lfA ZaH (row:=rdrow x) (Z7y hx) rfl) rfl (alc rfl Z3Q rfl (fun b8=>pur 1 rfl ?_))))))))
 refine Z03 (l':=rdrow x) rfl rfl rfl ZaJ rfl rfl rfl rfl (nl rfl) ?_
 refine Z0 ?_
 refine Zd [0,1,0,7,15,31,31,31,159,31,543,2047,31,4127,16383,32767] (.tk 0 (.ld 1 (.tk 2 (.big 3 (.tk 4 (.ld 5 (.ld 6 (.tk 7 (.ld 8 (.tk 9 (.ld 10 (.tk 12 (.ld 13 (.big 11 (.tk 14 (.tk 15 .done)))))))))))))))) Zq (by kernel_rfl) ?_
 refine tk rfl (PE.fA Z9M rfl) rfl (ld rfl rfl (lh Z51 rfl rfl) rfl (Zm 1 rfl ?_))
 refine Z2r rfl rfl (Zcc) rfl rfl (Zc8 _ _ _) ?_
 refine bgT (Zm 1 rfl ?_)
 refine Zv 21 rfl ?_ ?_<;>intro g21
 refine ldG rfl rfl rfl rfl rfl (lhA (rbl b (some ⟨ba,oa,none⟩) c) ZG rfl rfl rfl) rfl (ldG rfl rfl rfl rfl rfl (lhI hs ZaI rfl rfl (hl)) rfl ?_)
 refine tkG rfl rfl rfl rfl (PE.fA Z4a rfl) rfl ?_
 refine ldG rfl rfl rfl rfl rfl (lhA [.int .i64 x.c,.int .i64 x.r] Z1Z rfl rfl rfl) rfl ?_
 refine tkG rfl rfl rfl rfl (PE.fA Z4b rfl) rfl ?_
 refine ldG rfl rfl rfl rfl rfl (lh sc3 rfl rfl) rfl ?_
 refine tkG rfl rfl rfl rfl (PE.fA Z2H rfl) rfl ?_
 refine ldG rfl rfl rfl rfl rfl (lh sc3 rfl rfl) rfl ?_
 refine clG rfl rfl rfl rfl ZgJ rfl rfl (Z8R b (some ⟨ba,oa,none⟩) c hb hs hl hh x ⟨by omega,by omega⟩ _ _) ?_
 rintro _ _ R1 ⟨rfl,rfl,hR1⟩
 obtain rfl:=hR1.symm
 clear hR1
 rw [hfx]
 refine bg (fun w hs=>⟨(lh sc3 rfl rfl) w hs,trivial,trivial,trivial,trivial,trivial⟩) ?_
 refine Zm 2 rfl ?_
 refine Z2 rfl ?_ ?_<;>intro hc1
 exact absurd hc1 (by simp)
 refine Z3 (sqr 2 rfl (sp rfl (PE.add rfl rfl (by omega)) rfl (pur 1 rfl ?_)))
 exact Zb ⟨j+1,by omega⟩ (fun w h9=>h9.del b8)
 exact absurd g21 (by simp)
 refine Z8 (Za (Za (Zn (sqt 1 rfl (pur 1 rfl (Z5 ?_))))))
 exact rtA rfl rfl rfl ⟨rfl,rfl,rfl⟩ (fun w h=>((h.del b5).del b4).del b3)
theorem Zdg (n:Int) (hn:0≤n∧n≤9) (H:Z7) (R:Z4) :
    FnV Tryz.prog 71 [.int .i64 n] H R (.bool true):=by
 refine Z9 Tryz.func71 rfl Tryz.ntmps71 rfl ?_
 refine sqt 1 rfl (pur 1 rfl (sqt 3 rfl (pur 1 rfl ?_)))
 refine clV rfl Z5v rfl rfl (Z0w _ _ _ (by omega) _ _) ?_
 refine pur 1 rfl (Z5 ?_)
 exact rtA rfl rfl rfl ⟨rfl,rfl,rfl⟩ drp
set_option maxHeartbeats 400000 in
theorem Zb4 (b:Rb) (a:Option Addr) (c:Nat) (hb:b.ok) (l:List Int) (ak:Option Addr) (ck:Nat) (hl:l.length=b.n) (hh:∀ x∈l,0≤x∧x≤9) (H:Z7) (R:Z4) [hL:MemRows ak 1 (irows l) R] :
    FnV Tryz.prog 31 [(b.v a c),.slice ak l.length ck] H R (.tuple #[.agg (Zj (Z1F l)).toArray,.int .i64 0]):=by
 have hnl:=Rb.n_le hb
 refine Z9 Tryz.func31 rfl Tryz.ntmps31 rfl ?_
 refine sqt 3 rfl (bx rfl rfl rfl (fun b2=>alc rfl ZeV rfl (fun b4=>pur 1 rfl (sqt 1 rfl (alc rfl ZeV rfl (fun b6=>Z0 (Z1 (sqt 9 rfl (pur 1 rfl (sp rfl (PE.lenSl Z04 rfl) rfl (sp rfl (PE.fA Z1q rfl) rfl (spL rfl rfl (lh sc3 rfl rfl) rfl (sp rfl (PE.fA Z1r rfl) rfl (spL rfl rfl (lh sc3 rfl rfl) rfl (sp rfl (PE.mul rfl rfl (by rw [Rb.mulN];omega)) rfl ?_)))))))))))))))
 refine pur 2 rfl ?_
 refine Z2 rfl ?_ ?_<;>intro hc0
 exact absurd hc0 (by rw [hl];unfold Rb.n;simp)
 refine sqt 4 rfl (pur 1 rfl ?_)
 refine cl rfl ZiX rfl rfl (Z07 l ak ck 71 [] [] (fun _=>true) ZiY (by omega) _ _ (fun b3 x hx=>Zdg x (hh x hx) _ _)) ?_
 rintro _ _ R1 ⟨rfl,rfl,hR1⟩
 obtain rfl:=hR1.symm
 clear hR1
 rw [show (l.all fun _=>true)=true by simp]
 refine pur 2 rfl ?_
 refine Z2 rfl ?_ ?_<;>intro hc1
 exact absurd hc1 (by simp)
 refine Sy.heap (H':=(b6,cel 87 (Zj (List.replicate 25 0)))::(b4,cel 87 (Zj (List.replicate 25 0)))::(b2,cel 39 (rbl b a c))::H) idH ?_
 refine Z3 (sqt 3 rfl (sp rfl (PE.slArr ZaR rfl) rfl (pur 1 rfl ?_)))
 refine Zka (rows:=irows l) rfl Z6a rfl (by rw [irl];rfl) (Zhl _) (by rw [irl];omega) (ZdN _) (by rw [Z6C,Z6,Z6,List.length_replicate];omega) rfl ?_
 rw [Z81 (by omega)]
 refine sqt 3 rfl (spL rfl rfl (lhA (rest:=[]) (Zj (Z1F l)) ZaI rfl (by rw [List.append_nil];rfl) (by rw [Z6];exact Z0V (by omega))) rfl ?_)
 refine ZbQ rfl rfl rfl Zjq rfl (by rw [Z6];exact Z0V (by omega)) (by simp [Zj]) (Z06 _) ?_
 refine pur 1 rfl (Z5 ?_)
 exact Zk (vs:=[_,_]) rfl (.cons (RV.cell rfl (lhA (rest:=[]) (Zj (Z1F l)) ZaI rfl (by rw [List.append_nil];rfl) (by rw [Z6];exact Z0V (by omega)))) (.cons (RV.tmp rfl) .nil)) rfl ⟨rfl,rfl,rfl⟩ (fun w h=>((h.del b6).del b4).del b2)
end Go.Proofs.YthijcgkicjljhaaGreat.Ro
namespace Go.Proofs.YthijcgkicjljhaaGreat
set_option linter.unusedSimpArgs false
set_option linter.unusedVariables false
open Go
def itO (m n:Nat) (seen:List Nat):Obj:=.mapIter (some m) n seen.toArray n
theorem Z3n (b:Bool):∀ (l:KV) (i:Nat) (x:MapEntry),x∈Z0C b i l→∃ j,x.born=i+j∧∃ e,l[j]?=some e∧x=⟨mkv b e.1,e.2,i+j⟩
 | [],_,_,h=>by cases h
 | (k,v)::l,i,x,h=>by
   rcases List.mem_cons.1 h with rfl | h
   · exact ⟨0,rfl,(k,v),rfl,rfl⟩
   · obtain ⟨j,h1,e,h2,h3⟩:=Z3n b l (i+1) x h
     exact ⟨j+1,by omega,e,by simpa using h2,by rw [h3];congr 1;omega⟩
theorem Zam {P:Program} {w:World} {r m:Nat} {b:Bool} {l:KV} {seen:List Nat} {ty:TypeId} (hm:w.heap[m]?=some (ZQ b l)) (hr:w.heap[r]?=some (itO m l.length seen)) :
   ((∀ j,j<l.length→j∈seen)∧(Instr.next (.pointer (some ⟨r,0,none⟩)) false ty).run P w = .ok (.tuple #[.bool false]) w) ∨
   ∃ (j : Nat) (e : List Int × Value) (w1 : World), l[j]? = some e ∧ j ∉ seen ∧ (w1 = w ∨ w1 = w.drew) ∧
     (Instr.next (.pointer (some ⟨r,0,none⟩)) false ty).run P w = .ok (.tuple #[.bool true,mkv b e.1,e.2]) { w1 with heap:=w1.heap.setIfInBounds r (itO m l.length (seen++[j])) }:=by
 have hlt:r<w.heap.size:=by
   rcases Nat.lt_or_ge r w.heap.size with h | h
   · exact h
   · simp [Array.getElem?_eq_none h] at hr
 have hold:∀ x∈((Z0C b 0 l).toArray).toList,x.born<l.length:=fun x hx=>by
   obtain ⟨j,h1,e,h2,h3⟩:=Z3n b l 0 x (by simpa using hx)
   have:=(List.getElem?_eq_some_iff.1 h2).1
   omega
 unfold itO at hr
 simp only [Instr.next,getObj,Sem.run_bind,Sem.run,hr,hm,ZQ,Result.andThen,next_test_false seen.toArray (Z0C b 0 l).toArray l.length l.length hold (Nat.le_refl _),Bool.false_eq_true,if_false]
 have hmem:∀ x∈(Array.filter (fun e=>!seen.toArray.contains e.born) (Z0C b 0 l).toArray).toList,x∈Z0C b 0 l∧x.born∉seen:=fun x hx=>by
   simp at hx
   exact ⟨hx.1,by simpa using hx.2⟩
 have hall:(Array.filter (fun e=>!seen.toArray.contains e.born) (Z0C b 0 l).toArray).size=0→∀ j,j<l.length→j∈seen:=fun h0 j hj=>by
   have h2:=Array.eq_empty_of_size_eq_zero h0
   rw [Array.filter_eq_empty_iff] at h2
   have h3:=h2 ⟨mkv b (l[j]).1,(l[j]).2,0+j⟩ (by
     have:=Z11 b l 0 j l[j] (List.getElem?_eq_getElem hj)
     have:=List.mem_of_getElem? this
     simpa using this)
   simpa using h3
 generalize Array.filter (fun e=>!seen.toArray.contains e.born) (Z0C b 0 l).toArray=L at hmem hall ⊢
 have hb:∀ x∈L.toList,x.born<l.length:=fun x hx=>hold x (by simpa using (hmem x hx).1)
 have e1:L.filter (fun x=>decide (x.born<l.length))=L:=Array.filter_eq_self.2 (fun x hx=>by simpa using hb x (by simpa using hx))
 have e2:L.filter (fun x=>decide (x.born≥l.length)) = #[]:=by
   rw [Array.filter_eq_empty_iff]
   intro x hx
   have:=hb x (by simpa using hx)
   simp
   omega
 simp only [e1,e2,Array.append_empty]
 by_cases h0:L.size=0
 · left
   refine ⟨hall h0,?_⟩
   have:L = #[]:=Array.eq_empty_of_size_eq_zero h0
   subst this
   simp [choose,Sem.run,Question.forced]
 · right
   have hne:L.isEmpty=false:=by simp [Array.isEmpty,h0]
   simp only [hne,Bool.false_eq_true,if_false,Array.empty_append,Array.size_map]
   have hch:∃ (j:Nat) (w1:World),j<L.size∧(w1=w∨w1=w.drew)∧(choose (Question.mapNext L.size)).run P w = .ok j w1:=by
     by_cases hf:L.size≤1
     · exact ⟨0,w,by omega,.inl rfl,by simp [choose,Sem.run,Question.forced,hf]⟩
     · exact ⟨_,w.drew,Nat.mod_lt _ (by omega),.inr rfl,by
         simp only [choose,Sem.run,Question.forced,decide_eq_true_eq,hf,if_false,Question.cut]
         rfl⟩
   obtain ⟨j,w1,hj,hal,hrun⟩:=hch
   obtain ⟨h1,h2⟩:=hmem L[j] (by simp)
   obtain ⟨q,h3,e,h4,h5⟩:=Z3n b l 0 _ h1
   have hr1:w1.heap[r]?=some (.mapIter (some m) l.length seen.toArray l.length):=by rcases hal with rfl | rfl<;>exact hr
   refine ⟨q,e,w1,h4,by rw [h3] at h2;simpa using h2,hal,?_⟩
   simp only [hrun,Array.getElem?_map,Array.getElem?_eq_getElem hj,Option.map_some,Sem.run_bind,setObj,Sem.run,hr1,Result.andThen]
   rw [h5]
   simp [itO]
section rm
variable {P:Program} {r:Option Nat} {ops:Array Oper} {n:Nat} {L:Zo} {D:List Deferred} {H:Z7} {R:Z4} {K:Act→World→Prop}
 {i d:Nat} {ty:TypeId} {pos:String} {af:Array Edge}
theorem rgM {T KT E m:Nat} {x:Operand} {b:Bool} (l:KV) (ho:ops[i]?=some ⟨some d,.range T x,ty,pos,af,none⟩) (hT:Z1t P T=some (KT,E)) (hx:ev L x=some (.map (some m))) (hd:Nat.blt d n=true)
   [mm:Mem1 m (ZQ b l) H] (h:∀ it,Sy n ((d,.pointer (some ⟨it,0,none⟩))::L) D ((it,itO m l.length [])::H) R K):Sy n L D H R (stp P r ops i K):=fun a w ha hD hs=>by
 unfold Z1t at hT
 split at hT<;>cases hT
 rename_i hu
 refine Zu ho (Zg _ rfl _) (v:=.pointer (some ⟨w.heap.size,0,none⟩)) (w':=w.alloc (itO m l.length [])) ?_ (h _ _ _ (ha.put (by simpa using hd) _) hD (hs.alloc _))
 have h1:=Z0B (P:=P) (hs.held _ mm.mem)
 simp only [execOp,ha.reads _ _ hx,Instr.range,Sem.run_bind,run_underlying hu,Result.andThen,h1,ZQ,Sem.run_pure,newObj,Sem.run]
 rfl
theorem nxM {m it:Nat} {x:Operand} {b:Bool} (l:KV) (seen:List Nat) (ho:ops[i]?=some ⟨some d,.next x false,ty,pos,af,none⟩) (hx:ev L x=some (.pointer (some ⟨it,0,none⟩))) (hd:Nat.blt d n=true)
   [mm:Mem1 m (ZQ b l) H]
   (h0:(∀ j,j<l.length→j∈seen)→Sy n ((d,.tuple #[.bool false])::L) D ((it,itO m l.length seen)::H) R K)
   (h1:∀ j e,l[j]?=some e→j∉seen→Sy n ((d,.tuple #[.bool true,mkv b e.1,e.2])::L) D ((it,itO m l.length (seen++[j]))::H) R K):Sy n L D ((it,itO m l.length seen)::H) R (stp P r ops i K):=fun a w ha hD hs=>by
 rcases Zam (P:=P) (ty:=ty) (hs.held (m,ZQ b l) (List.mem_cons_of_mem _ mm.mem)) (hs.held (it,itO m l.length seen) (by simp)) with ⟨h2,h3⟩ | ⟨j,e,w1,h2,h3,h4,h5⟩
 · refine Zu ho (Zg _ rfl _) (v:=.tuple #[.bool false]) (w':=w) ?_ (h0 h2 _ _ (ha.put (by simpa using hd) _) hD hs)
   simp only [execOp,ha.reads _ _ hx,Sem.run_bind,h3,Result.andThen,Sem.run_pure]
 · have hs1:St ((it,itO m l.length seen)::H) R w1:=by rcases h4 with rfl | rfl;exact hs;exact hs.drew
   refine Zu ho (Zg _ rfl _) (v:=.tuple #[.bool true,mkv b e.1,e.2]) (w':={ w1 with heap:=w1.heap.setIfInBounds it (itO m l.length (seen++[j])) }) ?_ (h1 j e h2 h3 _ _ (ha.put (by simpa using hd) _) hD hs1.set)
   simp only [execOp,ha.reads _ _ hx,Sem.run_bind,h5,Result.andThen,Sem.run_pure]
theorem Z86 {w:World} {it m j:Nat} {b:Bool} {l:KV} {seen:List Nat} {e:List Int×Value} (hm:w.heap[m]?=some (ZQ b l)) (hi:w.heap[it]?=some (itO m l.length (seen++[j]))) (he:l[j]?=some e) :
   (Instr.entry (.pointer (some ⟨it,0,none⟩))).run P w = .ok (.tuple #[mkv b e.1,e.2]) w:=by
 have hnd:(((Z0C b 0 l).toArray.toList).map (·.born)).Nodup:=by
   rw [show (((Z0C b 0 l).toArray.toList).map (·.born))=List.range' 0 l.length from by
     simp only
     have:∀ (l:KV) (i:Nat),(Z0C b i l).map (·.born)=List.range' i l.length:=fun l=>by
       induction l with
       | nil=>intro i;rfl
       | cons p l ih=>intro i;obtain ⟨k,v⟩:=p;simp only [Z0C,List.map_cons,List.length_cons,List.range'_succ,ih (i+1)]
     exact this l 0]
   exact List.nodup_range'
 have hf:(Z0C b 0 l).toArray.find? (·.born == j)=some ⟨mkv b e.1,e.2,0+j⟩:=by
   rw [← Array.find?_toList]
   have:=find_born ⟨mkv b e.1,e.2,0+j⟩ (Z0C b 0 l) hnd (List.mem_of_getElem? (Z11 b l 0 j e he))
   simpa using this
 unfold itO at hi
 simp only [Instr.entry,getObj,Sem.run_bind,Sem.run,hi,hm,ZQ,Result.andThen]
 simp only [ZQ] at hm
 simp [Sem.run,hm,Result.andThen,hf,Sem.run_pure,Sem.run_bind]
theorem enM {m it j:Nat} {x:Operand} {b:Bool} (l:KV) (seen:List Nat) {e:List Int×Value} (ho:ops[i]?=some ⟨some d,.entry x,ty,pos,af,none⟩) (hx:ev L x=some (.pointer (some ⟨it,0,none⟩))) (hd:Nat.blt d n=true)
   (he:l[j]?=some e) [mm:Mem1 m (ZQ b l) H] [mi:Mem1 it (itO m l.length (seen++[j])) H] (h:Sy n ((d,.tuple #[mkv b e.1,e.2])::L) D H R K):Sy n L D H R (stp P r ops i K):=fun a w ha hD hs=>by
 refine Zu ho (Zg _ rfl _) (v:=.tuple #[mkv b e.1,e.2]) (w':=w) ?_ (h _ _ (ha.put (by simpa using hd) _) hD hs)
 simp only [execOp,ha.reads _ _ hx,Sem.run_bind,Z86 (P:=P) (hs.held _ mm.mem) (hs.held _ mi.mem) he,Result.andThen,Sem.run_pure]
end rm
end Go.Proofs.YthijcgkicjljhaaGreat
namespace Go.Proofs.YthijcgkicjljhaaGreat.Ro
set_option linter.unusedSimpArgs false
set_option linter.unusedVariables false
open Go
theorem Zb9:cal Tryz.prog 30=true:=by kernel_rfl
theorem Z3i:cal Tryz.prog 74=true:=by kernel_rfl
theorem Z7Q:cal Tryz.prog 75=true:=by kernel_rfl
theorem Zj0:cal Tryz.prog 76=true:=by kernel_rfl
theorem Z5x:ZB Tryz.prog 93=some 1:=by kernel_rfl
theorem Z5C:eqB Tryz.prog 10000 43=some (true,2):=by kernel_rfl
theorem Zjs:Tryz.prog.eqGuardType Tryz.prog.depth 43=false:=by kernel_rfl
theorem Z7l:ZT Tryz.prog 99 1=some 3:=by kernel_rfl
theorem Z7m:ZT Tryz.prog 99 2=some 28:=by kernel_rfl
theorem Z5Q:Z1t Tryz.prog 97=some (43,3):=by kernel_rfl
theorem Z6J:Z2S Tryz.prog 10000 43=true:=by kernel_rfl
theorem Zky:ZL Tryz.prog 99=some [(0,3),(3,25),(28,1)]:=by kernel_rfl
theorem ZaM:Z0g Tryz.prog 93=true:=by kernel_rfl
theorem Zig:Z0g Tryz.prog 97=true:=by kernel_rfl
theorem Z7I:Zw Tryz.prog 93=some ([.pointer none]):=by kernel_rfl
theorem ZkE:Zw Tryz.prog 99=some ([.int .i64 0,.int .i64 0,.slice none 0 0,.int .i64 0,.int .i64 0,.int .i64 0,.int .i64 0,.int .i64 0,.int .i64 0,.int .i64 0,.int .i64 0,.int .i64 0,.int .i64 0,.int .i64 0,.int .i64 0,.int .i64 0,.int .i64 0,.int .i64 0,.int .i64 0,.int .i64 0,.int .i64 0,.int .i64 0,.int .i64 0,.int .i64 0,.int .i64 0,.int .i64 0,.int .i64 0,.int .i64 0,.map none]):=by kernel_rfl
theorem zv3:zvl Tryz.prog 3=some (.int .i64 0):=by kernel_rfl
def fdl (b:Rb) (a:Option Addr) (c m:Nat):List Value:=.int .i64 (b.cols:Int)::.int .i64 (b.rows:Int)::.slice a b.rods.length c::(Zj b.topA++[.map (some m)])
theorem ZdI (b:Rb) (a:Option Addr) (c m:Nat):(fdl b a c m).length=29:=by simp [fdl,Z6,Rb.topA,topK_len]
theorem Z4H {b:Rb} {a:Option Addr} {c m:Nat}:(fdl b a c m)[28]?=some (.map (some m)):=by
 have h:=topK_len b b.n
 unfold fdl Rb.topA
 simp only [List.getElem?_cons_succ]
 rw [List.getElem?_append_right (by rw [Z6,h];decide),Z6,h];rfl
theorem Z9F {b:Rb} (hb:b.ok) {a:Option Addr} {c m k i:Nat} (hk:k<b.n) (e:i=3+k):(fdl b a c m)[i]?=some (.int .i64 (b.top k)):=by
 subst e
 have hn:=Rb.n_le hb
 have h:=topK_len b b.n
 rw [show 3+k=k+1+1+1 by omega]
 unfold fdl
 simp only [List.getElem?_cons_succ]
 rw [List.getElem?_append_left (by rw [Z6,Rb.topA,h];omega),Z0x (na_get (l:=b.topA) (k:=k) (by rw [Rb.topA,h];omega)),topA_top hb hk]
theorem Zhv {l:List Int} (h:l.length=25):∃ x0 x1 x2 x3 x4 x5 x6 x7 x8 x9 y0 y1 y2 y3 y4 y5 y6 y7 y8 y9 z0 z1 z2 z3 z4,l=[x0,x1,x2,x3,x4,x5,x6,x7,x8,x9,y0,y1,y2,y3,y4,y5,y6,y7,y8,y9,z0,z1,z2,z3,z4]:=by
 match l,h with
 | [x0,x1,x2,x3,x4,x5,x6,x7,x8,x9,y0,y1,y2,y3,y4,y5,y6,y7,y8,y9,z0,z1,z2,z3,z4],_=>exact ⟨x0,x1,x2,x3,x4,x5,x6,x7,x8,x9,y0,y1,y2,y3,y4,y5,y6,y7,y8,y9,z0,z1,z2,z3,z4,rfl⟩
theorem Ze1 {l:List Nat} {j:Nat} (h:l.Nodup) (hj:j∉l):(l++[j]).Nodup:=by
 rw [List.nodup_append]
 exact ⟨h,by simp,fun a ha b hb e=>hj (by rw [List.mem_singleton.1 hb] at e;rw [← e];exact ha)⟩
theorem Zag {b:Rb} {j:Nat} {x:Rd} (h:b.rods[j]?=some x):rdrows b.rods≠[]:=fun h0=>by
 have:=congrArg List.length h0
 rw [rd_len] at this
 have h2:=(List.getElem?_eq_some_iff.1 h).1
 simp only [List.length_nil] at this;omega
theorem Z0s (b:Rb) (a:Option Addr) (c m:Nat) {L:Zo} {x y z:Operand} {d:Option Tmp} {ty:TypeId} {pos:String} {af:Array Edge} {g:Option (Nat×Bool)} (hx:ev L x=some (b.v a c)) (hy:ev L y=some (.agg (Zj b.topA).toArray)) (hz:ev L z=some (.map (some m))):PE Tryz.prog L ⟨d,.build 99 #[(0,x),(1,y),(2,z)],ty,pos,af,g⟩ (.agg (fdl b a c m).toArray):=by
 refine PE.build (parts:=[(0,x),(1,y),(2,z)]) (vs:=[(0,b.v a c),(1,.agg (Zj b.topA).toArray),(2,.map (some m))]) Zky ZkE (by simp only [evp,hx,hy,hz]) ?_
 obtain ⟨x0,x1,x2,x3,x4,x5,x6,x7,x8,x9,y0,y1,y2,y3,y4,y5,y6,y7,y8,y9,z0,z1,z2,z3,z4,e⟩:=Zhv (topK_len b b.n)
 unfold fdl Rb.topA
 rw [e];rfl
set_option maxHeartbeats 1000000 in
theorem Z5s (b:Rb) (a:Option Addr) (c:Nat) (hb:b.ok) (hf:∀ x∈b.rods,b.feel b.top x=x.s) (H:Z7) (R:Z4) [hB:MemRows a 4 (rdrows b.rods) R] :
    Fn Tryz.prog 35 [(b.v a c),.int .i64 0] H R (fun v H' R'=>∃ (bf m:Nat) (kv:KV),KvR b b.all kv∧v = .tuple #[.pointer (some ⟨bf,0,none⟩),.int .i64 0]∧H'=(m,ZQ true kv)::H∧R'=RowsA (some ⟨bf,0,none⟩) 29 [fdl b a c m]::R):=by
 refine Z1G Tryz.func35 rfl Tryz.ntmps35 rfl ?_
 refine sqt 3 rfl (bx rfl rfl rfl (fun b2=>pur 2 rfl (Z0 (sqt 3 rfl (spL rfl rfl (lhA (rbl b a c) ZG rfl rfl rfl) rfl ?_)))))
 refine clV rfl Zb9 rfl rfl (Z0M b a c hb _ _) ?_
 refine pur 1 rfl (sqt 2 rfl (pur 2 rfl ?_))
 refine Z2 rfl ?_ ?_<;>intro hc0
 exact absurd hc0 (by simp)
 ·
  refine Z3 (Z0 (sqt 2 rfl (pur 2 rfl ?_)))
  refine Z2 rfl ?_ ?_<;>intro hc1
  exact absurd hc1 (by simp)
  ·
   refine Z3 (Z0 ?_)
   refine Z2j (ι:=Nat×Nat×Nat) (fun y=>⟨[(2,.pointer (some ⟨b2,0,none⟩)),(7,.pointer (some ⟨y.1,0,none⟩))],(y.1,cel 93 [.pointer (some ⟨y.2.1,0,none⟩)])::(y.2.1,cel 99 (fdl b a c y.2.2))::(y.2.2,ZQ true [])::(b2,cel 39 (rbl b a c))::H,R⟩) ?_ ?_
   refine Zd [0,0,0,6,0,31,63,0,255] (.ld 0 (.ld 1 (.any (.alt 2 (.any (.alt 3 (.any (.alt 4 (.tk 5 (.any (.alt 6 (.big 7 (.big 8 .done)) (.alt 7 (.big 6 (.big 8 .done)) .stop)))) (.alt 7 (.big 4 (.tk 5 (.big 6 (.big 8 .done)))) .stop))) (.alt 4 (.any (.alt 3 (.tk 5 (.any (.alt 6 (.big 7 (.big 8 .done)) (.alt 7 (.big 6 (.big 8 .done)) .stop)))) (.alt 7 (.big 3 (.tk 5 (.big 6 (.big 8 .done)))) .stop))) (.alt 7 (.any (.alt 3 (.big 4 (.tk 5 (.big 6 (.big 8 .done)))) (.alt 4 (.big 3 (.tk 5 (.big 6 (.big 8 .done)))) .stop))) .stop)))) (.alt 4 (.any (.alt 2 (.any (.alt 3 (.tk 5 (.any (.alt 6 (.big 7 (.big 8 .done)) (.alt 7 (.big 6 (.big 8 .done)) .stop)))) (.alt 7 (.big 3 (.tk 5 (.big 6 (.big 8 .done)))) .stop))) (.alt 7 (.big 2 (.big 3 (.tk 5 (.big 6 (.big 8 .done))))) .stop))) (.alt 7 (.any (.alt 2 (.any (.alt 3 (.big 4 (.tk 5 (.big 6 (.big 8 .done)))) (.alt 4 (.big 3 (.tk 5 (.big 6 (.big 8 .done)))) .stop))) (.alt 4 (.big 2 (.big 3 (.tk 5 (.big 6 (.big 8 .done))))) .stop))) .stop)))))) Zq (by kernel_rfl) ?_
   refine ld rfl rfl (lhA (rbl b a c) ZG rfl rfl rfl) rfl (ld rfl rfl (lhA (rbl b a c) ZG rfl rfl rfl) rfl ?_)
   refine Zs ?_ ?_
   refine clV rfl Z7Q rfl rfl (Z7M _ _) ?_
   refine bg (fun w hs=>⟨(lhA (rbl b a c) ZG rfl rfl rfl) w hs,(lhA (rbl b a c) ZG rfl rfl rfl) w hs,trivial⟩) ?_
   refine Zs ?_ ?_
   refine clV rfl Z3i rfl rfl (Z1n b a c hb _ _) ?_
   refine bg (fun w hs=>⟨trivial,(lhA (rbl b a c) ZG rfl rfl rfl) w hs,trivial⟩) ?_
   refine Zs ?_ ?_
   refine mkm rfl rfl true (fun m=>?_)
   refine bg (fun w hs=>⟨(lhA (rbl b a c) ZG rfl rfl rfl) w hs,trivial⟩) ?_
   refine tk rfl (Z0s b a c m rfl rfl rfl) rfl ?_
   refine Zs ?_ ?_
   refine bx rfl rfl rfl (fun b27=>bgT (alc rfl Z7I rfl (fun b7=>bgT ?_)))
   refine sto rfl rfl rfl Z5x rfl rfl rfl rfl ?_
   refine bgT ?_
   exact Zh (b7,b27,m) (fun w h=>((h.pull m).pull b27).pull b7)
   refine Zs ?_ ?_
   refine alc rfl Z7I rfl (fun b7=>?_)
   refine bg (fun w hs=>⟨(lhA (rbl b a c) ZG rfl rfl rfl) w hs,trivial⟩) ?_
   refine bx rfl rfl rfl (fun b27=>bgT ?_)
   refine sto rfl rfl rfl Z5x rfl rfl rfl rfl ?_
   refine bgT ?_
   exact Zh (b7,b27,m) (fun w h=>((h.pull m).pull b27).pull b7)
   exact ZO
   refine Zs ?_ ?_
   refine alc rfl Z7I rfl (fun b7=>?_)
   refine bg (fun w hs=>⟨(lhA (rbl b a c) ZG rfl rfl rfl) w hs,trivial⟩) ?_
   refine mkm rfl rfl true (fun m=>?_)
   refine bg (fun w hs=>⟨(lhA (rbl b a c) ZG rfl rfl rfl) w hs,trivial⟩) ?_
   refine tk rfl (Z0s b a c m rfl rfl rfl) rfl ?_
   refine bx rfl rfl rfl (fun b27=>bgT ?_)
   refine sto rfl rfl rfl Z5x rfl rfl rfl rfl ?_
   refine bgT ?_
   exact Zh (b7,b27,m) (fun w h=>((h.pull m).pull b27).pull b7)
   exact ZO
   refine Zs ?_ ?_
   refine mkm rfl rfl true (fun m=>?_)
   refine bg (fun w hs=>⟨(lhA (rbl b a c) ZG rfl rfl rfl) w hs,(lhA (rbl b a c) ZG rfl rfl rfl) w hs,trivial⟩) ?_
   refine Zs ?_ ?_
   refine clV rfl Z3i rfl rfl (Z1n b a c hb _ _) ?_
   refine bg (fun w hs=>⟨trivial,(lhA (rbl b a c) ZG rfl rfl rfl) w hs,trivial⟩) ?_
   refine tk rfl (Z0s b a c m rfl rfl rfl) rfl ?_
   refine Zs ?_ ?_
   refine bx rfl rfl rfl (fun b27=>bgT (alc rfl Z7I rfl (fun b7=>bgT ?_)))
   refine sto rfl rfl rfl Z5x rfl rfl rfl rfl ?_
   refine bgT ?_
   exact Zh (b7,b27,m) (fun w h=>((h.pull m).pull b27).pull b7)
   refine Zs ?_ ?_
   refine alc rfl Z7I rfl (fun b7=>?_)
   refine bg (fun w hs=>⟨(lhA (rbl b a c) ZG rfl rfl rfl) w hs,trivial⟩) ?_
   refine bx rfl rfl rfl (fun b27=>bgT ?_)
   refine sto rfl rfl rfl Z5x rfl rfl rfl rfl ?_
   refine bgT ?_
   exact Zh (b7,b27,m) (fun w h=>((h.pull m).pull b27).pull b7)
   exact ZO
   refine Zs ?_ ?_
   refine alc rfl Z7I rfl (fun b7=>?_)
   refine bg (fun w hs=>⟨(lhA (rbl b a c) ZG rfl rfl rfl) w hs,(lhA (rbl b a c) ZG rfl rfl rfl) w hs,trivial⟩) ?_
   refine clV rfl Z3i rfl rfl (Z1n b a c hb _ _) ?_
   refine bg (fun w hs=>⟨trivial,(lhA (rbl b a c) ZG rfl rfl rfl) w hs,trivial⟩) ?_
   refine tk rfl (Z0s b a c m rfl rfl rfl) rfl ?_
   refine bx rfl rfl rfl (fun b27=>bgT ?_)
   refine sto rfl rfl rfl Z5x rfl rfl rfl rfl ?_
   refine bgT ?_
   exact Zh (b7,b27,m) (fun w h=>((h.pull m).pull b27).pull b7)
   exact ZO
   refine Zs ?_ ?_
   refine alc rfl Z7I rfl (fun b7=>?_)
   refine bg (fun w hs=>⟨(lhA (rbl b a c) ZG rfl rfl rfl) w hs,(lhA (rbl b a c) ZG rfl rfl rfl) w hs,trivial⟩) ?_
   refine Zs ?_ ?_
   refine clV rfl Z3i rfl rfl (Z1n b a c hb _ _) ?_
   refine bg (fun w hs=>⟨trivial,(lhA (rbl b a c) ZG rfl rfl rfl) w hs,trivial⟩) ?_
   refine mkm rfl rfl true (fun m=>?_)
   refine bg (fun w hs=>⟨(lhA (rbl b a c) ZG rfl rfl rfl) w hs,trivial⟩) ?_
   refine tk rfl (Z0s b a c m rfl rfl rfl) rfl ?_
   refine bx rfl rfl rfl (fun b27=>bgT ?_)
   refine sto rfl rfl rfl Z5x rfl rfl rfl rfl ?_
   refine bgT ?_
   exact Zh (b7,b27,m) (fun w h=>((h.pull m).pull b27).pull b7)
   refine Zs ?_ ?_
   refine mkm rfl rfl true (fun m=>?_)
   refine bg (fun w hs=>⟨(lhA (rbl b a c) ZG rfl rfl rfl) w hs,(lhA (rbl b a c) ZG rfl rfl rfl) w hs,trivial⟩) ?_
   refine clV rfl Z3i rfl rfl (Z1n b a c hb _ _) ?_
   refine bg (fun w hs=>⟨trivial,(lhA (rbl b a c) ZG rfl rfl rfl) w hs,trivial⟩) ?_
   refine tk rfl (Z0s b a c m rfl rfl rfl) rfl ?_
   refine bx rfl rfl rfl (fun b27=>bgT ?_)
   refine sto rfl rfl rfl Z5x rfl rfl rfl rfl ?_
   refine bgT ?_
   exact Zh (b7,b27,m) (fun w h=>((h.pull m).pull b27).pull b7)
   exact ZO
   exact ZO
   refine Zs ?_ ?_
   refine mkm rfl rfl true (fun m=>?_)
   refine bg (fun w hs=>⟨(lhA (rbl b a c) ZG rfl rfl rfl) w hs,(lhA (rbl b a c) ZG rfl rfl rfl) w hs,trivial⟩) ?_
   refine Zs ?_ ?_
   refine clV rfl Z7Q rfl rfl (Z7M _ _) ?_
   refine bg (fun w hs=>⟨(lhA (rbl b a c) ZG rfl rfl rfl) w hs,(lhA (rbl b a c) ZG rfl rfl rfl) w hs,trivial⟩) ?_
   refine Zs ?_ ?_
   refine clV rfl Z3i rfl rfl (Z1n b a c hb _ _) ?_
   refine bg (fun w hs=>⟨trivial,(lhA (rbl b a c) ZG rfl rfl rfl) w hs,trivial⟩) ?_
   refine tk rfl (Z0s b a c m rfl rfl rfl) rfl ?_
   refine Zs ?_ ?_
   refine bx rfl rfl rfl (fun b27=>bgT (alc rfl Z7I rfl (fun b7=>bgT ?_)))
   refine sto rfl rfl rfl Z5x rfl rfl rfl rfl ?_
   refine bgT ?_
   exact Zh (b7,b27,m) (fun w h=>((h.pull m).pull b27).pull b7)
   refine Zs ?_ ?_
   refine alc rfl Z7I rfl (fun b7=>?_)
   refine bg (fun w hs=>⟨(lhA (rbl b a c) ZG rfl rfl rfl) w hs,trivial⟩) ?_
   refine bx rfl rfl rfl (fun b27=>bgT ?_)
   refine sto rfl rfl rfl Z5x rfl rfl rfl rfl ?_
   refine bgT ?_
   exact Zh (b7,b27,m) (fun w h=>((h.pull m).pull b27).pull b7)
   exact ZO
   refine Zs ?_ ?_
   refine alc rfl Z7I rfl (fun b7=>?_)
   refine bg (fun w hs=>⟨(lhA (rbl b a c) ZG rfl rfl rfl) w hs,(lhA (rbl b a c) ZG rfl rfl rfl) w hs,trivial⟩) ?_
   refine clV rfl Z3i rfl rfl (Z1n b a c hb _ _) ?_
   refine bg (fun w hs=>⟨trivial,(lhA (rbl b a c) ZG rfl rfl rfl) w hs,trivial⟩) ?_
   refine tk rfl (Z0s b a c m rfl rfl rfl) rfl ?_
   refine bx rfl rfl rfl (fun b27=>bgT ?_)
   refine sto rfl rfl rfl Z5x rfl rfl rfl rfl ?_
   refine bgT ?_
   exact Zh (b7,b27,m) (fun w h=>((h.pull m).pull b27).pull b7)
   exact ZO
   refine Zs ?_ ?_
   refine alc rfl Z7I rfl (fun b7=>?_)
   refine bg (fun w hs=>⟨(lhA (rbl b a c) ZG rfl rfl rfl) w hs,(lhA (rbl b a c) ZG rfl rfl rfl) w hs,trivial⟩) ?_
   refine clV rfl Z7Q rfl rfl (Z7M _ _) ?_
   refine bg (fun w hs=>⟨(lhA (rbl b a c) ZG rfl rfl rfl) w hs,(lhA (rbl b a c) ZG rfl rfl rfl) w hs,trivial⟩) ?_
   refine clV rfl Z3i rfl rfl (Z1n b a c hb _ _) ?_
   refine bg (fun w hs=>⟨trivial,(lhA (rbl b a c) ZG rfl rfl rfl) w hs,trivial⟩) ?_
   refine tk rfl (Z0s b a c m rfl rfl rfl) rfl ?_
   refine bx rfl rfl rfl (fun b27=>bgT ?_)
   refine sto rfl rfl rfl Z5x rfl rfl rfl rfl ?_
   refine bgT ?_
   exact Zh (b7,b27,m) (fun w h=>((h.pull m).pull b27).pull b7)
   exact ZO
   refine Zs ?_ ?_
   refine alc rfl Z7I rfl (fun b7=>?_)
   refine bg (fun w hs=>⟨(lhA (rbl b a c) ZG rfl rfl rfl) w hs,(lhA (rbl b a c) ZG rfl rfl rfl) w hs,trivial⟩) ?_
   refine Zs ?_ ?_
   refine clV rfl Z7Q rfl rfl (Z7M _ _) ?_
   refine bg (fun w hs=>⟨(lhA (rbl b a c) ZG rfl rfl rfl) w hs,(lhA (rbl b a c) ZG rfl rfl rfl) w hs,trivial⟩) ?_
   refine Zs ?_ ?_
   refine clV rfl Z3i rfl rfl (Z1n b a c hb _ _) ?_
   refine bg (fun w hs=>⟨trivial,(lhA (rbl b a c) ZG rfl rfl rfl) w hs,trivial⟩) ?_
   refine mkm rfl rfl true (fun m=>?_)
   refine bg (fun w hs=>⟨(lhA (rbl b a c) ZG rfl rfl rfl) w hs,trivial⟩) ?_
   refine tk rfl (Z0s b a c m rfl rfl rfl) rfl ?_
   refine bx rfl rfl rfl (fun b27=>bgT ?_)
   refine sto rfl rfl rfl Z5x rfl rfl rfl rfl ?_
   refine bgT ?_
   exact Zh (b7,b27,m) (fun w h=>((h.pull m).pull b27).pull b7)
   refine Zs ?_ ?_
   refine mkm rfl rfl true (fun m=>?_)
   refine bg (fun w hs=>⟨(lhA (rbl b a c) ZG rfl rfl rfl) w hs,(lhA (rbl b a c) ZG rfl rfl rfl) w hs,trivial⟩) ?_
   refine clV rfl Z3i rfl rfl (Z1n b a c hb _ _) ?_
   refine bg (fun w hs=>⟨trivial,(lhA (rbl b a c) ZG rfl rfl rfl) w hs,trivial⟩) ?_
   refine tk rfl (Z0s b a c m rfl rfl rfl) rfl ?_
   refine bx rfl rfl rfl (fun b27=>bgT ?_)
   refine sto rfl rfl rfl Z5x rfl rfl rfl rfl ?_
   refine bgT ?_
   exact Zh (b7,b27,m) (fun w h=>((h.pull m).pull b27).pull b7)
   exact ZO
   refine Zs ?_ ?_
   refine mkm rfl rfl true (fun m=>?_)
   refine bg (fun w hs=>⟨(lhA (rbl b a c) ZG rfl rfl rfl) w hs,(lhA (rbl b a c) ZG rfl rfl rfl) w hs,trivial⟩) ?_
   refine clV rfl Z7Q rfl rfl (Z7M _ _) ?_
   refine bg (fun w hs=>⟨(lhA (rbl b a c) ZG rfl rfl rfl) w hs,(lhA (rbl b a c) ZG rfl rfl rfl) w hs,trivial⟩) ?_
   refine clV rfl Z3i rfl rfl (Z1n b a c hb _ _) ?_
   refine bg (fun w hs=>⟨trivial,(lhA (rbl b a c) ZG rfl rfl rfl) w hs,trivial⟩) ?_
   refine tk rfl (Z0s b a c m rfl rfl rfl) rfl ?_
   refine bx rfl rfl rfl (fun b27=>bgT ?_)
   refine sto rfl rfl rfl Z5x rfl rfl rfl rfl ?_
   refine bgT ?_
   exact Zh (b7,b27,m) (fun w h=>((h.pull m).pull b27).pull b7)
   exact ZO
   exact ZO
   ·
    rintro ⟨b7,b27,m⟩
    dsimp only
    refine Z0 (Z0 ?_)
    refine Zd [0,0,2,6,14,0,63,127] (.ld 0 (.ld 1 (.tk 2 (.tk 3 (.ld 4 (.big 5 (.big 6 (.tk 7 .done)))))))) Zq (by kernel_rfl) ?_
    refine ld rfl rfl (lhA (rbl b a c) ZG rfl rfl rfl) rfl (ld rfl rfl (lh ZaM rfl rfl) rfl (tk rfl (PE.nilCheck rfl) rfl (tk rfl (PE.fA Z7l rfl) rfl (ld rfl rfl (lhA (rest:=[.map (some m)]) (Zj b.topA) ZaI rfl rfl (by rw [Z6];exact topK_len _ _)) rfl ?_))))
    refine clV rfl Z7Q rfl rfl (Z7M _ _) ?_
    refine bg (fun w hs=>⟨(lhA (rest:=[.map (some m)]) (Zj b.topA) ZaI rfl rfl (by rw [Z6];exact topK_len _ _)) w hs,(lh ZaM rfl rfl) w hs,(lhA (rbl b a c) ZG rfl rfl rfl) w hs,trivial⟩) ?_
    refine clV rfl Zj0 rfl rfl (Zff b a c hb b.topA (topK_len _ _) (fun k hk=>Zey hb hk) (fun x hx=>by rw [Z9J hb];exact hf x hx) _ _) ?_
    refine bgT (Zm 1 rfl ?_)
    refine Z2 rfl ?_ ?_<;>intro hc2
    exact absurd hc2 (by simp)
    ·
     refine Z3 (Z0 (sqt 2 rfl (spL rfl rfl (lhA (rbl b a c) ZG rfl rfl rfl) rfl ?_)))
     refine cl rfl Z9o rfl rfl (Z38 b a c _ _) ?_
     rintro _ _ _ ⟨xb,rfl,rfl,rfl⟩
     refine Z1 ?_
     refine Z0o rfl Z9p (fun c0 bl0 bd0 hcp0 hca0 hcb0 hck0=>?_)
     refine ⟨fun st pend T R'=>st = .ready∧pend=none∧∃ kv,KvR b (b.want b.n 0) kv∧T=(bd0,.deferred (some []))::(b7,cel 93 [.pointer (some ⟨b27,0,none⟩)])::(b27,cel 99 (fdl b a c m))::(m,ZQ true kv)::(b2,cel 39 (rbl b a c))::H∧R'=RowsA (some ⟨xb,0,none⟩) 3 [rbl b a c]::R,
       Fn.mono (Z22 b a c hb xb bl0 (fun k H' R'=>∃ kv,KvR b (b.want k 0) kv∧H'=(bl0,lob c0 .ready none)::(bd0,.deferred (some []))::(b7,cel 93 [.pointer (some ⟨b27,0,none⟩)])::(b27,cel 99 (fdl b a c m))::(m,ZQ true kv)::(b2,cel 39 (rbl b a c))::H∧R'=RowsA (some ⟨xb,0,none⟩) 3 [rbl b a c]::R) (fun _ _=>False)
         (fun k H' R' h9=>by obtain ⟨_,_,_,rfl⟩:=h9;simp)
         (fun k H' R' hk h9=>?_) _ _ ⟨[],KvR.nil b,rfl,rfl⟩) (fun v H' R' h9=>?_),?_⟩
     rotate_left
     · rcases h9 with ⟨kv,hkv,rfl,rfl⟩ | h9
       · exact ⟨.ready,none,_,by simp,.refl _,rfl,rfl,kv,hkv,rfl,rfl⟩
       · exact h9.elim
     rotate_left
     obtain ⟨kv,hkw,rfl,rfl⟩:=h9
     obtain ⟨u,hu⟩:∃ u:Nat,k%b.cols=u:=⟨_,rfl⟩
     obtain ⟨v,hv⟩:∃ v:Nat,k / b.cols=v:=⟨_,rfl⟩
     obtain ⟨hku,hkv,hk25⟩:=Rb.lt hb hk
     rw [hu] at hku ⊢
     rw [hv] at hkv ⊢
     have hbc:=hb.cols
     have hbr:=hb.rows
     have hbf:=hb.few
     have hnl:=Rb.n_le hb
     refine Z4m hcp0 hca0 hcb0 hck0 rfl rfl ?_
     refine sqt 1 rfl (pur 1 rfl (sqr 2 rfl (alc rfl Z3S rfl (fun b9=>?_))))
     refine sto rfl rfl rfl Z9u rfl rfl rfl rfl ?_
     refine ZA ?_
     refine Z1 (sqt 4 rfl (sp rfl (PE.fA Z0a rfl) rfl (spL rfl rfl (lh Z52 rfl rfl) rfl (sp rfl (PE.lenSl Z3Z rfl) rfl (pur 1 rfl (Z1 ?_))))))
     refine Zc (ι:={y:Nat×KV // y.1≤b.rods.length∧KvR b (b.want k y.1) y.2}) (fun y=>⟨[(2,.pointer (some ⟨b2,0,none⟩)),(7,.pointer (some ⟨b7,0,none⟩)),(8,.int .i64 (k:Int)),(9,.pointer (some ⟨b9,0,none⟩)),(41,.slice a b.rods.length c),(42,.int .i64 b.rods.length),(43,.int .i64 (y.1.1:Int))],(b9,cel 43 [.int .i64 (u:Int),.int .i64 (v:Int)])::(bl0,lob c0 .busy none)::(bd0,.deferred (some []))::(b7,cel 93 [.pointer (some ⟨b27,0,none⟩)])::(b27,cel 99 (fdl b a c m))::(m,ZQ true y.1.2)::(b2,cel 39 (rbl b a c))::H,RowsA (some ⟨xb,0,none⟩) 3 [rbl b a c]::R⟩) (fun y=>b.rods.length-y.1.1) ⟨(0,kv),Nat.zero_le _,hkw⟩ ?_ (fun y=>?_)
     exact Zf idH
     obtain ⟨⟨j,kv1⟩,hj,hkv1⟩:=y
     dsimp only at hj hkv1 ⊢
     refine sqt 1 rfl (pur 1 rfl (Z0 ?_))
     refine Z2 rfl ?_ ?_<;>intro hc3<;>try simp only [cS] at hc3
     obtain ⟨x,hx⟩:∃ x,b.rods[j]?=some x:=⟨_,List.getElem?_eq_getElem (by omega)⟩
     have hxo:=hb.rod x (List.mem_of_getElem? hx)
     have hdb:=Rb.d_bd hb hk (x:=x) ⟨by omega,by omega⟩
     have hd:=Rb.d_is hu hv x
     have htn:=ZcV hb hk
     have ht9:b.top k≤9:=ZeA _ _
     have hst:=Rb.bits_step (k:=k) hx
     refine Zl (a:=a) (sz:=4) (rows:=rdrows b.rods) (Zag hx) (fun ba oa he=>?_)
     subst he
     have hbt:=b.bits_lt k j
     have hb8:(2:Nat) ^ j<2 ^ 8:=Nat.pow_lt_pow_right (by decide) (by omega)
     refine Z3 (Z0 (Z1 (sqt 6 rfl (pur 1 rfl (sp rfl (PE.indexAddr ZdG rfl rfl (by omega) (by omega)) rfl (spL rfl rfl (lfA ZaH (row:=rdrow x) (Z7y hx) rfl) rfl (alc rfl Z3Q rfl (fun b11=>pur 1 rfl ?_))))))))
     refine Z03 (l':=rdrow x) rfl rfl rfl ZaJ rfl rfl rfl rfl (nl rfl) ?_
     refine sqt 5 rfl (spL rfl rfl (lhA [.int .i64 (u:Int),.int .i64 (v:Int)] Z1Z rfl rfl rfl) rfl (sp rfl (PE.fA Z4a rfl) rfl (spL rfl rfl (lhA [.int .i64 x.c,.int .i64 x.r] Z1Z rfl rfl rfl) rfl ?_)))
     refine cl rfl Zdw rfl rfl (Z8S (u:Int) (v:Int) x.c x.r (by omega) (by omega) (by omega) (by omega) _ _) ?_
     rintro _ _ R1 ⟨rfl,rfl,hR1⟩
     obtain rfl:=hR1.symm
     clear hR1
     rw [← hd]
     refine pur 1 rfl (Z0 ?_)
     refine Zd [0,0,2,7,15,31,63,127,255,511,1023,1023,2047,6143,16383,32767,1023,131071,1023,263167,1048575,2097151] (.tk 0 (.tk 1 (.ld 2 (tks 3 3 (.ld 6 (tks 7 3 (.ld 10 (tks 11 4 (.ld 15 (tks 16 3 (.ld 19 (.tk 20 (.tk 21 .done))))))))))))) Zq (by kernel_rfl) ?_
     refine Zm 1 rfl (tk rfl (PE.fA Z4b rfl) rfl (ld rfl rfl (lh sc3 rfl rfl) rfl (Zm 2 rfl ?_)))
     refine Zv 56 rfl ?_ ?_<;>intro g56
     try simp only [cS] at g56
     refine tkG rfl rfl rfl rfl (PE.fA Z2H rfl) rfl ?_
     refine ldG rfl rfl rfl rfl rfl (lh sc3 rfl rfl) rfl (Zm 3 rfl ?_)
     refine Zv 61 rfl ?_ ?_<;>intro g61
     try simp only [cS] at g61
     refine ldG rfl rfl rfl rfl rfl (lh ZaM rfl rfl) rfl (Zm 1 rfl ?_)
     refine tkG rfl rfl rfl rfl (PE.nilCheck rfl) rfl ?_
     refine tkG rfl rfl rfl rfl (PE.fA Z7l rfl) rfl ?_
     refine tkG rfl rfl rfl rfl (PE.indexArr ZaR rfl rfl (by omega) (by omega)) rfl ?_
     refine ldG rfl rfl rfl rfl rfl (lh (v:=.int .i64 (b.top k)) sc3 rfl (Z9F hb hk (by show 0+3+((k:Nat):Int).toNat*1=3+k;omega))) rfl (Zm 1 rfl ?_)
     refine tkG rfl rfl rfl rfl (PE.sub rfl rfl (by omega)) rfl ?_
     refine tkG rfl rfl rfl rfl (PE.fA Z2H rfl) rfl ?_
     refine ldG rfl rfl rfl rfl rfl (lh sc3 rfl rfl) rfl (Zm 2 rfl ?_)
     refine Z2 rfl ?_ ?_<;>intro hc4<;>try simp only [cS] at hc4
     have hyes:b.ex k x=true:=Rb.ex_iff.2 ⟨by omega,by omega,by omega⟩
     refine Zd [0,1,3,7,0,31,0,64,255,223,735,2047] (.ld 0 (.tk 1 (.tk 2 (.ld 3 (.ld 4 (.ld 5 (tks 6 3 (.big 9 (.tk 10 (.big 11 .done)))))))))) Zq (by kernel_rfl) ?_
     have hor:=Nat.or_lt_two_pow (Nat.lt_of_lt_of_le hbt (Nat.pow_le_pow_right (by decide) (show j≤8 by omega))) (show 1*2 ^ j<2 ^ 8 by omega)
     have hb9:b.bits k j<2 ^ 8:=Nat.lt_of_lt_of_le hbt (Nat.pow_le_pow_right (by decide) (by omega))
     have hkey:b.key k=[(u:Int),(v:Int)]:=by unfold Rb.key;rw [hu,hv]
     have hgt:(kv1.get [(u:Int),(v:Int)]).getD (.int .i64 0) = .int .i64 ((b.bits k j:Nat):Int):=by rw [← hkey,hkv1.at_ k hk,Rb.want_at]
     have hkp2:=hkv1.put (f':=b.want k j) hk (v:=b.bits k j) (fun q=>Rb.want_same)
     rw [hkey] at hkp2
     have hgt2:((kv1.put [(u:Int),(v:Int)] (.int .i64 ((b.bits k j:Nat):Int))).get [(u:Int),(v:Int)]).getD (.int .i64 0) = .int .i64 ((b.bits k j:Nat):Int):=by
       have:=hkp2.at_ k hk
       rw [Rb.want_at,hkey] at this
       exact this
     refine ld rfl rfl (lh ZaM rfl rfl) rfl (tk rfl (PE.nilCheck rfl) rfl (tk rfl (PE.fA Z7m rfl) rfl (ld rfl rfl (lh Zig rfl Z4H) rfl (ld rfl rfl (lhA [.int .i64 (u:Int),.int .i64 (v:Int)] Z1Z rfl rfl rfl) rfl ?_))))
     refine ldK rfl rfl rfl (by first | exact Z0n (b:=true) kv1 [(u:Int),(v:Int)] Z5Q (KeyT.of Z5C Z6J) (Z0q zv3) rfl hkv1.len hgt | exact Z0n (b:=true) (kv1.put [(u:Int),(v:Int)] (.int .i64 ((b.bits k j:Nat):Int))) [(u:Int),(v:Int)] Z5Q (KeyT.of Z5C Z6J) (Z0q zv3) rfl hkp2.len hgt2) rfl ?_
     refine Zm 1 rfl (tk rfl (PE.shlN (m:=1) (n:=j) rfl rfl rfl (by omega) (by omega)) rfl (tk rfl (PE.orN (m:=b.bits k j) (n:=1*2 ^ j) rfl rfl (by omega) (by omega)) rfl ?_))
     refine mpE kv1 [(u:Int),(v:Int)] (v0:=.int .i64 ((b.bits k j:Nat):Int)) rfl Z5Q (KeyT.of Z5C Z6J) (Z0q zv3) rfl rfl rfl hkv1.len hgt rfl (fun j9 hj9=>?_)
     refine bg (fun w hs=>⟨(by first | exact (Z0n (b:=true) kv1 [(u:Int),(v:Int)] Z5Q (KeyT.of Z5C Z6J) (Z0q zv3) rfl hkv1.len hgt) w hs | exact (Z0n (b:=true) (kv1.put [(u:Int),(v:Int)] (.int .i64 ((b.bits k j:Nat):Int))) [(u:Int),(v:Int)] Z5Q (KeyT.of Z5C Z6J) (Z0q zv3) rfl hkp2.len hgt2) w hs),trivial,trivial,trivial,trivial⟩) ?_
     refine Zm 1 rfl ?_
     refine mpT _ [(u:Int),(v:Int)] (v:=.int .i64 ((b.bits k j|||1*2 ^ j:Nat):Int)) rfl rfl rfl rfl hj9 ?_
     refine bgT (sqr 2 rfl (sp rfl (PE.add rfl rfl (by omega)) rfl (pur 1 rfl ?_)))
     exact Z0e ⟨(j+1,_),by dsimp only;omega,by
       have h8:=hkp2.put (f':=b.want k (j+1)) hk (v:=b.bits k j|||1*2 ^ j) (fun q=>by rw [Rb.want_step,hst,hyes];rfl)
       rw [hkey] at h8
       exact h8⟩ (by dsimp only;omega) sbA (fun w h9=>h9.del b11)
     have hno:b.ex k x=false:=Bool.eq_false_iff.2 fun h=>by
       have h9:=Rb.ex_iff.1 h
       unfold Rb.expl at h9
       omega
     refine Z3 (sqr 2 rfl (sp rfl (PE.add rfl rfl (by omega)) rfl (pur 1 rfl ?_)))
     exact Zb ⟨(j+1,kv1),by dsimp only;omega,hkv1.same (by rw [hst,hno];rfl)⟩ (fun w h9=>h9.del b11)
     try simp only [cS] at g61
     have hno:b.ex k x=false:=Bool.eq_false_iff.2 fun h=>by
       have h9:=Rb.ex_iff.1 h
       unfold Rb.expl at h9
       omega
     refine ldN rfl rfl rfl rfl rfl rfl rfl rfl ?_
     refine Zm 4 rfl ?_
     refine ldN rfl rfl rfl rfl rfl rfl rfl rfl ?_
     refine Zm 3 rfl ?_
     refine ldN rfl rfl rfl rfl rfl rfl rfl rfl ?_
     refine Zm 2 rfl ?_
     refine ZD rfl ?_
     refine Z3 (sqr 2 rfl (sp rfl (PE.add rfl rfl (by omega)) rfl (pur 1 rfl ?_)))
     exact Zb ⟨(j+1,kv1),by dsimp only;omega,hkv1.same (by rw [hst,hno];rfl)⟩ (fun w h9=>h9.del b11)
     try simp only [cS] at g56
     have hno:b.ex k x=false:=Bool.eq_false_iff.2 fun h=>by
       have h9:=Rb.ex_iff.1 h
       unfold Rb.expl at h9
       omega
     refine Zm 1 rfl ?_
     refine ldN rfl rfl rfl rfl rfl rfl rfl rfl ?_
     refine Zm 3 rfl ?_
     refine ldN rfl rfl rfl rfl rfl rfl rfl rfl ?_
     refine Zm 4 rfl ?_
     refine ldN rfl rfl rfl rfl rfl rfl rfl rfl ?_
     refine Zm 3 rfl ?_
     refine ldN rfl rfl rfl rfl rfl rfl rfl rfl ?_
     refine Zm 2 rfl ?_
     refine ZD rfl ?_
     refine Z3 (sqr 2 rfl (sp rfl (PE.add rfl rfl (by omega)) rfl (pur 1 rfl ?_)))
     exact Zb ⟨(j+1,kv1),by dsimp only;omega,hkv1.same (by rw [hst,hno];rfl)⟩ (fun w h9=>h9.del b11)
     obtain rfl:j=b.rods.length:=by omega
     refine Z8 (Za (Za (Zn ?_)))
     exact Zi (.inl ⟨rfl,kv1,hkv1.next,rfl,rfl⟩) (fun _ h9=>h9.del b9)
     rintro _ _ _ _ ⟨rfl,rfl,kv,hkw,rfl,rfl⟩
     refine Z40 ?_
     refine sqt 3 rfl (spL rfl rfl (lh ZaM rfl rfl) rfl (pur 2 rfl (Z5 ?_)))
     exact ZF [bd0] idH rfl (.cons (RV.tmp rfl) (.cons (RV.tmp rfl) .nil)) rfl ⟨b27,m,kv,hkw.all,rfl,rfl,rfl⟩ (fun w h=>St.rows (b:=b27) (e:=99) (sz:=29) (rows:=[fdl b a c m]) (rest:=[]) (by simp only [List.flatten_cons,List.flatten_nil,List.append_nil];exact (((h.del b7).del b2).ftail).pull b27) (by simp [ZdI]))
set_option maxHeartbeats 400000 in
theorem Zdd (b:Rb) (a:Option Addr) (c:Nat) (hb:b.ok) (bf m:Nat) (kv:KV) (hkv:KvR b b.all kv) (k:Nat) (hk:k<b.n) (H:Z7) (R:Z4) [hF:MemRows (some ⟨bf,0,none⟩) 29 [fdl b a c m] R] [hM:Mem1 m (ZQ true kv) H] :
    FnV Tryz.prog 38 [.pointer (some ⟨bf,0,none⟩),.agg #[.int .i64 ((k%b.cols:Nat):Int),.int .i64 ((k / b.cols:Nat):Int)]] H R (.bool (b.aloneB k)):=by
 refine Z9 Tryz.func38 rfl Tryz.ntmps38 rfl ?_
 refine sqt 2 rfl (bx rfl rfl rfl (fun b3=>pur 1 rfl (sqt 1 rfl (pur 1 rfl (Z0 (sqt 5 rfl (pur 1 rfl (sp rfl (PE.nilCheck rfl) rfl (sp rfl (PE.fA Z7m rfl) rfl (spL rfl rfl (lfB (sz:=29) Zig Z4H) rfl ?_))))))))))
 refine rgM kv rfl Z5Q rfl rfl (fun it=>?_)
 refine Z1 ?_
 refine Zc (ι:={y:List Nat×Nat // Oth b k kv y.1 y.2∧y.1.Nodup∧∀ j∈y.1,j<kv.length}) (fun y=>⟨[(0,.pointer (some ⟨bf,0,none⟩)),(3,.pointer (some ⟨b3,0,none⟩)),(5,.int .i64 ((y.1.2:Nat):Int)),(12,.pointer (some ⟨it,0,none⟩))],(it,itO m kv.length y.1.1)::(b3,cel 43 [.int .i64 ((k%b.cols:Nat):Int),.int .i64 ((k / b.cols:Nat):Int)])::H,R⟩) (fun y=>kv.length-y.1.1.length) ⟨([],0),Oth.start b k kv,List.nodup_nil,by simp⟩ ?_ (fun y=>?_)
 exact Zf idH
 obtain ⟨⟨seen,om⟩,hoth,hnd,hsl⟩:=y
 dsimp only at hoth hnd hsl ⊢
 have hom:=hoth.lt
 have hak:=Rb.all_lt hb.few k
 refine Z0 ?_
 refine Z2j (ι:={y:Bool×List Nat // (y.1=true→∃ j,y.2=seen++[j]∧j∉seen∧j<kv.length)∧(y.1=false→y.2=seen∧∀ j,j<kv.length→j∈seen)}) (fun y=>⟨[(0,.pointer (some ⟨bf,0,none⟩)),(3,.pointer (some ⟨b3,0,none⟩)),(5,.int .i64 ((om:Nat):Int)),(12,.pointer (some ⟨it,0,none⟩)),(14,.bool y.1.1)],(it,itO m kv.length y.1.2)::(b3,cel 43 [.int .i64 ((k%b.cols:Nat):Int),.int .i64 ((k / b.cols:Nat):Int)])::H,R⟩) ?_ ?_
 refine sqr 2 rfl ?_
 refine nxM kv seen rfl rfl rfl (fun hall=>?_) (fun j e hj hns=>?_)
 · refine sp rfl (PE.extract rfl rfl) rfl ?_
   exact Zh ⟨(false,seen),(fun h=>by cases h),fun _=>⟨rfl,hall⟩⟩ idH
 · refine sp rfl (PE.extract rfl rfl) rfl ?_
   exact Zh ⟨(true,seen++[j]),fun _=>⟨j,rfl,hns,(List.getElem?_eq_some_iff.1 hj).1⟩,(fun h=>by cases h)⟩ idH
 rintro ⟨⟨more,sn⟩,hs1,hs2⟩
 dsimp only at hs1 hs2 ⊢
 refine Z0 ?_
 refine Z2 rfl ?_ ?_<;>intro hc0<;>try simp only [cS] at hc0
 subst hc0
 obtain ⟨j,rfl,hns,hjl⟩:=hs1 rfl
 obtain ⟨k2,hk2,he2⟩:=hkv.ent (List.getElem_mem hjl)
 have hj:kv[j]?=some (b.key k2,.int .i64 ((b.all k2:Nat):Int)):=by rw [List.getElem?_eq_getElem hjl,he2]
 have hal:=Rb.all_lt hb.few k2
 have hnd2:(seen++[j]).Nodup:=Ze1 hnd hns
 have hsd:seen.length+1≤kv.length:=by
   have h9:=hnd2.length_le_of_subset (l₂:=List.range kv.length) (fun q hq=>by
     rcases List.mem_append.1 hq with h | h
     · exact List.mem_range.2 (hsl q h)
     · rw [List.mem_singleton.1 h];exact List.mem_range.2 hjl)
   simpa using h9
 have hsl2:∀ q∈seen++[j],q<kv.length:=fun q hq=>by
   rcases List.mem_append.1 hq with h | h
   · exact hsl q h
   · rw [List.mem_singleton.1 h];exact hjl
 refine Z3 (Z1 (sqt 6 rfl ?_))
 refine enM kv seen (e:=(b.key k2,.int .i64 ((b.all k2:Nat):Int))) rfl rfl rfl hj ?_
 refine pur 2 rfl (alc rfl Z3S rfl (fun b6=>?_))
 refine Z03 (l':=[.int .i64 ((k2%b.cols:Nat):Int),.int .i64 ((k2 / b.cols:Nat):Int)]) rfl rfl rfl Z9u rfl rfl rfl rfl (nl rfl) ?_
 refine pur 1 rfl (sqt 3 rfl (spL rfl rfl (lhA [.int .i64 ((k2%b.cols:Nat):Int),.int .i64 ((k2 / b.cols:Nat):Int)] Z1Z rfl rfl rfl) rfl (spL rfl rfl (lhA [.int .i64 ((k%b.cols:Nat):Int),.int .i64 ((k / b.cols:Nat):Int)] Z1Z rfl rfl rfl) rfl (sp rfl (PE.neqAgg (b.key k2) (b.key k) (Z25 10000 43 true 2 Z5C) Zjs rfl rfl rfl rfl) rfl ?_))))
 refine Z2 rfl ?_ ?_<;>intro hc1<;>try simp only [cS] at hc1
 have hne:k2≠k:=fun e=>by rw [e] at hc1;simp at hc1
 refine sqr 4 rfl (pur 2 rfl (sp rfl (PE.orN (m:=om) (n:=b.all k2) rfl rfl (by omega) (by omega)) rfl (pur 1 rfl ?_)))
 exact Ze ⟨(seen++[j],om|||b.all k2),hoth.more hb.few hne hk2 hj,hnd2,hsl2⟩ (by dsimp only;rw [List.length_append,List.length_singleton];omega) (fun w h9=>h9.del b6)
 have hee:k2=k:=Classical.byContradiction fun e=>absurd (Rb.key_inj (by simpa using hc1)) e
 subst hee
 refine Z3 ?_
 exact Ze ⟨(seen++[j],om),hoth.skip hj,hnd2,hsl2⟩ (by dsimp only;rw [List.length_append,List.length_singleton];omega) (fun w h9=>h9.del b6)
 subst hc0
 obtain ⟨rfl,hall⟩:=hs2 rfl
 refine Z8 (Za (Za (Zn (Z0 ?_))))
 refine Zd [0,1,3,7,0,31,0,127,255,511] (tks 0 3 (.ld 3 (.ld 4 (.ld 5 (tks 6 4 .done))))) Zq (by kernel_rfl) ?_
 refine Zm 1 rfl (tk rfl (PE.nilCheck rfl) rfl (tk rfl (PE.fA Z7m rfl) rfl (ld rfl rfl (lfB (sz:=29) Zig Z4H) rfl (ld rfl rfl (lhA [.int .i64 ((k%b.cols:Nat):Int),.int .i64 ((k / b.cols:Nat):Int)] Z1Z rfl rfl rfl) rfl ?_))))
 refine ldK rfl rfl rfl (Z0n (b:=true) kv (b.key k) Z5Q (KeyT.of Z5C Z6J) (Z0q zv3) rfl hkv.len (hkv.at_ k hk)) rfl ?_
 refine Zm 1 rfl (tk rfl (PE.andNotN (m:=b.all k) (n:=om) rfl rfl (by omega) (by omega)) rfl (Zm 2 rfl (Z5 ?_)))
 exact rtA rfl rfl rfl ⟨by rw [← hoth.alone hb.few hkv hall];rfl,rfl,rfl⟩ (fun w h=>(h.del it).del b3)
theorem Zc5:apT Tryz.prog 30=some (3,1,8):=by kernel_rfl
theorem ZeZ:apT Tryz.prog 37=some (50,4,32):=by kernel_rfl
theorem Zi8:apT Tryz.prog 68=some (43,2,16):=by kernel_rfl
theorem ZiH:cal Tryz.prog 31=true:=by kernel_rfl
theorem Zdt:cal Tryz.prog 35=true:=by kernel_rfl
theorem ZgK:cal Tryz.prog 36=true:=by kernel_rfl
theorem ZiI:cal Tryz.prog 38=true:=by kernel_rfl
theorem Zj1:cal Tryz.prog 77=true:=by kernel_rfl
theorem Z9t:ZB Tryz.prog 39=some 3:=by kernel_rfl
theorem Zk9:ZB Tryz.prog 68=some 1:=by kernel_rfl
theorem ZhH:ZL Tryz.prog 39=some [(0,1),(1,1),(2,1)]:=by kernel_rfl
theorem Zif:Z0g Tryz.prog 68=true:=by kernel_rfl
theorem ZhU:slE Tryz.prog 37=some (50,4):=by kernel_rfl
theorem Zih:slE Tryz.prog 68=some (43,2):=by kernel_rfl
theorem Z7H:Zw Tryz.prog 39=some ([.int .i64 0,.int .i64 0,.slice none 0 0]):=by kernel_rfl
theorem ZkC:Zw Tryz.prog 68=some ([.slice none 0 0]):=by kernel_rfl
theorem Zeq {p q vs:List Value} (h:q.length=vs.length) {i:Nat} (hi:i=p.length):spl (p++q) i vs=p++vs:=by
 subst hi
 unfold spl
 rw [List.take_left,List.drop_eq_nil_of_le (by rw [List.length_append];omega),List.append_nil]
theorem Z3H (n:Nat):(Z1U n [Value.int .i64 0,.int .i64 0,.int .i64 0,.int .i64 0]).length=n*4:=by
 rw [← Z0S,ZH (sz:=4) (fun q hq=>by rw [(List.mem_replicate.1 hq).2];rfl),List.length_replicate]
theorem ZhP (a b:List Rd):rdrows (a++b)=rdrows a++rdrows b:=List.map_append
theorem ZbA (l:List Rd) (x:Rd) {i:Nat} (hi:i=l.length*4):spl (spl (Z1U (l.length+1) [Value.int .i64 0,.int .i64 0,.int .i64 0,.int .i64 0]) 0 (rdrows l).flatten) i (rdrow x)=(rdrows (l++[x])).flatten:=by
 have h1:=Z3H (l.length+1)
 rw [show spl (Z1U (l.length+1) [Value.int .i64 0,.int .i64 0,.int .i64 0,.int .i64 0]) 0 (rdrows l).flatten=(rdrows l).flatten++(Z1U (l.length+1) [Value.int .i64 0,.int .i64 0,.int .i64 0,.int .i64 0]).drop (0+(rdrows l).flatten.length) from rfl]
 rw [Zeq (by rw [List.length_drop,h1,Z4W];show _=4;omega) (by rw [Z4W];exact hi),ZhP,List.flatten_append]
 show _=_++[rdrow x].flatten
 rw [List.flatten_cons,List.flatten_nil,List.append_nil]
def Rb.add (b:Rb) (x:Rd):Rb:={ b with rods:=b.rods++[x] }
theorem Rb.add_ok {b:Rb} (hb:b.ok) {x:Rd} (hf:b.rods.length<8) (hx:(0≤x.c∧x.c<b.cols)∧(0≤x.r∧x.r<b.rows)∧(0≤x.g∧x.g≤3)∧0≤x.s∧x.s≤9):(b.add x).ok:=⟨hb.cols,hb.rows,by show (b.rods++[x]).length≤8;rw [List.length_append,List.length_singleton];omega,fun y hy=>by
 rcases List.mem_append.1 hy with h | h
 · exact hb.rod y h
 · rw [List.mem_singleton.1 h];exact hx⟩
def Rb.lstK (b:Rb) (K:Nat):List Int:=(List.range 25).map fun k=>bif decide (k<K)&&b.aloneB k then b.top k else 0
theorem lstK_len (b:Rb) (K:Nat):(b.lstK K).length=25:=by simp [Rb.lstK]
theorem lstK_at {b:Rb} {K k:Nat} (hk:k<25):na (b.lstK K) k=bif decide (k<K)&&b.aloneB k then b.top k else 0:=by
 unfold na Rb.lstK;rw [List.getD_eq_getElem?_getD,List.getElem?_map,List.getElem?_range hk];rfl
theorem ZdW {b:Rb} {K:Nat} (hK:K<25) (ha:b.aloneB K=true):(b.lstK K).set K (b.top K)=b.lstK (K+1):=by
 apply List.ext_getElem?
 intro j
 rw [List.getElem?_set,lstK_len]
 by_cases e:K=j
 · subst e
   rw [if_pos rfl,if_pos hK]
   unfold Rb.lstK
   rw [List.getElem?_map,List.getElem?_range hK]
   show some _=some (bif _ then _ else _)
   rw [decide_eq_true (show K<K+1 by omega),ha];rfl
 · rw [if_neg e]
   unfold Rb.lstK
   rw [List.getElem?_map,List.getElem?_map]
   rcases Nat.lt_or_ge j 25 with h | h
   · rw [List.getElem?_range h]
     show some (bif _ then _ else _)=some (bif _ then _ else _)
     rw [show decide (j<K+1)=decide (j<K) from decide_eq_decide.2 (by omega)]
   · rw [List.getElem?_eq_none (by rw [List.length_range];exact h)];rfl
theorem Zbp {b:Rb} {K:Nat} (ha:b.aloneB K=false):b.lstK K=b.lstK (K+1):=by
 unfold Rb.lstK
 apply List.map_congr_left
 intro j _
 by_cases e:j=K
 · subst e;rw [ha,Bool.and_false,Bool.and_false]
 · rw [show decide (j<K+1)=decide (j<K) from decide_eq_decide.2 (by omega)]
def crows (b:Rb) (l:List Nat):List (List Value):=l.map fun k=>[.int .i64 ((k%b.cols:Nat):Int),.int .i64 ((k / b.cols:Nat):Int)]
theorem Z79 (b:Rb) (l:List Nat):(crows b l).length=l.length:=List.length_map _
theorem ZgZ (b:Rb) (l:List Nat) (k:Nat):crows b l++[[.int .i64 ((k%b.cols:Nat):Int),.int .i64 ((k / b.cols:Nat):Int)]]=crows b (l++[k]):=by simp [crows]
theorem Z6i (xs:List Int) (a:Option Addr) (c:Nat) (hl:xs.length≤1000000) (H:Z7) (R:Z4) [hR:MemRows a 1 (irows xs) R] :
    Fn Tryz.prog 77 [.slice a xs.length c] H R (fun v H' R'=>∃ o:OSl 3 1 (irows xs),v=o.fs∧H'=o.G++H∧R'=R):=by
 refine Z9 Tryz.func77 rfl Tryz.ntmps77 rfl ?_
 refine sqt 1 rfl (pur 1 rfl (Z0 (sqt 2 rfl (pur 1 rfl (sp rfl (PE.eqlNil Z04 rfl rfl) rfl ?_)))))
 refine Z2 rfl ?_ ?_<;>intro hc0
 refine Sy.pre (fun w h=>Z2Z (h.now hR.mem) hc0) (fun hnil=>?_)
 obtain rfl:xs=[]:=by simpa [irows] using hnil
 refine sqt 1 rfl (pur 1 rfl (Z5 ?_))
 first
   | exact rtA rfl rfl rfl ⟨o2.cast (by simp),rfl,rfl,rfl⟩ idH
   | exact rtA rfl rfl rfl ⟨OSl.nil _ _,rfl,rfl,rfl⟩ idH
 refine Z3 (sqt 4 rfl ?_)
 refine Zf6 rfl Z6a rfl (fun o5 ho5=>?_)
 refine pur 1 rfl ?_
 refine Zi9 (news:=irows xs) o5 rfl Zc5 rfl rfl (ZbD) (by simp [irows]) (by simp [Z0H,irows,Value.oneCell']) ⟨by simp [irows];omega,by simp [irows];omega⟩ rfl ho5 (fun o2 ho2=>?_)
 refine pur 1 rfl (Z5 ?_)
 first
   | exact rtA rfl rfl rfl ⟨o2.cast (by simp),rfl,rfl,rfl⟩ idH
   | exact rtA rfl rfl rfl ⟨OSl.nil _ _,rfl,rfl,rfl⟩ idH
theorem Zca (b:Rb) (a:Option Addr) (c:Nat) (hb:b.ok) (hs:List Int) (hl:hs.length=25) (H:Z7) (R:Z4) :
    Fn Tryz.prog 36 [(b.v a c),.agg (Zj hs).toArray] H R (fun v H' R'=>∃ ax cx,v = .slice ax (hs.take b.n).length cx∧H'=H∧R'=RowsA ax 1 (irows (hs.take b.n))::R):=by
 have hnl:=Rb.n_le hb
 refine Z9 Tryz.func36 rfl Tryz.ntmps36 rfl ?_
 refine sqt 3 rfl (bx rfl rfl rfl (fun b2=>bx rfl rfl rfl (fun b3=>pur 1 rfl (sqt 8 rfl (sp rfl (PE.fA Z1q rfl) rfl (spL rfl rfl (lh sc3 rfl rfl) rfl (sp rfl (PE.fA Z1r rfl) rfl (spL rfl rfl (lh sc3 rfl rfl) rfl (sp rfl (PE.mul rfl rfl (by rw [Rb.mulN];omega)) rfl ?_)))))))))
 have hln:(hs.take b.n).length=b.n:=by rw [List.length_take];omega
 rw [show (b.cols:Int)*(b.rows:Int)=(((hs.take b.n).length:Nat):Int) by rw [Rb.mulN,hln]]
 refine sp rfl (PE.slArrHi (h:=(hs.take b.n).length) ZaR rfl rfl (by omega)) rfl ?_
 refine Sy.heap (fun w h9=>St.intRows (l:=hs) (h9.pull b3)) ?_
 refine Sy.heap (fun w h9=>(show St _ (RowsA (some ⟨b3,0,none⟩) 1 (irows (hs.take b.n))::_) w from by have h8:=St.rowsTake (a:=some ⟨b3,0,none⟩) (sz:=1) (rows:=irows hs) h9 b.n;rw [show (irows hs).take b.n=irows (hs.take b.n) from List.map_take.symm] at h8;exact h8)) ?_
 refine cl rfl Zj1 rfl rfl (Z6i (hs.take b.n) (some ⟨b3,0,none⟩) 25 (by omega) _ _) ?_
 rintro _ _ R1 ⟨o,rfl,rfl,hR1⟩
 obtain rfl:=hR1.symm
 clear hR1
 obtain ⟨ax,cx,he,hf⟩:=o.freeze
 rw [irl] at he
 rw [he]
 refine Sy.heap (fun w h=>hf h) ?_
 refine pur 1 rfl (Z5 ?_)
 exact rtA rfl rfl rfl ⟨ax,cx,rfl,rfl,rfl⟩ (fun w h=>St.sub (h.del b2))
theorem c_Feels (b:Rb) (a:Option Addr) (c:Nat) (hb:b.ok) (l:List Int) (ak:Option Addr) (ck:Nat) (hl:l.length=b.n) (hh:∀ x∈l,0≤x∧x≤9) (x:Rd) (hx:(0≤x.c∧x.c<b.cols)∧(0≤x.r∧x.r<b.rows)∧0≤x.g∧x.g≤3) (H:Z7) (R:Z4) [hB:MemRows a 4 (rdrows b.rods) R] [hL:MemRows ak 1 (irows l) R] :
    FnV Tryz.prog 9 [(b.v a c),.slice ak l.length ck,.agg #[.int .i64 x.c,.int .i64 x.r],.int .i64 x.g] H R (.tuple #[.int .i64 (b.feel (na l) x),.int .i64 0]):=by
 have hnl:=Rb.n_le hb
 have hbc:=hb.cols
 have hbr:=hb.rows
 have hpd:∀ k,k<25→0≤na (Z1F l) k∧na (Z1F l) k≤9:=fun k _=>by
   rcases Nat.lt_or_ge k l.length with h | h
   · rw [Z7s h];exact hh _ (List.mem_of_getElem? (na_get h))
   · rw [Za7 h];decide
 have hfe:b.feel (na (Z1F l)) x=b.feel (na l) x:=Z2u _ fun k hk=>Z7s (by omega)
 refine Z9 Tryz.func9 rfl Tryz.ntmps9 rfl ?_
 refine sqt 4 rfl (bx rfl rfl rfl (fun b4=>bx rfl rfl rfl (fun b6=>pur 2 rfl (Z0 (sqt 3 rfl (spL rfl rfl (lhA (rbl b a c) ZG rfl rfl rfl) rfl ?_))))))
 refine clV rfl Zb9 rfl rfl (Z0M b a c hb _ _) ?_
 refine pur 1 rfl (sqt 2 rfl (pur 2 rfl ?_))
 refine Z2 rfl ?_ ?_<;>intro hc0
 exact absurd hc0 (by simp)
 refine Z3 (sqt 9 rfl (spL rfl rfl (lhA (rbl b a c) ZG rfl rfl rfl) rfl (pur 1 rfl ?_)))
 refine clV rfl ZiH rfl rfl (Zb4 b a c hb l ak ck hl hh _ _) ?_
 refine pur 3 rfl (alc rfl ZeV rfl (fun b11=>?_))
 refine ZbQ rfl rfl rfl Zjq rfl (by rw [Z6];exact Z0V (by omega)) rfl (Z06 _) ?_
 refine pur 1 rfl (Z0 (Z1 (sqt 3 rfl (pur 3 rfl ?_))))
 refine Z2 rfl ?_ ?_<;>intro hc1
 exact absurd hc1 (by simp)
 refine sqt 5 rfl (spL rfl rfl (lhA (rbl b a c) ZG rfl rfl rfl) rfl (spL rfl rfl (lhA [.int .i64 x.c,.int .i64 x.r] Z1Z rfl rfl rfl) rfl ?_))
 refine clV rfl ZgI rfl rfl (Zfh b a c hb x.c x.r hx.1 hx.2.1 _ _) ?_
 refine pur 2 rfl ?_
 refine Z2 rfl ?_ ?_<;>intro hc2
 exact absurd hc2 (by simp)
 refine sqt 4 rfl (pur 1 rfl ?_)
 refine clV rfl Z5v rfl rfl (Z0w _ _ _ (by omega) _ _) ?_
 refine pur 2 rfl ?_
 refine Z2 rfl ?_ ?_<;>intro hc3
 exact absurd hc3 (by simp)
 refine Z3 (sqt 7 rfl (spL rfl rfl (lhA (rbl b a c) ZG rfl rfl rfl) rfl (spL rfl rfl (lhA (rest:=[]) (Zj (Z1F l)) ZaI rfl (by rw [List.append_nil];rfl) (by rw [Z6];exact Z0V (by omega))) rfl (spL rfl rfl (lhA [.int .i64 x.c,.int .i64 x.r] Z1Z rfl rfl rfl) rfl (pur 1 rfl ?_)))))
 refine cl rfl ZgJ rfl rfl (Z8R b a c hb (Z1F l) (Z0V (by omega)) hpd x ⟨by omega,by omega⟩ _ _) ?_
 rintro _ _ R1 ⟨rfl,rfl,hR1⟩
 obtain rfl:=hR1.symm
 clear hR1
 refine pur 2 rfl (Z5 ?_)
 exact rtB rfl rfl rfl rfl ⟨by rw [← hfe];rfl,rfl,rfl⟩ (fun w h=>((h.del b11).del b6).del b4)
set_option maxHeartbeats 400000 in
theorem c_Put (b:Rb) (a:Option Addr) (c:Nat) (hb:b.ok) (x:Rd) (hfw:b.rods.length<8) (hx:(0≤x.c∧x.c<b.cols)∧(0≤x.r∧x.r<b.rows)∧(0≤x.g∧x.g≤3)∧0≤x.s∧x.s≤9) (H:Z7) (R:Z4) [hB:MemRows a 4 (rdrows b.rods) R] :
    Fn Tryz.prog 10 [(b.v a c),.agg (rdrow x).toArray] H R (fun v H' R'=>∃ ax cx,v = .tuple #[(b.add x).v ax cx,.int .i64 0]∧H'=H∧R'=RowsA ax 4 (rdrows (b.add x).rods)::R):=by
 have hb2:=Rb.add_ok hb hfw hx
 have hbf:=hb.few
 have hal:(b.add x).rods.length=b.rods.length+1:=by show (b.rods++[x]).length=_;rw [List.length_append];rfl
 have hrb:∀ q:Nat,spl [Value.int .i64 0,.int .i64 0,.slice none 0 0] 0 [.int .i64 (b.cols:Int),.int .i64 (b.rows:Int),.slice (some ⟨q,0,none⟩) (b.rods.length+1) (b.rods.length+1)]=rbl (b.add x) (some ⟨q,0,none⟩) (b.rods.length+1):=fun q=>by
   unfold rbl;rw [hal];rfl
 have hsl:(spl (Z1U (b.rods.length+1) [Value.int .i64 0,.int .i64 0,.int .i64 0,.int .i64 0]) 0 (rdrows b.rods).flatten).length=(b.rods.length+1)*4:=by
   unfold spl
   rw [List.length_append,List.length_append,List.length_take,List.length_drop,Z3H,Z4W];omega
 refine Z9 Tryz.func10 rfl Tryz.ntmps10 rfl ?_
 refine sqt 4 rfl (bx rfl rfl rfl (fun b2=>bx rfl rfl rfl (fun b3=>alc rfl Z7H rfl (fun b4=>pur 1 rfl (Z0 (sqt 3 rfl (spL rfl rfl (lhA (rbl b a c) ZG rfl rfl rfl) rfl ?_)))))))
 refine clV rfl Zb9 rfl rfl (Z0M b a c hb _ _) ?_
 refine pur 1 rfl (sqt 2 rfl (pur 2 rfl ?_))
 refine Z2 rfl ?_ ?_<;>intro hc0
 exact absurd hc0 (by simp)
 refine Z3 (Z0 (sqt 4 rfl (sp rfl (PE.fA Z0a rfl) rfl (spL rfl rfl (lh Z52 rfl rfl) rfl (sp rfl (PE.lenSl Z3Z rfl) rfl (pur 1 rfl ?_))))))
 refine Z2 rfl ?_ ?_<;>intro hc1
 exact absurd hc1 (by simp;omega)
 refine Z3 (Z0 ?_)
 refine Z2j (ι:=Nat×Nat) (fun y=>⟨[(2,.pointer (some ⟨b2,0,none⟩)),(3,.pointer (some ⟨b3,0,none⟩)),(4,.pointer (some ⟨b4,0,none⟩)),(7,.pointer (some ⟨y.1,0,none⟩))],(y.1,cel 39 (rbl (b.add x) (some ⟨y.2,0,none⟩) (b.rods.length+1)))::(y.2,cel 50 (Z1U (b.rods.length+1) [Value.int .i64 0,.int .i64 0,.int .i64 0,.int .i64 0]))::(b4,cel 39 [.int .i64 0,.int .i64 0,.slice none 0 0])::(b3,cel 50 (rdrow x))::(b2,cel 39 (rbl b a c))::H,R⟩) ?_ ?_
 refine Zd [0,1,0,4,0,16,48,112,240,511,0,2047] (.tk 0 (.ld 1 (.tk 2 (.ld 3 (.tk 4 (.ld 5 (.tk 6 (.tk 7 (.any (.alt 8 (.tk 9 (.big 10 (.big 11 .done))) (.alt 10 (.big 8 (.tk 9 (.big 11 .done))) .stop))))))))))) Zq (by kernel_rfl) ?_
 refine tk rfl (PE.fA Z1q rfl) rfl (ld rfl rfl (lh sc3 rfl rfl) rfl (tk rfl (PE.fA Z1r rfl) rfl (ld rfl rfl (lh sc3 rfl rfl) rfl (tk rfl (PE.fA Z0a rfl) rfl (ld rfl rfl (lh Z52 rfl rfl) rfl (tk rfl (PE.lenSl Z3Z rfl) rfl (tk rfl (PE.add rfl rfl (by omega)) rfl ?_)))))))
 refine Zs ?_ ?_
 rw [show (b.rods.length:Int)+1=((b.rods.length+1:Nat):Int) by omega]
 refine mkS rfl ZeZ Z3Q rfl rfl (Nat.le_refl _) (by omega) rfl (fun b28=>?_)
 refine bg (fun w hs=>⟨trivial,(lh sc3 rfl rfl) w hs,(lh sc3 rfl rfl) w hs,trivial⟩) ?_
 refine tk rfl (PE.build (out:=[_,_,_]) ZhH Z7H rfl rfl) rfl (alc rfl Z7H rfl (fun b7=>?_))
 refine bg (fun w hs=>⟨(lh sc3 rfl rfl) w hs,(lh sc3 rfl rfl) w hs,trivial⟩) ?_
 refine Z03 (l':=rbl (b.add x) (some ⟨b28,0,none⟩) (b.rods.length+1)) rfl rfl rfl Z9t rfl rfl rfl (hrb b28) (nl rfl) ?_
 refine bgT ?_
 exact Zh (b7,b28) (fun w h=>(h.pull b28).pull b7)
 refine Zs ?_ ?_
 refine alc rfl Z7H rfl (fun b7=>?_)
 refine bg (fun w hs=>⟨(lh Z52 rfl rfl) w hs,(lh sc3 rfl rfl) w hs,(lh sc3 rfl rfl) w hs,trivial⟩) ?_
 rw [show (b.rods.length:Int)+1=((b.rods.length+1:Nat):Int) by omega]
 refine mkS rfl ZeZ Z3Q rfl rfl (Nat.le_refl _) (by omega) rfl (fun b28=>?_)
 refine bg (fun w hs=>⟨trivial,(lh sc3 rfl rfl) w hs,(lh sc3 rfl rfl) w hs,trivial⟩) ?_
 refine tk rfl (PE.build (out:=[_,_,_]) ZhH Z7H rfl rfl) rfl ?_
 refine Z03 (l':=rbl (b.add x) (some ⟨b28,0,none⟩) (b.rods.length+1)) rfl rfl rfl Z9t rfl rfl rfl (hrb b28) (nl rfl) ?_
 refine bgT ?_
 exact Zh (b7,b28) (fun w h=>(h.pull b28).pull b7)
 exact ZO
 rintro ⟨b7,b28⟩
 dsimp only
 refine sqt 5 rfl (sp rfl (PE.fA Z0a rfl) rfl (spL rfl rfl (lh (v:=.slice (some ⟨b28,0,none⟩) (b.rods.length+1) (b.rods.length+1)) Z52 rfl (by show some _=some _;rw [hal])) rfl (sp rfl (PE.fA Z0a rfl) rfl (spL rfl rfl (lh Z52 rfl rfl) rfl ?_))))
 refine Zka (rows:=rdrows b.rods) rfl ZhU rfl (by rw [rd_len];rfl) (Z6Q _) (by rw [rd_len];omega) (Zef _) (by rw [Z4W,Z3H];omega) rfl ?_
 refine sqt 8 rfl (sp rfl (PE.fA Z0a rfl) rfl (spL rfl rfl (lh (v:=.slice (some ⟨b28,0,none⟩) (b.rods.length+1) (b.rods.length+1)) Z52 rfl (by show some _=some _;rw [hal])) rfl (sp rfl (PE.fA Z0a rfl) rfl (spL rfl rfl (lh Z52 rfl rfl) rfl (sp rfl (PE.lenSl Z3Z rfl) rfl (spL rfl rfl (lhA (rdrow x) ZaH rfl rfl rfl) rfl (sp rfl (PE.indexAddr ZdG rfl rfl (by omega) (by omega)) rfl ?_)))))))
 refine Z03 (l':=(rdrows (b.add x).rods).flatten) rfl rfl rfl ZaJ rfl rfl rfl (ZbA b.rods x (by show 0+((b.rods.length:Nat):Int).toNat*4=_;omega)) (by rw [hsl];show 0+((b.rods.length:Nat):Int).toNat*4+4≤_;omega) ?_
 refine Sy.heap (fun w h=>St.rows (sz:=4) (rows:=rdrows (b.add x).rods) (rest:=[]) (by rw [List.append_nil];exact h.pull b28) (Z6Q _)) ?_
 refine Z0 (sqt 3 rfl (spL rfl rfl (lhA (rbl (b.add x) (some ⟨b28,0,none⟩) (b.rods.length+1)) ZG rfl rfl rfl) rfl ?_))
 refine clV rfl Zb9 rfl rfl (Z0M (b.add x) (some ⟨b28,0,none⟩) (b.rods.length+1) hb2 _ _) ?_
 refine pur 1 rfl (sqt 2 rfl (pur 2 rfl ?_))
 refine Z2 rfl ?_ ?_<;>intro hc2
 exact absurd hc2 (by simp)
 refine Z3 (sqt 3 rfl (spL rfl rfl (lhA (rbl (b.add x) (some ⟨b28,0,none⟩) (b.rods.length+1)) ZG rfl rfl rfl) rfl ?_))
 refine Z03 (l':=rbl (b.add x) (some ⟨b28,0,none⟩) (b.rods.length+1)) rfl rfl rfl Z9t rfl rfl rfl rfl (nl rfl) ?_
 refine pur 1 rfl (Z5 ?_)
 exact Zk (vs:=[_,_]) rfl (.cons (RV.cell rfl (lhA (rbl (b.add x) (some ⟨b28,0,none⟩) (b.rods.length+1)) ZG rfl rfl rfl)) (.cons (RV.tmp rfl) .nil)) rfl ⟨some ⟨b28,0,none⟩,b.rods.length+1,rfl,rfl,rfl⟩ (fun w h=>(((h.del b7).del b4).del b3).del b2)
set_option maxHeartbeats 400000 in
theorem c_Most (b:Rb) (a:Option Addr) (c:Nat) (hb:b.ok) (hf:∀ x∈b.rods,b.feel b.top x=x.s) (H:Z7) (R:Z4) [hB:MemRows a 4 (rdrows b.rods) R] :
    Fn Tryz.prog 11 [(b.v a c)] H R (fun v H' R'=>∃ ax cx,v = .tuple #[.slice ax (b.topA.take b.n).length cx,.int .i64 0]∧H'=H∧R'=RowsA ax 1 (irows (b.topA.take b.n))::R):=by
 refine Z9 Tryz.func11 rfl Tryz.ntmps11 rfl ?_
 refine sqt 3 rfl (bx rfl rfl rfl (fun b1=>pur 2 rfl (sqt 7 rfl (spL rfl rfl (lhA (rbl b a c) ZG rfl rfl rfl) rfl ?_))))
 refine cl rfl Zdt rfl rfl (Z5s b a c hb hf _ _) ?_
 rintro _ _ _ ⟨bf,m,kv,hkv,rfl,rfl,rfl⟩
 refine pur 5 rfl (Z0 (sqt 2 rfl (pur 2 rfl ?_)))
 refine Z2 rfl ?_ ?_<;>intro hc0
 exact absurd hc0 (by simp)
 refine Z3 (Z0 ?_)
 refine Zd [0,0,2,6,14,31,63,127] (.ld 0 (tks 1 3 (.ld 4 (.big 5 (.tk 6 (.tk 7 .done)))))) Zq (by kernel_rfl) ?_
 refine ld rfl rfl (lhA (rbl b a c) ZG rfl rfl rfl) rfl (Zm 1 rfl (tk rfl (PE.nilCheck rfl) rfl (tk rfl (PE.fA Z7l rfl) rfl (ld rfl rfl (Zhu (sz:=29) (rest:=[.map (some m)]) (Zj b.topA) ZaI rfl (by rw [Z6];exact topK_len _ _)) rfl ?_))))
 refine cl rfl ZgK rfl rfl (Zca b a c hb b.topA (topK_len _ _) _ _) ?_
 rintro _ _ _ ⟨ax,cx,rfl,rfl,rfl⟩
 refine bgT (Zm 2 rfl (Z5 ?_))
 exact rtB rfl rfl rfl rfl ⟨ax,cx,rfl,rfl,rfl⟩ (fun w h=>St.sub ((h.del b1).del m))
set_option maxHeartbeats 400000 in
theorem c_Least (b:Rb) (a:Option Addr) (c:Nat) (hb:b.ok) (hf:∀ x∈b.rods,b.feel b.top x=x.s) (H:Z7) (R:Z4) [hB:MemRows a 4 (rdrows b.rods) R] :
    Fn Tryz.prog 12 [(b.v a c)] H R (fun v H' R'=>∃ ax cx,v = .tuple #[.slice ax ((b.lstK b.n).take b.n).length cx,.int .i64 0]∧H'=H∧R'=RowsA ax 1 (irows ((b.lstK b.n).take b.n))::R):=by
 refine Z1G Tryz.func12 rfl Tryz.ntmps12 rfl ?_
 refine sqt 3 rfl (bx rfl rfl rfl (fun b1=>pur 2 rfl (sqt 8 rfl (spL rfl rfl (lhA (rbl b a c) ZG rfl rfl rfl) rfl ?_))))
 refine cl rfl Zdt rfl rfl (Z5s b a c hb hf _ _) ?_
 rintro _ _ _ ⟨bf,m,kv,hkv,rfl,rfl,rfl⟩
 refine pur 3 rfl (alc rfl Z7I rfl (fun b4=>?_))
 refine sto rfl rfl rfl Z5x rfl rfl rfl rfl ?_
 refine pur 1 rfl (Z0 (sqt 2 rfl (pur 2 rfl ?_)))
 refine Z2 rfl ?_ ?_<;>intro hc0
 exact absurd hc0 (by simp)
 ·
  refine Z3 (sqt 1 rfl (alc rfl ZeV rfl (fun b6=>Z0 (sqt 2 rfl ?_))))
  refine Sy.heap (H':=(b6,cel 87 (Zj (b.lstK (0))))::(b4,cel 93 [.pointer (some ⟨bf,0,none⟩)])::(m,ZQ true kv)::(b1,cel 39 (rbl b a c))::H) (fun w h=>by rw [show Zj (b.lstK 0)=Zj (List.replicate 25 0) by unfold Rb.lstK;simp;rfl];exact (h.pull b4).pull b6) ?_
  refine spL rfl rfl (lhA (rbl b a c) ZG rfl rfl rfl) rfl ?_
  refine cl rfl Z9o rfl rfl (Z38 b a c _ _) ?_
  rintro _ _ _ ⟨xb,rfl,rfl,rfl⟩
  refine Z1 ?_
  refine Z0o rfl Z9p (fun c0 bl0 bd0 hcp0 hca0 hcb0 hck0=>?_)
  refine ⟨fun st pend T R'=>st = .ready∧pend=none∧T=(bd0,.deferred (some []))::(b6,cel 87 (Zj (b.lstK (b.n))))::(b4,cel 93 [.pointer (some ⟨bf,0,none⟩)])::(m,ZQ true kv)::(b1,cel 39 (rbl b a c))::H∧R'=RowsA (some ⟨xb,0,none⟩) 3 [rbl b a c]::RowsA (some ⟨bf,0,none⟩) 29 [fdl b a c m]::R,
    Fn.mono (Z22 b a c hb xb bl0 (fun k H' R'=>H'=(bl0,lob c0 .ready none)::(bd0,.deferred (some []))::(b6,cel 87 (Zj (b.lstK (k))))::(b4,cel 93 [.pointer (some ⟨bf,0,none⟩)])::(m,ZQ true kv)::(b1,cel 39 (rbl b a c))::H∧R'=RowsA (some ⟨xb,0,none⟩) 3 [rbl b a c]::RowsA (some ⟨bf,0,none⟩) 29 [fdl b a c m]::R) (fun _ _=>False)
      (fun k H' R' h9=>by obtain ⟨_,rfl⟩:=h9;simp)
      (fun k H' R' hk h9=>?_) _ _ ⟨rfl,rfl⟩) (fun v H' R' h9=>?_),?_⟩
  rotate_left
  · rcases h9 with ⟨rfl,rfl⟩ | h9
    · exact ⟨.ready,none,_,by simp,.refl _,rfl,rfl,rfl,rfl⟩
    · exact h9.elim
  rotate_left
  obtain ⟨rfl,rfl⟩:=h9
  have hk25:=(Rb.lt hb hk).2.2
  have hnl:=Rb.n_le hb
  refine Z4m hcp0 hca0 hcb0 hck0 rfl rfl ?_
  refine sqt 1 rfl (pur 1 rfl (sqr 2 rfl (alc rfl Z3S rfl (fun b8=>?_))))
  refine sto rfl rfl rfl Z9u rfl rfl rfl rfl ?_
  refine ZA ?_
  refine Z1 (sqt 3 rfl (spL rfl rfl (lh ZaM rfl rfl) rfl (spL rfl rfl (lhA [.int .i64 ((k%b.cols:Nat):Int),.int .i64 ((k / b.cols:Nat):Int)] Z1Z rfl rfl rfl) rfl ?_)))
  refine clV rfl ZiI rfl rfl (Zdd b a c hb bf m kv hkv k hk _ _) ?_
  refine Z2 rfl ?_ ?_<;>intro hc1<;>try simp only [cS] at hc1
  have hst:=ZdW hk25 hc1
  refine sqr 9 rfl (pur 1 rfl (spL rfl rfl (lh ZaM rfl rfl) rfl (pur 1 rfl (sp rfl (PE.nilCheck rfl) rfl (sp rfl (PE.fA Z7l rfl) rfl (sp rfl (PE.indexArr ZaR rfl rfl (by omega) (by omega)) rfl (spL rfl rfl (lfB (sz:=29) (x:=.int .i64 (b.top k)) sc3 (Z9F hb hk (by show 0+3+((k:Nat):Int).toNat*1=3+k;omega))) rfl (sp rfl (PE.indexArr ZaR rfl rfl (by omega) (by omega)) rfl ?_))))))))
  refine Z03 (l':=Zj (b.lstK (k+1))) rfl rfl rfl cn3 rfl rfl rfl ((Z6W (by rw [lstK_len];omega) (by show 0+((k:Nat):Int).toNat*1=k;omega)).trans (by rw [hst])) (by rw [Z6,lstK_len];show 0+((k:Nat):Int).toNat*1+1≤25;omega) ?_
  exact Zi (.inl ⟨rfl,rfl,rfl⟩) (fun _ h9=>h9.del b8)
  have hst:=Zbp (b:=b) hc1
  refine Z3 ?_
  exact Zi (.inl ⟨rfl,rfl,rfl⟩) (fun _ h9=>by rw [← hst];exact h9.del b8)
  rintro _ _ _ _ ⟨rfl,rfl,rfl,rfl⟩
  refine Z40 ?_
  refine sqt 5 rfl (spL rfl rfl (lhA (rbl b a c) ZG rfl rfl rfl) rfl (spL rfl rfl (lhI (b.lstK b.n) ZaI rfl rfl (lstK_len _ _)) rfl ?_))
  refine cl rfl ZgK rfl rfl (Zca b a c hb (b.lstK b.n) (lstK_len _ _) _ _) ?_
  rintro _ _ _ ⟨ax,cx,rfl,rfl,rfl⟩
  refine pur 2 rfl (Z5 ?_)
  exact ZF [bd0] idH rfl (.cons (RV.tmp rfl) (.cons (RV.tmp rfl) .nil)) rfl ⟨ax,cx,rfl,rfl,rfl⟩ (fun w h=>St.sub ((((h.del b6).del b4).del m).del b1))
end Go.Proofs.YthijcgkicjljhaaGreat.Ro
