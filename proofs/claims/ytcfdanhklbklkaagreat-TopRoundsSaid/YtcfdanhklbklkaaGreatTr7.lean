/- Walks of the functions of the program, and the laws that join them: what the last theorem of this claim needs, in order. -/
import Derived.Test.YtcfdanhklbklkaaGreatTr6
namespace Go.Proofs.YtcfdanhklbklkaaGreat.Tu
set_option linter.unusedSimpArgs false
set_option linter.unusedVariables false
open Go
theorem Z9D:arN Tryz.prog 119=some (6,1):=by kernel_rfl
theorem ZgN:cal Tryz.prog 153=true:=by kernel_rfl
theorem Zh8:cal Tryz.prog 229=true:=by kernel_rfl
theorem Zh9:cal Tryz.prog 230=true:=by kernel_rfl
theorem ZdC:cal Tryz.prog 231=true:=by kernel_rfl
theorem Zha:cal Tryz.prog 232=true:=by kernel_rfl
theorem Zhb:cal Tryz.prog 233=true:=by kernel_rfl
theorem Zcu:cal Tryz.prog 87=true:=by kernel_rfl
theorem Z6f:ZF Tryz.prog 108=some 3:=by kernel_rfl
theorem cn3:ZF Tryz.prog 3=some 1:=by kernel_rfl
theorem Z1x:ZY Tryz.prog 121 0=some 0:=by kernel_rfl
theorem Z2d:ZY Tryz.prog 121 1=some 2:=by kernel_rfl
theorem Zk1:ZP Tryz.prog 121=some [(0,2),(2,6)]:=by kernel_rfl
theorem ZiY:slE Tryz.prog 24=some (108,3):=by kernel_rfl
theorem Z2k:Zr Tryz.prog 108=some ([.int .i64 0,.int .i64 0,.int .i64 0]):=by kernel_rfl
theorem Zkh:Zr Tryz.prog 121=some ([.slice none 0 0,.slice none 0 0,.int .i64 0,.int .i64 0,.int .i64 0,.int .i64 0,.int .i64 0,.int .i64 0]):=by kernel_rfl
structure TD where
 y:TBn
 a1:Option Addr
 a2:Option Addr
 k1:Nat
 k2:Nat
 bd:Nat
def TD.l (d:TD):List Value:=brl d.y d.a1 d.a2 d.k1 d.k2++Za d.y.first
def ZcJ (y:TBn) (k:Nat):List Int:=(y.lots.take k).map (·.in_)++List.replicate (6-k) 0
theorem Z8n {y:TBn} {k:Nat} (h:k≤y.lots.length) (h6:y.lots.length≤6):(ZcJ y k).length=6:=by
 unfold ZcJ;rw [List.length_append,List.length_map,List.length_take,List.length_replicate];omega
theorem ZcK (y:TBn):ZcJ y y.lots.length=y.first:=by unfold ZcJ TBn.first;rw [List.take_length]
theorem ZaK {y:TBn} {k:Nat} {x:TLot} (hx:y.lots[k]?=some x) (h6:y.lots.length≤6):(ZcJ y k).set k x.in_=ZcJ y (k+1):=by
 have hk:=(List.getElem?_eq_some_iff.1 hx).1
 unfold ZcJ
 have hl:((y.lots.take k).map (·.in_)).length=k:=by rw [List.length_map,List.length_take];omega
 rw [List.set_append_right _ _ (by omega),hl,Nat.sub_self,show 6-k=(6-(k+1))+1 by omega,List.replicate_succ,List.set_cons_zero,List.take_add_one,hx,List.map_append,List.append_assoc];rfl
theorem Z7F {A:List Int} {k i:Nat} {v:Int} (hk:k<A.length) (e:i=k):spl (Za A) i [.int .i64 v]=Za (A.set k v):=by
 subst e
 apply List.ext_getElem?
 intro j
 unfold spl Za
 rw [List.length_singleton,List.getElem?_map,List.getElem?_set]
 by_cases h1:j<i
 · rw [List.getElem?_append_left (by simp;omega),List.getElem?_append_left (by simp;omega),List.getElem?_take_of_lt h1,List.getElem?_map,if_neg (by omega)]
 · by_cases h2:i=j
   · subst h2
     rw [List.getElem?_append_left (by simp;omega),List.getElem?_append_right (by simp;omega),if_pos rfl,if_pos hk]
     simp [Nat.min_eq_left (Nat.le_of_lt hk)]
   · rw [List.getElem?_append_right (by simp;omega),List.getElem?_drop,List.getElem?_map,if_neg h2]
     congr 2
     simp only [List.length_append,List.length_take,List.length_map,List.length_singleton];omega
theorem ZfQ {a b:Value} {A:List Int} {k i:Nat} {v:Int} (hk:k<A.length) (e:i=2+k):spl ([a,b]++Za A) i [.int .i64 v]=[a,b]++Za (A.set k v):=by
 subst e
 rw [← Z7F hk rfl]
 unfold spl
 rw [show 2+k=k+1+1 by omega,List.cons_append,List.cons_append,List.nil_append,List.take_succ_cons,List.take_succ_cons,List.length_singleton,show k+1+1+1=(k+1)+1+1 by omega,List.drop_succ_cons,List.drop_succ_cons];rfl
theorem ZaJ {b e sz:Nat} {row:List Value} {H:Z8} {R:Z5} {w:World} (h:St ((b,cel e row)::H) R w) (hs:row.length=sz):St H (RowsA (some ⟨b,0,none⟩) sz [row]::R) w:=St.rows (rows:=[row]) (rest:=[]) (by simpa using h) (fun r hr=>by rw [List.mem_singleton.1 hr];exact hs)
theorem TBn.ok.two {y:TBn} (hy:y.ok) {i j:Nat} {x z:TLot} (hx:y.lots[i]?=some x) (hz:y.lots[j]?=some z) (h:j<i):x.in_≠z.in_∧(x.to=z.to→x.to = -1):=hy.ne i j x z hx hz h
theorem Zey {n i:Nat} {p:Nat→Bool} (hi:i<n) (h:p i=true):(List.range n).any p=true:=List.any_eq_true.2 ⟨i,List.mem_range.2 hi,h⟩
theorem Zca {n:Nat} {p:Nat→Bool} (h:∀ i,i<n→p i=false):(List.range n).any p=false:=by
 rw [List.any_eq_false];intro i hi;rw [h i (List.mem_range.1 hi)];decide
theorem Zew {n:Nat} {p:Nat→Bool} (h:∀ i,i<n→p i=true):(List.range n).all p=true:=List.all_eq_true.2 fun i hi=>h i (List.mem_range.1 hi)
theorem Zc8 {n i:Nat} {p:Nat→Bool} (hi:i<n) (h:p i=false):(List.range n).all p=false:=by
 cases hb:(List.range n).all p with
 | false=>rfl
 | true=>have:=List.all_eq_true.1 hb i (List.mem_range.2 hi);rw [h] at this;cases this
set_option maxHeartbeats 800000 in
theorem Z2Z (y:TBn) (a1 a2:Option Addr) (k1 k2:Nat) (hy:y.ok) (hc2:y.lots.length≤k2) (H:Z8) (R:Z5) [hR1:MemRows a1 1 (irows y.sizes) R] [hR2:MemRows a2 3 (trows y.lots) R] :
    FnV Tryz.prog 153 [(y.v a1 a2 k1 k2)] H R (.int .i64 0):=by
 have hb:=hy.nb
 have hl:=hy.nl
 refine Ze Tryz.func153 rfl Tryz.ntmps153 rfl ?_
 refine sqt 2 rfl (bx rfl rfl rfl (fun b1=>pur 1 rfl (Z0 (Z3 (sqt 12 rfl (sp rfl (PE.fA Z0K rfl) rfl (spL rfl rfl (lh Z26 rfl rfl) rfl (sp rfl (PE.lenSl ZD rfl) rfl ?_))))))))
 refine clV rfl Zad rfl rfl (Za5 _ _ _ (by omega) _ _) ?_
 refine pur 2 rfl ?_
 refine Zv 15 rfl ?_ ?_<;>intro g15
 exact absurd g15 (by simp)
 refine spG rfl rfl rfl rfl (PE.fA Z0i rfl) rfl ?_
 refine Z0E rfl rfl rfl rfl rfl (lh Z6Q rfl rfl) rfl ?_
 refine spG rfl rfl rfl rfl (PE.lenSl Z2z rfl) rfl ?_
 refine pur 3 rfl ?_
 refine Z2 rfl ?_ ?_<;>intro hc0
 exact absurd hc0 (by simp;omega)
 refine sqt 11 rfl (sp rfl (PE.fA Z0K rfl) rfl (spL rfl rfl (lh Z26 rfl rfl) rfl ?_))
 refine cl rfl Zh8 rfl rfl (Z0l y.sizes a1 k1 230 [] [] (fun _=>true) Zh9 (by omega) _ _ (fun b9 x hx=>Zjf x (hy.sz x hx) _ _)) ?_
 rintro _ _ R1 ⟨rfl,rfl,hR1⟩
 obtain rfl:=hR1.symm
 clear hR1
 rw [show (y.sizes.all fun _=>true)=true by simp]
 refine pur 2 rfl ?_
 refine Zv 26 rfl ?_ ?_<;>intro g26
 exact absurd g26 (by simp)
 refine spG rfl rfl rfl rfl (PE.fA Z0i rfl) rfl ?_
 refine Z0E rfl rfl rfl rfl rfl (lh Z6Q rfl rfl) rfl ?_
 refine clG rfl rfl rfl rfl ZdC rfl rfl (Z3R y.lots a2 k2 232 [] [] (fun _=>true) Zha (by omega) _ _ (fun b9 b8 x hx=>Zjg x (hy.sk x hx) _ _)) ?_
 rintro _ _ R1 ⟨rfl,rfl,hR1⟩
 obtain rfl:=hR1.symm
 clear hR1
 rw [show (y.lots.all fun _=>true)=true by simp]
 refine pur 3 rfl ?_
 refine Z2 rfl ?_ ?_<;>intro hc1
 exact absurd hc1 (by simp)
 refine sqt 6 rfl (sp rfl (PE.fA Z0i rfl) rfl (spL rfl rfl (lh Z6Q rfl rfl) rfl (sp rfl (PE.makeFunc rfl rfl) rfl ?_)))
 refine cl rfl ZdC rfl rfl (Z3R y.lots a2 k2 233 [] [.pointer (some ⟨b1,0,none⟩)] (fun _=>true) Zhb (by omega) _ _ (fun b9 b8 x hx=>Zjh y a1 a2 k1 k2 hb.2 b1 x (hy.ins x hx) _ _)) ?_
 rintro _ _ R1 ⟨rfl,rfl,hR1⟩
 obtain rfl:=hR1.symm
 clear hR1
 rw [show (y.lots.all fun _=>true)=true by simp]
 refine pur 2 rfl ?_
 refine Z2 rfl ?_ ?_<;>intro hc2
 exact absurd hc2 (by simp)
 refine Z1 (Z0 (sqt 4 rfl (sp rfl (PE.fA Z0i rfl) rfl (spL rfl rfl (lh Z6Q rfl rfl) rfl (sp rfl (PE.lenSl Z2z rfl) rfl (pur 1 rfl (Z3 ?_)))))))
 refine Zd (ι:={k:Nat // k≤y.lots.length}) (fun k=>⟨[(1,.pointer (some ⟨b1,0,none⟩)),(39,.slice a2 y.lots.length k2),(40,.int .i64 (y.lots.length:Int)),(41,.int .i64 (k.1:Int))],(b1,cel 26 (brl y a1 a2 k1 k2))::H,R⟩) (fun k=>y.lots.length-k.1) ⟨0,Nat.zero_le _⟩ ?_ (fun k=>?_)
 exact Zj idH
 obtain ⟨k,hk⟩:=k
 dsimp only
 refine sqt 1 rfl (pur 1 rfl (Z0 ?_))
 refine Z2 rfl ?_ ?_<;>intro hc3<;>try simp only [cS] at hc3
 obtain ⟨x,hx⟩:∃ x,y.lots[k]?=some x:=⟨_,List.getElem?_eq_getElem (by omega)⟩
 refine Zi (a:=a2) (sz:=3) (rows:=trows y.lots) (ne_of_get (Z1M hx)) (fun bp1 op1 he1=>?_)
 subst he1
 refine Z1 (Z0 (Z3 (sqt 6 rfl (pur 1 rfl (sp rfl (PE.indexAddr Zf8 rfl rfl (by omega) (by omega)) rfl (spL rfl rfl (lfA Z54 (Z1M hx) rfl) rfl (alc rfl Z2k rfl (fun b4=>pur 1 rfl ?_))))))))
 refine ZH (l':=trow x) rfl rfl rfl Z6f rfl rfl rfl rfl (nl rfl) ?_
 refine sqt 6 rfl (sp rfl (PE.fA Z0i rfl) rfl (spL rfl rfl (lh Z6Q rfl rfl) rfl (pur 1 rfl (sp rfl (PE.slHi (h:=k) ZiY rfl rfl (by omega)) rfl (sp rfl (PE.lenSl Z2z rfl) rfl (pur 1 rfl (Z3 ?_)))))))
 refine Zd (ι:={j:Nat // j≤k}) (fun j=>⟨[(1,.pointer (some ⟨b1,0,none⟩)),(4,.pointer (some ⟨b4,0,none⟩)),(39,.slice (some ⟨bp1,op1,none⟩) y.lots.length k2),(40,.int .i64 (y.lots.length:Int)),(41,.int .i64 (k:Int)),(49,.slice (some ⟨bp1,op1,none⟩) k k2),(50,.int .i64 (k:Int)),(51,.int .i64 (j.1:Int))],(b4,cel 108 (trow x))::(b1,cel 26 (brl y a1 (some ⟨bp1,op1,none⟩) k1 k2))::H,R⟩) (fun j=>k-j.1) ⟨0,Nat.zero_le _⟩ ?_ (fun j=>?_)
 exact Zj idH
 obtain ⟨j,hj⟩:=j
 dsimp only
 refine sqt 1 rfl (pur 1 rfl (Z0 ?_))
 refine Z2 rfl ?_ ?_<;>intro hc4<;>try simp only [cS] at hc4
 obtain ⟨z,hz⟩:∃ z,y.lots[j]?=some z:=⟨_,List.getElem?_eq_getElem (by omega)⟩
 obtain ⟨hne1,hne2⟩:=hy.two hx hz (by omega)
 refine Z1 (Z0 (Z3 (sqt 4 rfl (sp rfl (PE.indexAddr Zf8 rfl rfl (by omega) (by omega)) rfl (spL rfl rfl (lfA Z54 (Z1M hz) rfl) rfl (alc rfl Z2k rfl (fun b6=>?_)))))))
 refine ZH (l':=trow z) rfl rfl rfl Z6f rfl rfl rfl rfl (nl rfl) ?_
 refine sqt 17 rfl (sp rfl (PE.fA Z45 rfl) rfl (spL rfl rfl (lh (v:=.int .i64 x.in_) sc3 rfl rfl) rfl (sp rfl (PE.fA Z45 rfl) rfl (spL rfl rfl (lh (v:=.int .i64 z.in_) sc3 rfl rfl) rfl (pur 2 rfl ?_)))))
 refine Zv 60 rfl ?_ ?_<;>intro g60
 exact absurd (by simpa using g60) hne1
 refine spG rfl rfl rfl rfl (PE.fA Z0d rfl) rfl ?_
 refine Z0E rfl rfl rfl rfl rfl (lh (v:=.int .i64 x.to) sc3 rfl rfl) rfl ?_
 refine spG rfl rfl rfl rfl (PE.fA Z0d rfl) rfl ?_
 refine Z0E rfl rfl rfl rfl rfl (lh (v:=.int .i64 z.to) sc3 rfl rfl) rfl (pur 2 rfl ?_)
 refine Zv 66 rfl ?_ ?_<;>intro g66
 have h66:x.to=z.to:=by simpa using g66
 refine spG rfl rfl rfl rfl (PE.fA Z0d rfl) rfl ?_
 refine Z0E rfl rfl rfl rfl rfl (lh (v:=.int .i64 x.to) sc3 rfl rfl) rfl (pur 3 rfl ?_)
 refine Z2 rfl ?_ ?_<;>intro hc5
 exact absurd (hne2 h66) (by simpa using hc5)
 refine Z1 (sqr 2 rfl (sp rfl (PE.add rfl rfl (by omega)) rfl (pur 1 rfl ?_)))
 exact Zc ⟨j+1,by omega⟩ (fun w h=>h.del b6)
 refine pur 5 rfl ?_
 refine Zq rfl ?_
 refine Z1 (sqr 2 rfl (sp rfl (PE.add rfl rfl (by omega)) rfl (pur 1 rfl ?_)))
 exact Zc ⟨j+1,by omega⟩ (fun w h=>h.del b6)
 refine Z7 (Z9 (Z9 (Zk (sqr 2 rfl (sp rfl (PE.add rfl rfl (by omega)) rfl (pur 1 rfl ?_))))))
 exact Zc ⟨k+1,by omega⟩ (fun w h=>h.del b4)
 refine Z7 (Z9 (Z9 (Zk (Z0 (sqt 4 rfl (sp rfl (PE.fA Z0i rfl) rfl (spL rfl rfl (lh Z6Q rfl rfl) rfl (sp rfl (PE.lenSl Z2z rfl) rfl (pur 1 rfl (Z3 ?_))))))))))
 refine Zd (ι:={k:Nat // k≤y.lots.length}) (fun k=>⟨[(1,.pointer (some ⟨b1,0,none⟩)),(75,.slice a2 y.lots.length k2),(76,.int .i64 (y.lots.length:Int)),(77,.int .i64 (k.1:Int))],(b1,cel 26 (brl y a1 a2 k1 k2))::H,R⟩) (fun k=>y.lots.length-k.1) ⟨0,Nat.zero_le _⟩ ?_ (fun k=>?_)
 exact Zj idH
 obtain ⟨k,hk⟩:=k
 dsimp only
 refine sqt 1 rfl (pur 1 rfl (Z0 ?_))
 refine Z2 rfl ?_ ?_<;>intro hc6<;>try simp only [cS] at hc6
 obtain ⟨x,hx⟩:∃ x,y.lots[k]?=some x:=⟨_,List.getElem?_eq_getElem (by omega)⟩
 obtain ⟨hh1,hh2⟩:=hy.hold k x hx
 obtain ⟨hi1,hi2⟩:=hy.ins x (List.mem_of_getElem? hx)
 refine Zi (a:=a2) (sz:=3) (rows:=trows y.lots) (ne_of_get (Z1M hx)) (fun bp1 op1 he1=>?_)
 subst he1
 refine Z1 (Z0 (Z3 (sqt 6 rfl (pur 1 rfl (sp rfl (PE.indexAddr Zf8 rfl rfl (by omega) (by omega)) rfl (spL rfl rfl (lfA Z54 (Z1M hx) rfl) rfl (alc rfl Z2k rfl (fun b8=>pur 1 rfl ?_))))))))
 refine ZH (l':=trow x) rfl rfl rfl Z6f rfl rfl rfl rfl (nl rfl) ?_
 refine sqt 19 rfl (spL rfl rfl (lhA (brl y a1 (some ⟨bp1,op1,none⟩) k1 k2) Z65 rfl (rest:=[]) rfl rfl) rfl (sp rfl (PE.fA Z45 rfl) rfl (spL rfl rfl (lh (v:=.int .i64 x.in_) sc3 rfl rfl) rfl (pur 1 rfl ?_))))
 refine cl rfl Zcu rfl rfl (by rw [← Int.toNat_of_nonneg hi1.1];exact Z59 y a1 (some ⟨bp1,op1,none⟩) k1 k2 x.in_.toNat k (by omega) (by omega) ⟨hb.2,hl⟩ _ _) ?_
 rintro _ _ R1 ⟨rfl,rfl,hR1⟩
 obtain rfl:=hR1.symm
 clear hR1
 rw [hh1]
 refine pur 2 rfl ?_
 refine Zv 88 rfl ?_ ?_<;>intro g88
 exact absurd g88 (by simp)
 refine spG rfl rfl rfl rfl (PE.fA Z0d rfl) rfl ?_
 refine Z0E rfl rfl rfl rfl rfl (lh (v:=.int .i64 x.to) sc3 rfl rfl) rfl (pur 2 rfl ?_)
 refine Zv 92 rfl ?_ ?_<;>intro g92
 have h92:x.to ≠ -1:=by simpa using g92
 refine Z0E rfl rfl rfl rfl rfl (lhA (brl y a1 (some ⟨bp1,op1,none⟩) k1 k2) Z65 rfl (rest:=[]) rfl rfl) rfl ?_
 refine spG rfl rfl rfl rfl (PE.fA Z0d rfl) rfl ?_
 refine Z0E rfl rfl rfl rfl rfl (lh (v:=.int .i64 x.to) sc3 rfl rfl) rfl (pur 1 rfl ?_)
 refine clG rfl rfl rfl rfl Zcu rfl rfl (by rw [← Int.toNat_of_nonneg (show 0≤x.to by omega)];exact Z59 y a1 (some ⟨bp1,op1,none⟩) k1 k2 x.to.toNat k (by omega) (by omega) ⟨hb.2,hl⟩ _ _) ?_
 rintro _ _ R1 ⟨rfl,rfl,hR1⟩
 obtain rfl:=hR1.symm
 clear hR1
 rw [hh2 h92]
 refine pur 3 rfl ?_
 refine Z2 rfl ?_ ?_<;>intro hc7
 exact absurd hc7 (by simp)
 refine Z1 (sqr 2 rfl (sp rfl (PE.add rfl rfl (by omega)) rfl (pur 1 rfl ?_)))
 exact Zc ⟨k+1,by omega⟩ (fun w h=>h.del b8)
 refine pur 8 rfl ?_
 refine Zq rfl ?_
 refine Z1 (sqr 2 rfl (sp rfl (PE.add rfl rfl (by omega)) rfl (pur 1 rfl ?_)))
 exact Zc ⟨k+1,by omega⟩ (fun w h=>h.del b8)
 refine Z7 (Z9 (Z9 (Zk (sqt 1 rfl (pur 1 rfl (Z4 ?_))))))
 exact rtA rfl rfl rfl ⟨rfl,rfl,rfl⟩ (fun w h=>h.del b1)
theorem Z2r (y:TBn) (a1 a2:Option Addr) (k1 k2:Nat) (hy:y.ok) (hc2:y.lots.length≤k2) (H:Z8) (R:Z5) [hR1:MemRows a1 1 (irows y.sizes) R] [hR2:MemRows a2 3 (trows y.lots) R] :
    Fn Tryz.prog 82 [(y.v a1 a2 k1 k2)] H R (fun v H' R'=>∃ d:TD,v = .tuple #[.pointer (some ⟨d.bd,0,none⟩),.int .i64 0]∧d.y=y∧d.a1=a1∧d.a2=a2∧d.k1=k1∧d.k2=k2∧H'=H∧R'=RowsA (some ⟨d.bd,0,none⟩) 8 [d.l]::R):=by
 have hb:=hy.nb
 have hl:=hy.nl
 refine Ze Tryz.func82 rfl Tryz.ntmps82 rfl ?_
 refine sqt 3 rfl (bx rfl rfl rfl (fun b1=>pur 2 rfl (Z0 (sqt 3 rfl (spL rfl rfl (lhA (brl y a1 a2 k1 k2) Z65 rfl (rest:=[]) rfl rfl) rfl ?_)))))
 refine clV rfl ZgN rfl rfl (Z2Z y a1 a2 k1 k2 hy hc2 _ _) ?_
 refine pur 1 rfl (sqt 2 rfl (pur 2 rfl ?_))
 refine Z2 rfl ?_ ?_<;>intro hc0
 exact absurd hc0 (by simp)
 refine Z1 (sqt 4 rfl (spL rfl rfl (lhA (brl y a1 a2 k1 k2) Z65 rfl (rest:=[]) rfl rfl) rfl (sp rfl (PE.build (out:=[_,_,_,_,_,_,_,_]) Zk1 Zkh rfl rfl) rfl (bx rfl rfl rfl (fun b15=>pur 1 rfl (Z0 (sqt 4 rfl (sp rfl (PE.fA Z0i rfl) rfl (spL rfl rfl (lh Z6Q rfl rfl) rfl (sp rfl (PE.lenSl Z2z rfl) rfl (pur 1 rfl (Z3 ?_))))))))))))
 refine Zd (ι:={k:Nat // k≤y.lots.length}) (fun k=>⟨[(5,.pointer (some ⟨b15,0,none⟩)),(17,.slice a2 y.lots.length k2),(18,.int .i64 (y.lots.length:Int)),(19,.int .i64 (k.1:Int))],(b15,cel 121 (brl y a1 a2 k1 k2++Za (ZcJ y k.1)))::H,R⟩) (fun k=>y.lots.length-k.1) ⟨0,Nat.zero_le _⟩ ?_ (fun k=>?_)
 exact Zj (fun w h=>h.del b1)
 obtain ⟨k,hk⟩:=k
 dsimp only
 refine sqt 1 rfl (pur 1 rfl (Z0 ?_))
 refine Z2 rfl ?_ ?_<;>intro hc1<;>try simp only [cS] at hc1
 obtain ⟨x,hx⟩:∃ x,y.lots[k]?=some x:=⟨_,List.getElem?_eq_getElem (by omega)⟩
 refine Zi (a:=a2) (sz:=3) (rows:=trows y.lots) (ne_of_get (Z1M hx)) (fun bp1 op1 he1=>?_)
 subst he1
 refine Z1 (Z0 (Z3 (sqt 6 rfl (pur 1 rfl (sp rfl (PE.indexAddr Zf8 rfl rfl (by omega) (by omega)) rfl (spL rfl rfl (lfA Z54 (Z1M hx) rfl) rfl (alc rfl Z2k rfl (fun b7=>pur 1 rfl ?_))))))))
 refine ZH (l':=trow x) rfl rfl rfl Z6f rfl rfl rfl rfl (nl rfl) ?_
 refine Zb [0,0,0,4,1,17,63,127] (tks 0 3 (.ld 3 (tks 4 3 (.big 7 .done)))) Zo (by kernel_rfl) ?_
 refine Zl 2 rfl (tk rfl (PE.fA Z45 rfl) rfl (ld rfl rfl (lh (v:=.int .i64 x.in_) sc3 rfl rfl) rfl (tk rfl (PE.nilCheck rfl) rfl (tk rfl (PE.fA Z2d rfl) rfl (tk rfl (PE.indexArr Z9D rfl rfl (by omega) (by omega)) rfl ?_)))))
 refine ZH (l':=brl y a1 (some ⟨bp1,op1,none⟩) k1 k2++Za (ZcJ y (k+1))) rfl rfl rfl cn3 rfl rfl rfl (by rw [← ZaK hx hl];exact ZfQ (by rw [Z8n hk hl];omega) (by show 0+2+((k:Nat):Int).toNat*1=_;omega)) (by rw [List.length_append,Z6,Z8n hk hl];show 0+2+((k:Nat):Int).toNat*1+1≤2+6;omega) ?_
 refine bgT (sqr 2 rfl (sp rfl (PE.add rfl rfl (by omega)) rfl (pur 1 rfl ?_)))
 exact Zc ⟨k+1,by omega⟩ (fun w h=>h.del b7)
 obtain rfl:k=y.lots.length:=by omega
 refine Z7 (Z9 (Z9 (Zk (sqt 3 rfl (pur 3 rfl (Z4 ?_))))))
 exact rtB rfl rfl rfl rfl ⟨⟨y,a1,a2,k1,k2,b15⟩,rfl,rfl,rfl,rfl,rfl,rfl,rfl,rfl⟩ (fun w h=>ZaJ (by unfold TD.l;rw [← ZcK y];exact h) (by unfold TD.l brl;rw [List.length_append,Z6,TBn.first_len hl];rfl))
theorem Zaa (d:TD) (hy:d.y.ok) (p:List Int) (hp:p.length=6) (q:Int) (H:Z8) (R:Z5) [hD:MemRows (some ⟨d.bd,0,none⟩) 8 [d.l] R] [hR1:MemRows d.a1 1 (irows d.y.sizes) R] [hR2:MemRows d.a2 3 (trows d.y.lots) R] :
    FnV Tryz.prog 86 [.pointer (some ⟨d.bd,0,none⟩),.agg (Za p).toArray,.int .i64 q] H R (.bool (d.y.tkn p q)):=by
 have hl:=hy.nl
 refine Ze Tryz.func86 rfl Tryz.ntmps86 rfl ?_
 refine sqt 2 rfl (bx rfl rfl rfl (fun b4=>pur 1 rfl (Z0 (sqt 7 rfl (pur 1 rfl (sp rfl (PE.nilCheck rfl) rfl (sp rfl (PE.fA Z1x rfl) rfl (sp rfl (PE.fA Z0i rfl) rfl (spL rfl rfl (lfB (sz:=8) Z6Q rfl) rfl (sp rfl (PE.lenSl Z2z rfl) rfl (pur 1 rfl (Z3 ?_))))))))))))
 refine Zd (ι:={k:Nat // k≤d.y.lots.length∧∀ i,i<k→decide (na p i=q)=false}) (fun k=>⟨[(2,.int .i64 q),(4,.pointer (some ⟨b4,0,none⟩)),(13,.int .i64 (d.y.lots.length:Int)),(14,.int .i64 (k.1:Int))],(b4,cel 119 (Za p))::H,R⟩) (fun k=>d.y.lots.length-k.1) ⟨0,Nat.zero_le _,fun i hi=>absurd hi (Nat.not_lt_zero _)⟩ ?_ (fun k=>?_)
 exact Zj idH
 obtain ⟨k,hk,hn⟩:=k
 dsimp only
 refine sqt 1 rfl (pur 1 rfl (Z0 ?_))
 refine Z2 rfl ?_ ?_<;>intro hc0<;>try simp only [cS] at hc0
 refine Z1 (Z0 (Z3 (sqt 2 rfl (pur 2 rfl (sqt 5 rfl (pur 1 rfl (sp rfl (PE.indexArr Z9D rfl rfl (by omega) (by omega)) rfl (spL rfl rfl (lh sc3 rfl (ZdY (k:=k) (by omega) (by show 0+((k:Nat):Int).toNat*1=_;omega))) rfl (pur 2 rfl ?_)))))))))
 refine Z2 rfl ?_ ?_<;>intro hc1<;>try simp only [cS] at hc1
 refine sqt 1 rfl (pur 1 rfl (Z4 ?_))
 exact rtA rfl rfl rfl ⟨by simp only [ZR];unfold TBn.tkn;rw [Zey (i:=k) (by omega) (dT hc1)],rfl,rfl⟩ (fun w h=>h.del b4)
 refine Z1 (sqr 2 rfl (sp rfl (PE.add rfl rfl (by omega)) rfl (pur 1 rfl ?_)))
 exact Zx ⟨k+1,by omega,fun i hi=>by
   by_cases e:i=k
   · subst e;exact dF hc1
   · exact hn i (by omega)⟩ (by dsimp only;omega) sbA idH
 obtain rfl:k=d.y.lots.length:=by omega
 refine Z7 (Z9 (Z9 (Zk (sqt 1 rfl (pur 1 rfl (Z4 ?_))))))
 exact rtA rfl rfl rfl ⟨by simp only [ZR];unfold TBn.tkn;rw [Zca hn],rfl,rfl⟩ (fun w h=>h.del b4)
theorem Zdo (d:TD) (hy:d.y.ok) (p:List Int) (hp:p.length=6) (H:Z8) (R:Z5) [hD:MemRows (some ⟨d.bd,0,none⟩) 8 [d.l] R] [hR1:MemRows d.a1 1 (irows d.y.sizes) R] [hR2:MemRows d.a2 3 (trows d.y.lots) R] :
    FnV Tryz.prog 37 [.pointer (some ⟨d.bd,0,none⟩),.agg (Za p).toArray] H R (.bool (d.y.mds p)):=by
 have hl:=hy.nl
 refine Ze Tryz.func37 rfl Tryz.ntmps37 rfl ?_
 refine sqt 2 rfl (bx rfl rfl rfl (fun b3=>pur 1 rfl (Z0 (sqt 7 rfl (pur 1 rfl (sp rfl (PE.nilCheck rfl) rfl (sp rfl (PE.fA Z1x rfl) rfl (sp rfl (PE.fA Z0i rfl) rfl (spL rfl rfl (lfB (sz:=8) Z6Q rfl) rfl (sp rfl (PE.lenSl Z2z rfl) rfl (pur 1 rfl (Z3 ?_))))))))))))
 refine Zd (ι:={k:Nat // k≤d.y.lots.length∧∀ i,i<k→(decide ((d.y.lot i).to = -1)||decide ((d.y.lot i).to=na p i))=true}) (fun k=>⟨[(3,.pointer (some ⟨b3,0,none⟩)),(11,.slice d.a2 d.y.lots.length d.k2),(12,.int .i64 (d.y.lots.length:Int)),(13,.int .i64 (k.1:Int))],(b3,cel 119 (Za p))::H,R⟩) (fun k=>d.y.lots.length-k.1) ⟨0,Nat.zero_le _,fun i hi=>absurd hi (Nat.not_lt_zero _)⟩ ?_ (fun k=>?_)
 exact Zj idH
 obtain ⟨k,hk,hn⟩:=k
 dsimp only
 refine sqt 1 rfl (pur 1 rfl (Z0 ?_))
 refine Z2 rfl ?_ ?_<;>intro hc0<;>try simp only [cS] at hc0
 obtain ⟨x,hx⟩:∃ x,d.y.lots[k]?=some x:=⟨_,List.getElem?_eq_getElem (by omega)⟩
 have hlk:=TBn.lot_of hx
 refine Zi (a:=d.a2) (sz:=3) (rows:=trows d.y.lots) (ne_of_get (Z1M hx)) (fun bp1 op1 he1=>?_)
 rw [he1]
 have hR3:MemRows (some ⟨bp1,op1,none⟩) 3 (trows d.y.lots) R:=he1▸hR2
 refine Z1 (Z0 (Z3 (sqt 6 rfl (pur 1 rfl (sp rfl (PE.indexAddr Zf8 rfl rfl (by omega) (by omega)) rfl (spL rfl rfl (lfA Z54 (Z1M hx) rfl) rfl (alc rfl Z2k rfl (fun b6=>pur 1 rfl ?_))))))))
 refine ZH (l':=trow x) rfl rfl rfl Z6f rfl rfl rfl rfl (nl rfl) ?_
 refine Z0 ?_
 refine Zb [0,1,3,7,15,31,15,79,207,511,1023] (.tk 0 (.ld 1 (tks 2 3 (.ld 5 (.tk 6 (.tk 7 (.ld 8 (.tk 9 (.tk 10 .done))))))))) Zo (by kernel_rfl) ?_
 refine tk rfl (PE.fA Z0d rfl) rfl (ld rfl rfl (lh (v:=.int .i64 x.to) sc3 rfl rfl) rfl (Zl 2 rfl ?_))
 refine Zv 21 rfl ?_ ?_<;>intro g21
 have h21:x.to ≠ -1:=by simpa using g21
 refine tkG rfl rfl rfl rfl (PE.fA Z0d rfl) rfl ?_
 refine ldG rfl rfl rfl rfl rfl (lh (v:=.int .i64 x.to) sc3 rfl rfl) rfl (Zl 1 rfl ?_)
 refine tkG rfl rfl rfl rfl (PE.indexArr Z9D rfl rfl (by omega) (by omega)) rfl ?_
 refine ldG rfl rfl rfl rfl rfl (lh sc3 rfl (ZdY (k:=k) (by omega) (by show 0+((k:Nat):Int).toNat*1=_;omega))) rfl (Zl 2 rfl ?_)
 refine Z2 rfl ?_ ?_<;>intro hc1<;>try simp only [cS] at hc1
 refine sqt 1 rfl (pur 1 rfl (Z4 ?_))
 exact rtA rfl rfl rfl ⟨by simp only [ZR];unfold TBn.mds;rw [Zc8 (i:=k) (by omega) (by rw [hlk];simp_all)],rfl,rfl⟩ (fun w h=>(h.del b6).del b3)
 refine Z1 (sqr 2 rfl (sp rfl (PE.add rfl rfl (by omega)) rfl (pur 1 rfl ?_)))
 exact Zx ⟨k+1,by omega,fun i hi=>by
   by_cases e:i=k
   · subst e;rw [hlk];simp_all
   · exact hn i (by omega)⟩ (by dsimp only;omega) sbA (fun w h=>h.del b6)
 have h21:x.to = -1:=by simpa using g21
 refine Zl 1 rfl ?_
 refine ldN rfl rfl rfl rfl rfl rfl rfl rfl ?_
 refine Zl 2 rfl ?_
 refine ldN rfl rfl rfl rfl rfl rfl rfl rfl ?_
 refine Zl 2 rfl ?_
 refine Zq rfl ?_
 refine Z1 (sqr 2 rfl (sp rfl (PE.add rfl rfl (by omega)) rfl (pur 1 rfl ?_)))
 exact Zx ⟨k+1,by omega,fun i hi=>by
   by_cases e:i=k
   · subst e;rw [hlk];simp_all
   · exact hn i (by omega)⟩ (by dsimp only;omega) sbA (fun w h=>h.del b6)
 obtain rfl:k=d.y.lots.length:=by omega
 refine Z7 (Z9 (Z9 (Zk (sqt 1 rfl (pur 1 rfl (Z4 ?_))))))
 exact rtA rfl rfl rfl ⟨by simp only [ZR];unfold TBn.mds;rw [Zew hn],rfl,rfl⟩ (fun w h=>h.del b3)
theorem ZeM (n x:Int) (b c:Nat) (H:Z8) (R:Z5) [hM:Mem1 b (cel 3 [.int .i64 x]) H] :
    FnV Tryz.prog 227 [.int .i64 n,.slice (some ⟨b,0,none⟩) 1 c] H R (.int .i64 (min n x)):=by
 refine Ze Tryz.func227 rfl Tryz.ntmps227 rfl ?_
 refine sqt 1 rfl (pur 1 rfl (Z0 (sqt 3 rfl (pur 1 rfl (sp rfl (PE.lenSl ZD rfl) rfl (pur 1 rfl (Z3 ?_)))))))
 refine Zd (ι:={k:Nat // k≤1}) (fun k=>⟨[(0,.int .i64 (bif Nat.beq k.1 0 then n else min n x)),(7,.slice (some ⟨b,0,none⟩) 1 c),(8,.int .i64 1),(9,.int .i64 (k.1:Int))],H,R⟩) (fun k=>1-k.1) ⟨0,by decide⟩ ?_ (fun k=>?_)
 exact Zj idH
 obtain ⟨k,hk⟩:=k
 dsimp only
 refine sqt 1 rfl (pur 1 rfl (Z0 ?_))
 refine Z2 rfl ?_ ?_<;>intro hc0<;>try simp only [cS] at hc0
 obtain rfl:k=0:=by omega
 refine Z1 (Z0 (Z3 (sqt 3 rfl (sp rfl (PE.indexAddr Z1q rfl rfl (by decide) (by decide)) rfl (spL rfl rfl (lh sc3 rfl rfl) rfl (pur 1 rfl (sqr 4 rfl (pur 2 rfl (sp rfl (PE.min rfl rfl) rfl (pur 1 rfl (sqr 2 rfl (sp rfl (PE.add rfl rfl (by decide)) rfl (pur 1 rfl ?_)))))))))))))
 exact Zc ⟨1,by decide⟩ idH
 obtain rfl:k=1:=by omega
 refine Z7 (Z9 (Z9 (Zk (sqt 2 rfl (pur 2 rfl (Z4 ?_))))))
 exact rtA rfl rfl rfl ⟨rfl,rfl,rfl⟩ drp
theorem Zji (l9:Int) (t9:Int) (H:Z8) (R:Z5) :
    FnV Tryz.prog 81 [.agg #[.int .i64 l9,.int .i64 t9]] H R (.int .i64 1):=by
 refine Ze Tryz.func81 rfl Tryz.ntmps81 rfl ?_
 refine sqt 2 rfl (bx rfl rfl rfl (fun b1=>pur 1 rfl (sqt 1 rfl (pur 1 rfl (Z4 ?_)))))
 exact rtA rfl rfl rfl ⟨rfl,rfl,rfl⟩ drp
theorem ZU:Z2a Tryz.prog 119=some 6:=by kernel_rfl
theorem ZhA:cal Tryz.prog 86=true:=by kernel_rfl
theorem Zk5:ZP Tryz.prog 47=some [(0,1),(1,1)]:=by kernel_rfl
theorem Z6P:Z0h Tryz.prog 116=true:=by kernel_rfl
theorem ZbV:Zr Tryz.prog 47=some ([.int .i64 0,.int .i64 0]):=by kernel_rfl
section ZjM
variable {P:Program} {ops:Array Oper} {n:Nat} {L:Zm} {D:List Deferred} {H:Z8} {R:Z5} {K:Act→World→Prop}
 {i d:Nat} {ty:TypeId} {pos:String} {af:Array Edge}
theorem ZjM {l:Nat} {c:Operand} {xs:List Operand} {vs:List Value} {ts:Array TypeId} {Q:Value→Z8→Z5→Prop} {j t:Nat} {bb:Bool} {oj:Oper}
   (ho:ops[i]?=some ⟨some d,.call { callee:=.value c,args:=xs.toArray,argTypes:=ts },ty,pos,af,some (j,bb)⟩) (hj:ops[j]?=some oj) (ht:oj.dst=some t) (hg:lk L t=some (.bool bb)) (hcv:ev L c=some (yv l)) (hd:Nat.blt d n=true) (hx:evs L xs=some vs)
   (hc:Yd P l vs H R Q) (h:∀ v H' R',Q v H' R'→Sy n ((d,v)::L) D H' R' K):Sy n L D H R (stp P none ops i K):=fun a w ha hD hs=>by
 obtain ⟨f,tm,asg,bo,h1,h2⟩:=hc w hs
 have hw:Region.wanted ⟨some d,.call { callee:=.value c,args:=xs.toArray,argTypes:=ts },ty,pos,af,some (j,bb)⟩ (yielded ops a.tmps)=true:=by simp [Region.wanted,ZE ha hj ht hg]
 unfold stp
 rw [ho]
 simp only [hw,if_true,Oper.wpIn,Z1P,Z0g (Z3q ha.reads hcv hx h1) (by simp),Oper.uponIn]
 refine ⟨fun _ _=>Z2m _ _,by simp [Z2l],RoundIn.mono h2 fun e w' he=>?_⟩
 obtain ⟨v,H',R',q,rfl,hs'⟩:=he
 exact h v H' R' q _ _ (ha.put (by simpa using hd) v) hD hs'
end ZjM
structure TI (d:TD) (p:List Int) (x1 x2:Nat) (R:Z5):Prop where
 f1:RowsA (some ⟨x1,0,none⟩) 1 [[.pointer (some ⟨d.bd,0,none⟩)]]∈R
 f2:RowsA (some ⟨x2,0,none⟩) 6 [Za p]∈R
 fd:RowsA (some ⟨d.bd,0,none⟩) 8 [d.l]∈R
 r1:RowsA d.a1 1 (irows d.y.sizes)∈R
 r2:RowsA d.a2 3 (trows d.y.lots)∈R
def ZdV (b:TBn) (k n:Nat):List (Int×Int):=((List.range n).filter (b.fits k)).map fun (i:Nat)=>((i:Int),(k:Int))
theorem Z2u (b:TBn) (k n:Nat):ZdV b k (n+1)=ZdV b k n++(bif b.fits k n then [((n:Int),(k:Int))] else []):=by
 unfold ZdV
 rw [List.range_succ,List.filter_append,List.map_append]
 cases h:b.fits k n<;>simp [h]
theorem Z8f (b:TBn) (k m:Nat):∀ n,m≤n→∃ r,ZdV b k n=ZdV b k m++r
 | 0,h=>⟨[],by rw [Nat.le_zero.1 h,List.append_nil]⟩
 | n+1,h=>by
   rcases Nat.lt_or_ge m (n+1) with h1 | h1
   · obtain ⟨r,e⟩:=Z8f b k m n (by omega)
     exact ⟨r++_,by rw [Z2u,e,List.append_assoc]⟩
   · obtain rfl:m=n+1:=by omega
     exact ⟨[],by rw [List.append_nil]⟩
theorem Zb2 (b:TBn) (p:List Int) (m:Nat):∀ n,m≤n→∃ r,b.mvN p n=b.mvN p m++r
 | 0,h=>⟨[],by rw [Nat.le_zero.1 h,List.append_nil]⟩
 | n+1,h=>by
   rcases Nat.lt_or_ge m (n+1) with h1 | h1
   · obtain ⟨r,e⟩:=Zb2 b p m n (by omega)
     exact ⟨r++b.mv1 p n,by show b.mvN p n++b.mv1 p n=_;rw [e,List.append_assoc]⟩
   · obtain rfl:m=n+1:=by omega
     exact ⟨[],by rw [List.append_nil]⟩
theorem Zb3 {b:TBn} {p:List Int} {k:Nat} (h:b.tkn p (k:Int)=true):b.mvN p (k+1)=b.mvN p k:=by
 show b.mvN p k++b.mv1 p k=_
 unfold TBn.mv1;rw [h,cond_true,List.append_nil]
theorem Z8F {b:TBn} {p:List Int} {k:Nat} (h:b.tkn p (k:Int)=false):b.mvN p (k+1)=b.mvN p k++ZdV b k b.lots.length:=by
 show b.mvN p k++b.mv1 p k=_
 unfold TBn.mv1;rw [h,cond_false];rfl
theorem Zie {b:TBn} {p:List Int} {k i:Nat} (hk:k<b.sizes.length) (ht:b.tkn p (k:Int)=false) (hi:i<b.lots.length) (hf:b.fits k i=true):(b.mvs p)[(b.mvN p k).length+(ZdV b k i).length]?=some ((i:Int),(k:Int)):=by
 obtain ⟨r,e⟩:=Zb2 b p (k+1) b.sizes.length (by omega)
 obtain ⟨r2,e2⟩:=Z8f b k (i+1) b.lots.length (by omega)
 unfold TBn.mvs
 rw [e,Z8F ht,e2,Z2u,hf,cond_true,List.append_assoc,List.append_assoc,List.append_assoc,List.getElem?_append_right (by omega),Nat.add_sub_cancel_left,List.getElem?_append_right (Nat.le_refl _),Nat.sub_self];rfl
theorem Z1R (d:TD) (p:List Int) (hp:p.length=6) (H:Z8) (R:Z5) :
    Fn Tryz.prog 226 [.pointer (some ⟨d.bd,0,none⟩),.agg (Za p).toArray] H R (fun v H' R'=>∃ x1 x2,v = .func (.func 266) #[] #[.pointer (some ⟨x1,0,none⟩),.pointer (some ⟨x2,0,none⟩)]∧H'=H∧R'=RowsA (some ⟨x2,0,none⟩) 6 [Za p]::RowsA (some ⟨x1,0,none⟩) 1 [[.pointer (some ⟨d.bd,0,none⟩)]]::R):=by
 refine Ze Tryz.func226 rfl Tryz.ntmps226 rfl ?_
 refine sqt 3 rfl (bx rfl rfl rfl (fun b2=>bx rfl rfl rfl (fun b3=>pur 1 rfl (sqt 2 rfl (sp rfl (PE.makeFunc rfl rfl) rfl (pur 1 rfl (Z4 ?_)))))))
 refine Sy.heap (fun w h=>ZaJ (sz:=6) (row:=Za p) (ZaJ (sz:=1) (row:=[.pointer (some ⟨d.bd,0,none⟩)]) (h.pull b2) rfl) (by rw [Z6];exact hp)) ?_
 exact rtA rfl rfl rfl ⟨b2,b3,rfl,rfl,rfl⟩ idH
set_option maxHeartbeats 800000 in
theorem ZeO (d:TD) (hy:d.y.ok) (p:List Int) (hp:p.length=6) (x1 x2 lp:Nat) (I:Nat→Z8→Z5→Prop) (hI:∀ k H R,I k H R→TI d p x1 x2 R)
    (hyd:∀ k t H R,(d.y.mvs p)[k]?=some t→I k H R→Yd Tryz.prog lp [.agg #[.int .i64 t.1,.int .i64 t.2]] H R (fun v H' R'=>v = .bool true∧I (k+1) H' R')) (H:Z8) (R:Z5) (h0:I 0 H R) :
    Fn Tryz.prog 266 [yv lp,.pointer (some ⟨x1,0,none⟩),.pointer (some ⟨x2,0,none⟩)] H R (fun _ H' R'=>I (d.y.mvs p).length H' R'):=by
 have hb:=hy.nb
 have hl:=hy.nl
 have e0:=hI _ _ _ h0
 haveI:MemRows (some ⟨x1,0,none⟩) 1 [[.pointer (some ⟨d.bd,0,none⟩)]] R:=⟨e0.f1⟩
 haveI:MemRows (some ⟨x2,0,none⟩) 6 [Za p] R:=⟨e0.f2⟩
 haveI:MemRows (some ⟨d.bd,0,none⟩) 8 [d.l] R:=⟨e0.fd⟩
 haveI:MemRows d.a1 1 (irows d.y.sizes) R:=⟨e0.r1⟩
 haveI:MemRows d.a2 3 (trows d.y.lots) R:=⟨e0.r2⟩
 refine Ze Tryz.func266 rfl Tryz.ntmps266 rfl ?_
 refine sqt 7 rfl (spL rfl rfl (lfB (sz:=1) Z6P rfl) rfl (sp rfl (PE.nilCheck rfl) rfl (sp rfl (PE.fA Z1x rfl) rfl (sp rfl (PE.fA Z0K rfl) rfl (spL rfl rfl (lfB (sz:=8) Z26 rfl) rfl (sp rfl (PE.lenSl ZD rfl) rfl (pur 1 rfl (Z3 ?_))))))))
 refine Zd (ι:={x:Nat×Z8×Z5 // x.1≤d.y.sizes.length∧I (d.y.mvN p x.1).length x.2.1 x.2.2}) (fun x=>⟨[(0,yv lp),(1,.pointer (some ⟨x1,0,none⟩)),(2,.pointer (some ⟨x2,0,none⟩)),(11,.int .i64 (d.y.sizes.length:Int)),(12,.int .i64 (x.1.1:Int))],x.1.2.1,x.1.2.2⟩) (fun x=>d.y.sizes.length-x.1.1) ⟨(0,H,R),Nat.zero_le _,h0⟩ ?_ (fun x=>?_)
 exact Zj idH
 obtain ⟨⟨k,H0,Q0⟩,hk,hI0⟩:=x
 dsimp only at hk hI0 ⊢
 have e0b:=hI _ _ _ hI0
 haveI:MemRows (some ⟨x1,0,none⟩) 1 [[.pointer (some ⟨d.bd,0,none⟩)]] Q0:=⟨e0b.f1⟩
 haveI:MemRows (some ⟨x2,0,none⟩) 6 [Za p] Q0:=⟨e0b.f2⟩
 haveI:MemRows (some ⟨d.bd,0,none⟩) 8 [d.l] Q0:=⟨e0b.fd⟩
 haveI:MemRows d.a1 1 (irows d.y.sizes) Q0:=⟨e0b.r1⟩
 haveI:MemRows d.a2 3 (trows d.y.lots) Q0:=⟨e0b.r2⟩
 refine sqt 1 rfl (pur 1 rfl (Z0 ?_))
 refine Z2 rfl ?_ ?_<;>intro hc0<;>try simp only [cS] at hc0
 refine Z1 (Z0 (Z3 (sqt 2 rfl (pur 2 rfl (Z0 (sqt 4 rfl (spL rfl rfl (lfB (sz:=1) Z6P rfl) rfl (spL rfl rfl (ZaS (sz:=6) (Za p) ZU (rest:=[]) (by simp) (by rw [Z6];exact hp)) rfl (pur 1 rfl ?_)))))))))
 refine clV rfl ZhA rfl rfl (Zaa d hy p hp (k:Int) _ _) ?_
 refine Z2 rfl ?_ ?_<;>intro hc1<;>try simp only [cS] at hc1
 refine Z7 (Z9 (Zk (sqr 2 rfl (sp rfl (PE.add rfl rfl (by omega)) rfl (pur 1 rfl ?_)))))
 exact Zc ⟨(k+1,H0,Q0),by dsimp only;omega,by dsimp only;rw [Zb3 hc1];exact hI0⟩ idH
 have htk:d.y.tkn p (k:Int)=false:=by simpa using hc1
 refine Z1 (sqt 7 rfl (spL rfl rfl (lfB (sz:=1) Z6P rfl) rfl (sp rfl (PE.nilCheck rfl) rfl (sp rfl (PE.fA Z1x rfl) rfl (sp rfl (PE.fA Z0i rfl) rfl (spL rfl rfl (lfB (sz:=8) Z6Q rfl) rfl (sp rfl (PE.lenSl Z2z rfl) rfl (pur 1 rfl (Z3 ?_)))))))))
 refine Zd (ι:={x:Nat×Z8×Z5 // x.1≤d.y.lots.length∧I ((d.y.mvN p k).length+(ZdV d.y k x.1).length) x.2.1 x.2.2}) (fun x=>⟨[(0,yv lp),(1,.pointer (some ⟨x1,0,none⟩)),(2,.pointer (some ⟨x2,0,none⟩)),(11,.int .i64 (d.y.sizes.length:Int)),(4,.int .i64 (k:Int)),(12,.int .i64 (k:Int)),(24,.int .i64 (d.y.lots.length:Int)),(25,.int .i64 (x.1.1:Int))],x.1.2.1,x.1.2.2⟩) (fun x=>d.y.lots.length-x.1.1) ⟨(0,H0,Q0),Nat.zero_le _,hI0⟩ ?_ (fun x=>?_)
 exact Zj idH
 obtain ⟨⟨i,H1,Q1⟩,hi,hI1⟩:=x
 dsimp only at hi hI1 ⊢
 have e1:=hI _ _ _ hI1
 haveI:MemRows (some ⟨x1,0,none⟩) 1 [[.pointer (some ⟨d.bd,0,none⟩)]] Q1:=⟨e1.f1⟩
 haveI:MemRows (some ⟨x2,0,none⟩) 6 [Za p] Q1:=⟨e1.f2⟩
 haveI:MemRows (some ⟨d.bd,0,none⟩) 8 [d.l] Q1:=⟨e1.fd⟩
 haveI:MemRows d.a1 1 (irows d.y.sizes) Q1:=⟨e1.r1⟩
 haveI:MemRows d.a2 3 (trows d.y.lots) Q1:=⟨e1.r2⟩
 refine sqt 1 rfl (pur 1 rfl (Z0 ?_))
 refine Z2 rfl ?_ ?_<;>intro hc2<;>try simp only [cS] at hc2
 refine Z1 (Z0 (Z3 (sqt 2 rfl (pur 2 rfl (sqt 15 rfl (spL rfl rfl (lfB (sz:=1) Z6P rfl) rfl (sp rfl (PE.nilCheck rfl) rfl (sp rfl (PE.fA Z1x rfl) rfl (spL rfl rfl (ZaS (sz:=8) (brl d.y d.a1 d.a2 d.k1 d.k2) Z65 (rest:=Za d.y.first) rfl rfl) rfl (pur 2 rfl ?_))))))))))
 refine clV rfl Zcu rfl rfl (Z59 d.y d.a1 d.a2 d.k1 d.k2 k i (by omega) (by omega) ⟨hb.2,hl⟩ _ _) ?_
 refine pur 1 rfl ?_
 refine Zv 35 rfl ?_ ?_<;>intro g35
 try simp only [cS] at g35
 have hft:d.y.fits k i=true:=g35
 refine pur 3 rfl ?_
 refine spG rfl rfl rfl rfl (PE.build (out:=[_,_]) Zk5 ZbV rfl rfl) rfl ?_
 refine ZjM rfl rfl rfl rfl rfl rfl rfl (hyd _ _ _ _ (Zie (by omega) htk (by omega) hft) hI1) ?_
 rintro _ H3 R3 ⟨rfl,hI3⟩
 refine pur 2 rfl ?_
 refine Zq rfl ?_
 refine Z1 (sqr 2 rfl (sp rfl (PE.add rfl rfl (by omega)) rfl (pur 1 rfl ?_)))
 exact Zc ⟨(i+1,H3,R3),by dsimp only;omega,by dsimp only;rw [Z2u,hft,cond_true,List.length_append,List.length_singleton,← Nat.add_assoc];exact hI3⟩ idH
 try simp only [cS] at g35
 have hft:d.y.fits k i=false:=by simpa using g35
 refine pur 7 rfl ?_
 refine Zq rfl ?_
 refine Z1 (sqr 2 rfl (sp rfl (PE.add rfl rfl (by omega)) rfl (pur 1 rfl ?_)))
 exact Zc ⟨(i+1,H1,Q1),by dsimp only;omega,by dsimp only;rw [Z2u,hft,cond_false,List.append_nil];exact hI1⟩ idH
 obtain rfl:i=d.y.lots.length:=by omega
 refine Z7 (Z9 (Z9 (Zk (sqr 2 rfl (sp rfl (PE.add rfl rfl (by omega)) rfl (pur 1 rfl ?_))))))
 exact Zc ⟨(k+1,H1,Q1),by dsimp only;omega,by dsimp only;rw [Z8F htk,List.length_append];exact hI1⟩ idH
 obtain rfl:k=d.y.sizes.length:=by omega
 refine Z7 (Z9 (Z9 (Zk ?_)))
 exact Z1L (vs:=[]) rfl .nil rfl hI0 idH
end Go.Proofs.YtcfdanhklbklkaaGreat.Tu
namespace Go.Proofs.YtcfdanhklbklkaaGreat
set_option linter.unusedSimpArgs false
set_option linter.unusedVariables false
open Go
section pe
variable {P:Program} {L:Zm} {d:Option Tmp} {ty:TypeId} {pos:String} {af:Array Edge} {g:Option (Nat×Bool)}
end pe
section pb
variable {P:Program} {L:Zm} {d:Option Tmp} {ty:TypeId} {pos:String} {af:Array Edge} {g:Option (Nat×Bool)}
end pb
theorem Z3A {P:Program} {H:Z8} {R:Z5} {T KT E s m:Nat} {b:Bool} (l:KV) (k:List Int) {zv v:Value} (hT:Z0A P T=some (KT,E)) (hK:KeyT P b KT s) (hz:∀ w,(zeroValue E).run P w = .ok zv w) (hk:k.length=s) (hl:∀ e∈l,e.1.length=s)
   [mm:Mem1 m (Zz b l) H] (hv:(l.get k).getD zv=v):∀ w,St H R w→Lkp P T (.map (some m)) (mkv b k) false v w:=fun w hs=>by
 have:=Z0L (R:=R) (m:=m) l k hT hK hz hk hl false w hs
 rw [cond_false,hv] at this
 exact this
theorem Z2B {P:Program} {H:Z8} {R:Z5} {T KT E s m:Nat} {b:Bool} (l:KV) (k:List Int) {zv v:Value} (hT:Z0A P T=some (KT,E)) (hK:KeyT P b KT s) (hz:∀ w,(zeroValue E).run P w = .ok zv w) (hk:k.length=s) (hl:∀ e∈l,e.1.length=s)
   (hm:∀ w,St H R w→w.heap[m]?=some (Zz b l)) (hv:(l.get k).getD zv=v):∀ w,St H R w→Lkp P T (.map (some m)) (mkv b k) false v w:=fun w hs=>by
 have:=Z7n l k hT hK hz hk hl hm false w hs
 rw [cond_false,hv] at this
 exact this
section ops
variable {P:Program} {r:Option Nat} {ops:Array Oper} {n:Nat} {L:Zm} {D:List Deferred} {H:Z8} {R:Z5} {K:Act→World→Prop}
 {i d:Nat} {ty:TypeId} {pos:String} {af:Array Edge}
end ops
end Go.Proofs.YtcfdanhklbklkaaGreat
namespace Go.Proofs.YtcfdanhklbklkaaGreat.Tu
set_option linter.unusedSimpArgs false
set_option linter.unusedVariables false
open Go
def Z1T (i:Nat) (l:KV):Obj:=.map (Z1S false i l).toArray (i+l.length)
theorem ZaW (l:KV):Z1T 0 l=Zz false l:=by unfold Z1T Zz;rw [Nat.zero_add]
theorem Z3j (q:IntKind) (k:List Int):∀ (l:KV) (b i:Nat),
   Instr.findNow (.int q) (mkv false k) (Z1S false b l) i=some ((l.findIdx? fun e=>decide (e.1.headD 0=k.headD 0)).map fun j=>(i+j,(l.getD j default).2))
 | [],b,i=>by simp [Z1S,Instr.findNow]
 | (k',v')::l,b,i=>by
   simp only [Z1S,Instr.findNow,Instr.sameNow,mkv,cond_false,if_true]
   rw [List.findIdx?_cons]
   dsimp only
   cases hb:(k.headD 0 == k'.headD 0) with
   | true =>
     have hc:k'.headD 0=k.headD 0:=((by simpa using hb:k.headD 0=k'.headD 0)).symm
     rw [hc];simp
   | false =>
     have hc:decide (k'.headD 0=k.headD 0)=false:=by
       rw [decide_eq_false_iff_not];intro h;rw [h] at hb;simp at hb
     have ih:=Z3j q k l (b+1) (i+1)
     simp only [mkv,cond_false] at ih
     rw [hc,ih]
     simp only [Bool.false_eq_true,if_false,Option.map_map]
     have e:(fun j:Nat=>(i+1+j,(l.getD j default).2))=(fun j:Nat=>(i+j,(((k',v')::l).getD j default).2)) ∘ fun i=>i+1:=by
       funext j;simp [Nat.add_assoc,Nat.add_comm 1 j]
     rw [e]
theorem Z1H {P:Program} {T s:Nat} (h:KeyT P false T s) (k:List Int) (hk:k.length=s) (l:KV) (hl:∀ e∈l,e.1.length=s) (b:Nat) (w:World) :
   (Instr.findKey T (mkv false k) (Z1S false b l)).run P w = .ok ((l.findIdx? fun e=>decide (e.1=k)).map fun j=>(j,(l.getD j default).2)) w:=by
 unfold Instr.findKey
 obtain ⟨rfl,q,hu⟩:=h.one rfl
 simp only [Sem.run_bind,run_underlying hu,Result.andThen,Z3j,Sem.run_pure,Nat.zero_add]
 have one:∀ e:List Int×Value,e.1.length=1→decide (e.1.headD 0=k.headD 0)=decide (e.1=k):=by
   intro e he
   obtain ⟨x,hx⟩:∃ x,e.1=[x]:=by match e.1,he with | [x],_=>exact ⟨x,rfl⟩
   obtain ⟨y,hy⟩:∃ y,k=[y]:=by match k,hk with | [y],_=>exact ⟨y,rfl⟩
   rw [hx,hy];simp
 have fc:∀ (l:KV),(∀ e∈l,e.1.length=1)→(l.findIdx? fun e=>decide (e.1.headD 0=k.headD 0))=l.findIdx? fun e=>decide (e.1=k):=by
   intro l hl
   induction l with
   | nil=>rfl
   | cons e l ih=>rw [List.findIdx?_cons,List.findIdx?_cons,ih (fun x hx=>hl x (by simp [hx])),one e (hl e (by simp))]
 rw [fc l hl]
theorem Z2i {P:Program} {m i:Nat} {l:KV} {w:World} (h:w.heap[m]?=some (Z1T i l)):(getObj m).run P w = .ok (Z1T i l) w:=by
 simp [getObj,Sem.run,h,Z1T]
theorem Z4p {P:Program} {m i:Nat} {l:KV} {o:Obj} {w:World} (h:w.heap[m]?=some (Z1T i l)):(setObj m o).run P w = .ok () { w with heap:=w.heap.setIfInBounds m o }:=by
 simp [setObj,Sem.run,h,Z1T]
theorem Z7B {P:Program} {T KT E s m i:Nat} {l:KV} {k:List Int} {v:Value} (hT:Z0A P T=some (KT,E)) (hK:KeyT P false KT s) (hk:k.length=s) (hl:∀ e∈l,e.1.length=s) {w:World} (h:w.heap[m]?=some (Z1T i l)) :
   (Instr.mapUpdate T (.map (some m)) (mkv false k) v).run P w = .ok () { w with heap:=w.heap.setIfInBounds m (Z1T i (l.put k v)) }:=by
 unfold Z0A at hT
 split at hT<;>cases hT
 rename_i hu
 have h1:=Z2i (P:=P) h
 have h2:=hK.ck false k hk w
 have h3:=Z1H hK k hk l hl i w
 have h4:∀ o,(setObj m o).run P w = .ok () { w with heap:=w.heap.setIfInBounds m o }:=fun o=>Z4p h
 unfold Instr.mapUpdate
 simp only [Sem.run_bind,run_underlying hu,Result.andThen,h1,Z1T,h2,h3]
 cases hf:l.findIdx? fun e=>decide (e.1=k) with
 | none =>
   simp only [Option.map_none,h4]
   rw [Z3C hf,Z40]
   simp [Nat.add_assoc]
 | some j =>
   obtain ⟨h5,h6⟩:=Z5C (v:=v) hf
   have hjk:(l[j]).1=k:=by
     have:=(List.findIdx?_eq_some_iff_getElem.1 hf).2.1
     simpa using this
   have h7:((((Z1S false i l).toArray[j]?).map (·.key)).getD (mkv false k))=mkv false k:=by
     have:=Z5m false l i j l[j] (List.getElem?_eq_getElem h6)
     simp [this,hjk]
   simp only [Option.map_some,Sem.run_bind,h7,Z6O,Result.andThen,h4]
   rw [h5,Z5n]
   simp
section mapops
variable {P:Program} {r:Option Nat} {ops:Array Oper} {n:Nat} {L:Zm} {D:List Deferred} {H:Z8} {R:Z5} {K:Act→World→Prop}
 {i d:Nat} {ty:TypeId} {pos:String} {af:Array Edge}
theorem Zkw {T KT E s m b:Nat} {x y z:Operand} (l:KV) (k:List Int) {v:Value} {H':Z8} (ho:ops[i]?=some ⟨none,.mapUpdate T x y z,ty,pos,af,none⟩)
   (hT:Z0A P T=some (KT,E)) (hK:KeyT P false KT s) (hx:ev L x=some (.map (some m))) (hy:ev L y=some (mkv false k)) (hz:ev L z=some v) (hk:k.length=s) (hl:∀ e∈l,e.1.length=s)
   [mm:Mem1 m (Z1T b l) H] [rp:Rep [(m,Z1T b l)] [(m,Z1T b (l.put k v))] H H']
   (h:Sy n L D H' R K):Sy n L D H R (stp P r ops i K):=fun a w ha hD hs=>by
 have h1:=Z7B (P:=P) (v:=v) hT hK hk hl (hs.held _ mm.mem)
 refine Z2R ho (Zh _ rfl _) (w':={ w with heap:=w.heap.setIfInBounds m (Z1T b (l.put k v)) }) ?_ ?_
 · simp only [execOp,ha.reads _ _ hx,ha.reads _ _ hy,ha.reads _ _ hz,Sem.run_bind,h1,Result.andThen,Sem.run_pure]
 · exact h _ _ (ha.putNone undef) hD (hs.rep (F:=[(m,Z1T b l)]) (F':=[(m,Z1T b (l.put k v))]) fun T hT=>St.set hT)
theorem Z2C {T KT E s m b:Nat} (l:KV) (k:List Int) {zv v:Value} (hT:Z0A P T=some (KT,E)) (hK:KeyT P false KT s) (hz:∀ w,(zeroValue E).run P w = .ok zv w) (hk:k.length=s) (hl:∀ e∈l,e.1.length=s)
   [mm:Mem1 m (Z1T b l) H] (hv:(l.get k).getD zv=v):∀ w,St H R w→Lkp P T (.map (some m)) (mkv false k) false v w:=fun w hs=>by
 subst hv
 unfold Z0A at hT
 split at hT<;>cases hT
 rename_i hu
 have h1:=Z2i (P:=P) (hs.held _ mm.mem)
 have h3:=Z1H hK k hk l hl b w
 unfold Lkp Instr.lookup
 simp only [Sem.run_bind,run_underlying hu,Result.andThen,h1,Z1T,hK.ck _ k hk,h3,Sem.run_pure]
 rw [← Z5s]
 cases hf:l.findIdx? fun e=>decide (e.1=k) with
 | none=>simp only [Option.map_none,Sem.run_bind,hz,Result.andThen,Sem.run_pure];rfl
 | some j=>simp only [Option.map_some,Sem.run_pure];rfl
theorem ZkP {T KT E s m b:Nat} {x y:Operand} {tt:TypeId} {dd:Option Nat} (l:KV) (k:List Int) {v:Value} {H':Z8} (ho:ops[i]?=some ⟨dd,.call { callee:=.builtin .delete,args := #[x,y],argTypes := #[T,tt] },ty,pos,af,none⟩) (hdd:dd=none)
   (hT:Z0A P T=some (KT,E)) (hK:KeyT P false KT s) (hx:ev L x=some (.map (some m))) (hy:ev L y=some (mkv false k)) (hk:k.length=s) (hl:∀ e∈(k,v)::l,e.1.length=s)
   [mm:Mem1 m (Z1T b ((k,v)::l)) H] [rp:Rep [(m,Z1T b ((k,v)::l))] [(m,Z1T (b+1) l)] H H']
   (h:Sy n L D H' R K):Sy n L D H R (stp P r ops i K):=fun a w ha hD hs=>by
 subst hdd
 unfold Z0A at hT
 split at hT<;>cases hT
 rename_i hu
 have h1:=Z2i (P:=P) (hs.held _ mm.mem)
 have h3:=Z1H hK k hk ((k,v)::l) hl b w
 have h4:∀ o,(setObj m o).run P w = .ok () { w with heap:=w.heap.setIfInBounds m o }:=fun o=>Z4p (hs.held _ mm.mem)
 have hf:((k,v)::l).findIdx? (fun e=>decide (e.1=k))=some 0:=by rw [List.findIdx?_cons];simp
 have e1:Obj.map (((Z1S false b ((k,v)::l)).toArray).eraseIdxIfInBounds 0) (b+((k,v)::l).length)=Z1T (b+1) l:=by
   unfold Z1T
   congr 1
   · apply Array.ext'
     simp [Z1S]
   · rw [List.length_cons];omega
 have e2:(Builtin.delete_ #[T,tt] ty #[.map (some m),mkv false k]).run P w = .ok (.tuple #[]) { w with heap:=w.heap.setIfInBounds m (Z1T (b+1) l) }:=by
   unfold Builtin.delete_
   simp only [Sem.run_bind,run_underlying hu,Result.andThen,h1,Z1T,hK.ck _ k hk,h3,hf,Option.map_some,h4,Sem.run_pure,List.getElem?_toArray,List.getElem?_cons_zero,List.getElem?_cons_succ]
   rw [e1];rfl
 refine Zp ho (Zh _ rfl _) (v:=.tuple #[]) (w':={ w with heap:=w.heap.setIfInBounds m (Z1T (b+1) l) }) ?_ (h _ _ (ha.putNone _) hD (hs.rep (F:=[(m,Z1T b ((k,v)::l))]) (F':=[(m,Z1T (b+1) l)]) fun T hT=>St.set hT))
 simp only [execOp,resolve,invoke,builtin,Sem.run_bind,Sem.run_pure,Result.andThen,List.map_toArray,List.map_cons,List.map_nil,ha.reads _ _ hx,ha.reads _ _ hy]
 rw [show (Builtin.delete_ #[T,tt] ty #[.map (some m),mkv false k]).run P w=_ from e2]
end mapops
def qrs (l:List Rec):List (List Value):=l.map fun r=>Za r.q
theorem Z4k (l:List Rec):(qrs l).length=l.length:=List.length_map _
def tor (l:List (Int×Int)):List (List Value):=l.map fun t=>[.int .i64 t.1,.int .i64 t.2]
theorem Z1h (l:List (Int×Int)):(tor l).length=l.length:=List.length_map _
def wyl (f:Nat→Int) (r:Rec):List Value:=Za r.fr++[.slice r.a r.by_.length r.c,.int .i64 (f r.d)]
def wyv (f:Nat→Int) (r:Rec):Value:=.agg (wyl f r).toArray
def wkv (f:Nat→Int) (ws:List Rec):KV:=ws.map fun r=>(r.q,wyv f r)
def Z9x:Rec:=⟨[],List.replicate 6 0,[],0,none,0⟩
def wfd (ws:List Rec) (q:List Int):Option Rec:=ws.find? fun r=>decide (r.q=q)
theorem Z3h (f:Nat→Int) (ws:List Rec) (q:List Int):(wkv f ws).get q=(wfd ws q).map (wyv f):=by
 unfold KV.get wkv wfd
 rw [List.find?_map]
 cases h:ws.find? ((fun e:List Int×Value=>decide (e.1=q)) ∘ fun r=>(r.q,wyv f r)) with
 | none=>rw [show (ws.find? fun r=>decide (r.q=q))=none from h];rfl
 | some r=>rw [show (ws.find? fun r=>decide (r.q=q))=some r from h];rfl
theorem Z2U {ws:List Rec} {q:List Int} {r:Rec} (h:wfd ws q=some r):r∈ws∧r.q=q:=⟨List.mem_of_find?_eq_some h,by have:=List.find?_some h;simpa using this⟩
theorem Z5X {ws:List Rec} {q:List Int} (h:wfd ws q=none):∀ s∈ws,s.q≠q:=fun s hs e=>by
 have:=List.find?_eq_none.1 h s hs
 simp [e] at this
theorem Z6B {l:KV} {k:List Int} {v:Value} (h:∀ e∈l,e.1≠k):l.put k v=l++[(k,v)]:=by
 induction l with
 | nil=>rfl
 | cons e l ih =>
   obtain ⟨k',v'⟩:=e
   have h1:¬ k'=k:=h (k',v') (by simp)
   unfold KV.put
   rw [decide_eq_false h1,cond_false,ih (fun e he=>h e (by simp [he]))];rfl
theorem ZbR (f:Nat→Int) {ws:List Rec} {r:Rec} (h:∀ s∈ws,s.q≠r.q):(wkv f ws).put r.q (wyv f r)=wkv f (ws++[r]):=by
 rw [Z6B (fun e he=>by obtain ⟨s,hs,rfl⟩:=List.mem_map.1 he;exact h s hs)]
 unfold wkv;rw [List.map_append];rfl
theorem Z1i {f:Nat→Int} {ws:List Rec} (h:∀ r∈ws,r.q.length=6):∀ e∈wkv f ws,e.1.length=6:=fun e he=>by
 obtain ⟨s,hs,rfl⟩:=List.mem_map.1 he;exact h s hs
def dkv (l:List (List Int)):KV:=l.map fun q=>(q,.bool true)
theorem Zao {l:List (List Int)} (h:∀ q∈l,q.length=6):∀ e∈dkv l,e.1.length=6:=fun e he=>by
 obtain ⟨s,hs,rfl⟩:=List.mem_map.1 he;exact h s hs
theorem ZhP {l:List (List Int)} {q:List Int} (h:q∉l):((dkv l).get q).getD (.bool false) = .bool false:=by
 have:(dkv l).get q=none:=by
   unfold KV.get dkv
   rw [List.find?_eq_none.2 (fun e he=>by obtain ⟨s,hs,rfl⟩:=List.mem_map.1 he;simp;intro e2;exact h (e2▸hs))];rfl
 rw [this];rfl
theorem Zf2 {l:List (List Int)} {q:List Int} (h:q∉l):(dkv l).put q (.bool true)=dkv (l++[q]):=by
 rw [Z6B (fun e he=>by obtain ⟨s,hs,rfl⟩:=List.mem_map.1 he;intro e2;exact h (e2▸hs))]
 unfold dkv;rw [List.map_append];rfl
def qkv (n:Nat) (cf:Value) (nx:List Rec) (nf:Value):KV:=([(n:Int)],cf)::bif nx.isEmpty then [] else [([(n:Int)+1],nf)]
theorem Z1D (n:Nat) (cf:Value) (nx:List Rec) (nf:Value):∀ e∈qkv n cf nx nf,e.1.length=1:=fun e he=>by
 unfold qkv at he
 cases h:nx.isEmpty<;>rw [h] at he<;>simp at he
 · rcases he with rfl | rfl<;>rfl
 · rw [he];rfl
theorem Z7w (n:Nat) (cf:Value) (nx:List Rec) (nf z:Value):((qkv n cf nx nf).get [(n:Int)]).getD z=cf:=by
 unfold qkv KV.get
 rw [List.find?_cons_of_pos (by simp)];rfl
theorem Zbl {n:Nat} {cf:Value} {nx:List Rec} {nf z:Value} (h:nx=[]→nf=z):((qkv n cf nx nf).get [(n:Int)+1]).getD z=nf:=by
 unfold qkv KV.get
 rw [List.find?_cons_of_neg (by simp only [decide_eq_true_eq,List.cons.injEq,and_true];omega)]
 cases nx with
 | nil=>rw [h rfl];rfl
 | cons r nx=>rw [show (r::nx).isEmpty=false from rfl,cond_false,List.find?_cons_of_pos (by simp)];rfl
theorem Zd2 (n:Nat) (cf:Value) (nx:List Rec) (nf v:Value):(qkv n cf nx nf).put [(n:Int)] v=qkv n v nx nf:=by
 unfold qkv KV.put;rw [decide_eq_true rfl];rfl
theorem Zd3 (n:Nat) (cf:Value) (nx:List Rec) (nf v:Value) (r:Rec):(qkv n cf nx nf).put [(n:Int)+1] v=qkv n cf (nx++[r]) v:=by
 unfold qkv
 have h1:decide ([(n:Int)]=[(n:Int)+1])=false:=decide_eq_false (by simp only [List.cons.injEq,and_true];omega)
 have h2:(nx++[r]).isEmpty=false:=by cases nx<;>rfl
 rw [h2,cond_false]
 unfold KV.put
 rw [h1,cond_false]
 cases nx with
 | nil=>rfl
 | cons r nx =>
   rw [show (r::nx).isEmpty=false from rfl,cond_false]
   unfold KV.put
   rw [decide_eq_true rfl];rfl
def okv (n:Nat) (a:Option Addr) (c:Nat) (cur:List Rec):KV:=bif cur.isEmpty then [] else [([(n:Int)],.slice a cur.length c)]
theorem ZcV {n:Nat} {a:Option Addr} {c:Nat} {cur:List Rec} (h:cur≠[]):okv n a c cur=qkv n (.slice a cur.length c) [] (.slice none 0 0):=by
 unfold okv qkv
 cases cur with
 | nil=>exact absurd rfl h
 | cons r cur=>rfl
def WF (ws:List Rec):World→Prop:=fun w=>∀ r∈ws,RowsA r.a 2 (tor r.by_) w
theorem St.wf0 {x0:List Int} {H:Z8} {R:Z5} {w:World} (h:St H R w):St H (WF [rst x0]::R) w:=h.also fun w9 _ r hr=>by
 rw [List.mem_singleton.1 hr];intro i row hi;cases hi
theorem St.wfSnoc {ws:List Rec} {r:Rec} {H:Z8} {R:Z5} {w:World} [m1:MemF (WF ws) R] [m2:MemRows r.a 2 (tor r.by_) R] (h:St H R w):St H (WF (ws++[r])::R) w:=h.also fun w9 hw s hs=>by
 rcases List.mem_append.1 hs with h1 | h1
 · exact hw _ m1.mem s h1
 · rw [List.mem_singleton.1 h1];exact hw _ m2.mem
theorem RowsA.tl {a:Option Addr} {sz c:Nat} {row:List Value} {rows:List (List Value)} {w:World} (h:RowsA a sz (row::rows) w) (hc:rows.length+1≤c):RowsA (if c=1 then a else a.map (·.add (1*sz))) sz rows w:=by
 by_cases h1:c=1
 · have:rows=[]:=List.length_eq_zero_iff.1 (by omega)
   subst this
   intro i row hi;cases hi
 · rw [if_neg h1]
   intro i r hi
   obtain ⟨h2,b,off,he,h3⟩:=h (i+1) r hi
   subst he
   refine ⟨h2,b,off+1*sz,by rw [Option.map_some,ZB],fun j x hx=>?_⟩
   have:=h3 j x hx
   rw [show off+1*sz+i*sz+j=off+(i+1)*sz+j by rw [Nat.add_mul];omega];exact this
abbrev ed1 (b:TBn):Edg:=fun q=>(b.mvs q).map fun t=>[t]
theorem Ze6 {b:TBn} {p:List Int} {t:Int×Int} (h:t∈b.mvs p):(0≤t.1∧t.1<b.lots.length)∧0≤t.2∧t.2<b.sizes.length:=by
 obtain ⟨i,k,rfl,h1,h2,_⟩:=Zb1 h
 exact ⟨⟨Int.natCast_nonneg _,by dsimp only;omega⟩,Int.natCast_nonneg _,by dsimp only;omega⟩
theorem ZkJ (p:List Int) (t:Int×Int):app p [t]=p.set t.1.toNat t.2:=rfl
structure SO (b:TBn) (n:Nat) (ws cur:List Rec) (dl:List (List Int)):Prop where
 bi:BI (ed1 b) b.mds b.first ws cur
 ins:∀ r∈ws,b.inS r.q
 c:∀ r∈cur,r.d=n
 dn:∀ q∈dl,∃ s∈ws,s∉cur∧s.q=q
 ct:n+cur.length≤ws.length
structure SJ (b:TBn) (n m0:Nat) (ws cur nxt:List Rec) (dl:List (List Int)):Prop where
 bi:BI (ed1 b) b.mds b.first ws (cur++nxt)
 ins:∀ r∈ws,b.inS r.q
 c:∀ r∈cur,r.d=n
 x:∀ r∈nxt,r.d=n+1
 dn:∀ q∈dl,∃ s∈ws,s∉cur++nxt∧s.q=q
 ct:n+(cur.length+nxt.length)≤ws.length∧(cur=[]→n+1+nxt.length≤ws.length)
 ms:2*(117649-ws.length)+(cur.length+nxt.length)≤m0∧(cur=[]→2*(117649-ws.length)+nxt.length<m0)
structure SR (b:TBn) (n m0:Nat) (ws cur nxt:List Rec) (dl:List (List Int)) (r:Rec) (k:Nat):Prop where
 bj:BJ (ed1 b) b.mds b.first ws (cur++nxt) r ((ed1 b r.q).take k)
 ins:∀ r∈ws,b.inS r.q
 rd:r.d=n
 c:∀ r∈cur,r.d=n
 x:∀ r∈nxt,r.d=n+1
 dn:∀ q∈dl,∃ s∈ws,s∉cur++nxt∧s.q=q
 ct:n+1+(cur.length+nxt.length)≤ws.length
 ms:2*(117649-ws.length)+(cur.length+nxt.length)<m0
theorem SO.start {b:TBn} (hb:b.ok):SO b 0 [rst b.first] [rst b.first] []:=⟨BI.start _,fun r hr=>by rw [List.mem_singleton.1 hr];exact Z6q hb,fun r hr=>by rw [List.mem_singleton.1 hr];rfl,fun q hq=>(by cases hq),by simp⟩
theorem SO.go {b:TBn} {n:Nat} {ws cur:List Rec} {dl:List (List Int)} (h:SO b n ws cur dl) (hc:cur≠[]):SJ b n (2*(117649-ws.length)+cur.length) ws cur [] dl:=⟨by rw [List.append_nil];exact h.bi,h.ins,h.c,fun r hr=>(by cases hr),by rw [List.append_nil];exact h.dn,⟨by simpa using h.ct,fun e=>absurd e hc⟩,⟨by simp,fun e=>absurd e hc⟩⟩
theorem SJ.next {b:TBn} {n m0:Nat} {ws nxt:List Rec} {dl:List (List Int)} (h:SJ b n m0 ws [] nxt dl):SO b (n+1) ws nxt dl∧2*(117649-ws.length)+nxt.length<m0:=⟨⟨h.bi,h.ins,h.x,h.dn,h.ct.2 rfl⟩,h.ms.2 rfl⟩
theorem SJ.few {b:TBn} (hb:b.ok) {n m0:Nat} {ws cur nxt:List Rec} {dl:List (List Int)} (h:SJ b n m0 ws cur nxt dl):ws.length≤117649:=Z0y hb h.bi.nd h.ins
theorem SR.few {b:TBn} (hb:b.ok) {n m0:Nat} {ws cur nxt:List Rec} {dl:List (List Int)} {r:Rec} {k:Nat} (h:SR b n m0 ws cur nxt dl r k):ws.length≤117649:=Z0y hb h.bj.nd h.ins
theorem SO.few {b:TBn} (hb:b.ok) {n:Nat} {ws cur:List Rec} {dl:List (List Int)} (h:SO b n ws cur dl):ws.length≤117649:=Z0y hb h.bi.nd h.ins
theorem SJ.fresh {b:TBn} {n m0:Nat} {ws cur nxt:List Rec} {dl:List (List Int)} {r:Rec} (h:SJ b n m0 ws (r::cur) nxt dl):r.q∉dl:=fun hq=>by
 obtain ⟨s,hs,h1,h2⟩:=h.dn _ hq
 exact h1 (by rw [h.bi.uniq hs (h.bi.pn r (by simp)) h2];simp)
theorem SJ.dl6 {b:TBn} {n m0:Nat} {ws cur nxt:List Rec} {dl:List (List Int)} (h:SJ b n m0 ws cur nxt dl):∀ q∈dl,q.length=6:=fun q hq=>by
 obtain ⟨s,hs,_,rfl⟩:=h.dn q hq
 exact (h.ins s hs).1
theorem SJ.pop {b:TBn} {n m0:Nat} {ws cur nxt:List Rec} {dl:List (List Int)} {r:Rec} (h:SJ b n m0 ws (r::cur) nxt dl) (hm:b.mds r.q=false):SR b n (2*(117649-ws.length)+(cur.length+1+nxt.length)) ws cur nxt (dl++[r.q]) r 0:=by
 have hp:=h.bi.pop hm
 refine ⟨hp,h.ins,h.c r (by simp),fun s hs=>h.c s (by simp [hs]),h.x,fun q hq=>?_,?_,?_⟩
 · rcases List.mem_append.1 hq with h1 | h1
   · obtain ⟨s,hs,h2,h3⟩:=h.dn q h1
     exact ⟨s,hs,fun h4=>h2 (by simp only [List.cons_append,List.mem_cons];exact .inr h4),h3⟩
   · rw [List.mem_singleton.1 h1];exact ⟨r,hp.r0,hp.r0p,rfl⟩
 · have:=h.ct.1;rw [List.length_cons] at this;omega
 · omega
theorem ZdO {b:TBn} {q:List Int} {k:Nat} {t:Int×Int} (h:(b.mvs q)[k]?=some t):(ed1 b q).take (k+1)=(ed1 b q).take k++[[t]]:=by
 rw [List.take_add_one,List.getElem?_map,h];rfl
theorem SR.skip {b:TBn} {n m0 k:Nat} {ws cur nxt:List Rec} {dl:List (List Int)} {r:Rec} (h:SR b n m0 ws cur nxt dl r k) {t:Int×Int} (ht:(b.mvs r.q)[k]?=some t) {s:Rec} (hs:s∈ws) (e:s.q=r.q.set t.1.toNat t.2):SR b n m0 ws cur nxt dl r (k+1):=⟨by rw [ZdO ht];exact h.bj.skip hs e,h.ins,h.rd,h.c,h.x,h.dn,h.ct,h.ms⟩
theorem SR.more {b:TBn} (hb:b.ok) {n m0 k:Nat} {ws cur nxt:List Rec} {dl:List (List Int)} {r:Rec} (h:SR b n m0 ws cur nxt dl r k) {t:Int×Int} (ht:(b.mvs r.q)[k]?=some t) (hn:∀ s∈ws,s.q≠r.q.set t.1.toNat t.2) (a:Option Addr) (c:Nat) :
   SR b n m0 (ws++[⟨r.q.set t.1.toNat t.2,r.q,[t],n+1,a,c⟩]) cur (nxt++[⟨r.q.set t.1.toNat t.2,r.q,[t],n+1,a,c⟩]) dl r (k+1)∧ws.length+1≤117649:=by
 have hj:=h.bj.more (l:=[t]) (List.mem_map.2 ⟨t,List.mem_of_getElem? ht,rfl⟩) hn a c
 rw [h.rd,ZkJ] at hj
 have hin:∀ x∈ws++[(⟨r.q.set t.1.toNat t.2,r.q,[t],n+1,a,c⟩:Rec)],b.inS x.q:=fun x hx=>by
   rcases List.mem_append.1 hx with h1 | h1
   · exact h.ins x h1
   · rw [List.mem_singleton.1 h1]
     exact Z74 (l:=[t]) (h.ins r h.bj.r0) (fun u hu=>by rw [List.mem_singleton.1 hu];exact (Ze6 (List.mem_of_getElem? ht)).2)
 have hf:=Z0y hb hj.nd hin
 rw [List.length_append,List.length_singleton] at hf
 have h1:=h.ct
 have h2:=h.ms
 refine ⟨⟨by rw [ZdO ht,← List.append_assoc];exact hj,hin,h.rd,h.c,fun x hx=>?_,fun q hq=>?_,?_,?_⟩,hf⟩
 · rcases List.mem_append.1 hx with h3 | h3
   · exact h.x x h3
   · rw [List.mem_singleton.1 h3]
 · obtain ⟨s,hs,h3,h4⟩:=h.dn q hq
   refine ⟨s,by simp [hs],fun h5=>?_,h4⟩
   rw [← List.append_assoc] at h5
   rcases List.mem_append.1 h5 with h6 | h6
   · exact h3 h6
   · exact hn s hs (by rw [List.mem_singleton.1 h6])
 · simp only [List.length_append,List.length_singleton];omega
 · simp only [List.length_append,List.length_singleton];omega
theorem SR.done {b:TBn} {n m1 m0:Nat} {ws cur nxt:List Rec} {dl:List (List Int)} {r:Rec} (h:SR b n m1 ws cur nxt dl r (b.mvs r.q).length) (hm:m1≤m0):SJ b n m0 ws cur nxt dl:=⟨BJ.done (by have:=h.bj;rwa [List.take_of_length_le (by simp)] at this),h.ins,h.c,h.x,h.dn,⟨by have:=h.ct;omega,fun e=>by have:=h.ct;subst e;simp at this ⊢;omega⟩,⟨by have:=h.ms;omega,fun e=>by have:=h.ms;subst e;simp at this;omega⟩⟩
theorem Zbm (l:List Rec) (r:Rec):qrs l++[Za r.q]=qrs (l++[r]):=by unfold qrs;rw [List.map_append];rfl
def SQ (b:TBn) (f:Nat→Int) (ed:Edg) (H:Z8) (R:Z5):Value→Z8→Z5→Prop:=fun v H' R'=>∃ (m:Nat) (ws:List Rec) (last:List Int) (is:Bool),v = .agg (.map (some m)::(Za last++[.bool is])).toArray ∧
 ((is=true∧∃ r pend,last=r.q∧BI ed b.mds b.first ws (r::pend)∧b.mds r.q=true)∨(is=false∧last=List.replicate 6 0∧BI ed b.mds b.first ws []))∧(∀ r∈ws,b.inS r.q)∧H'=H∧R'=(fun w=>w.heap[m]?=some (Zz true (wkv f ws)))::WF ws::R
theorem Z8W:Z2a Tryz.prog 126=some 8:=by kernel_rfl
theorem Zer:Z2a Tryz.prog 47=some 2:=by kernel_rfl
theorem Zgi:apT Tryz.prog 127=some (119,6,48):=by kernel_rfl
theorem Zh5:cal Tryz.prog 226=true:=by kernel_rfl
theorem Zh6:cal Tryz.prog 227=true:=by kernel_rfl
theorem Zhk:cal Tryz.prog 266=true:=by kernel_rfl
theorem Zht:cal Tryz.prog 37=true:=by kernel_rfl
theorem ZjD:cal Tryz.prog 81=true:=by kernel_rfl
theorem Z5g:ZF Tryz.prog 119=some 6:=by kernel_rfl
theorem ZhI:ZF Tryz.prog 123=some 8:=by kernel_rfl
theorem Zai:ZF Tryz.prog 126=some 8:=by kernel_rfl
theorem ZjR:ZF Tryz.prog 333=some 1:=by kernel_rfl
theorem cn4:ZF Tryz.prog 4=some 1:=by kernel_rfl
theorem ZiQ:ZF Tryz.prog 47=some 2:=by kernel_rfl
theorem ZhS:elN Tryz.prog 127=some 6:=by kernel_rfl
theorem Z0I:eqB Tryz.prog 10000 119=some (true,6):=by kernel_rfl
theorem Z6o:eqB Tryz.prog 10000 3=some (false,1):=by kernel_rfl
theorem Zaz:ZY Tryz.prog 123 2=some 7:=by kernel_rfl
theorem Z2e:ZY Tryz.prog 126 0=some 0:=by kernel_rfl
theorem Z5p:ZY Tryz.prog 126 1=some 1:=by kernel_rfl
theorem Z32:ZY Tryz.prog 126 2=some 7:=by kernel_rfl
theorem Zfe:ZY Tryz.prog 192 0=some 0:=by kernel_rfl
theorem Z6u:ZY Tryz.prog 47 0=some 0:=by kernel_rfl
theorem ZdW:ZY Tryz.prog 47 1=some 1:=by kernel_rfl
theorem Ze0:Z2y Tryz.prog 127=true:=by kernel_rfl
theorem Z1B:Z0A Tryz.prog 124=some (119,123):=by kernel_rfl
theorem Z2F:Z0A Tryz.prog 333=some (3,127):=by kernel_rfl
theorem Ze5:Z0A Tryz.prog 334=some (119,4):=by kernel_rfl
theorem Z13:Z2H Tryz.prog 10000 119=true:=by kernel_rfl
theorem Z6H:Z2H Tryz.prog 10000 3=true:=by kernel_rfl
theorem ZcZ:ZP Tryz.prog 123=some [(0,6),(6,1),(7,1)]:=by kernel_rfl
theorem Zik:ZP Tryz.prog 126=some [(0,1),(1,6),(7,1)]:=by kernel_rfl
theorem Z5G:Z0h Tryz.prog 124=true:=by kernel_rfl
theorem Zk7:Z0h Tryz.prog 190=true:=by kernel_rfl
theorem Z4D:Z0h Tryz.prog 333=true:=by kernel_rfl
theorem Z9i:slE Tryz.prog 127=some (119,6):=by kernel_rfl
theorem Z18:slE Tryz.prog 23=some (3,1):=by kernel_rfl
theorem Zg9:slE Tryz.prog 45=some (47,2):=by kernel_rfl
theorem Z4F:Zr Tryz.prog 119=some ([.int .i64 0,.int .i64 0,.int .i64 0,.int .i64 0,.int .i64 0,.int .i64 0]):=by kernel_rfl
theorem Z9o:Zr Tryz.prog 123=some ([.int .i64 0,.int .i64 0,.int .i64 0,.int .i64 0,.int .i64 0,.int .i64 0,.slice none 0 0,.int .i64 0]):=by kernel_rfl
theorem Z9p:Zr Tryz.prog 126=some ([.map none,.int .i64 0,.int .i64 0,.int .i64 0,.int .i64 0,.int .i64 0,.int .i64 0,.bool false]):=by kernel_rfl
theorem zl3:Zr Tryz.prog 3=some ([.int .i64 0]):=by kernel_rfl
theorem Zkq:Zr Tryz.prog 333=some ([.map none]):=by kernel_rfl
theorem Z7R:zvl Tryz.prog 123=some (.agg #[.int .i64 0,.int .i64 0,.int .i64 0,.int .i64 0,.int .i64 0,.int .i64 0,.slice none 0 0,.int .i64 0]):=by kernel_rfl
theorem ZbX:zvl Tryz.prog 127=some (.slice none 0 0):=by kernel_rfl
theorem zv4:zvl Tryz.prog 4=some (.bool false):=by kernel_rfl
theorem ZaT {m:List Int} (h:m.length=6):∃ a b c d e f,m=[a,b,c,d,e,f]:=by
 match m,h with
 | [a,b,c,d,e,f],_=>exact ⟨a,b,c,d,e,f,rfl⟩
theorem Zkz {r:Rec} (h:r.q.length=6):∃ a b c d e f fr by_ n o k,r=⟨[a,b,c,d,e,f],fr,by_,n,o,k⟩:=by
 obtain ⟨q,fr,by_,n,o,k⟩:=r
 obtain ⟨a,b,c,d,e,f,rfl⟩:=ZaT h
 exact ⟨a,b,c,d,e,f,fr,by_,n,o,k,rfl⟩
theorem Z4j {e sz:Nat} {rows:List (List Value)} (o:OSl e sz rows):∃ a c,o.fs = .slice a rows.length c∧rows.length≤c∧∀ {H:Z8} {R:Z5} {w:World},St (o.G++H) R w→St H (RowsA a sz rows::R) w:=by
 obtain ⟨fs,G,hl,his⟩:=o
 rcases his with ⟨rfl,rfl,rfl⟩ | ⟨b,cap,junk,rfl,rfl,_,hc,_⟩
 · exact ⟨none,0,rfl,Nat.le_refl _,fun {H R w} h=>(St.also (H:=H) (R:=R) h (f:=RowsA none sz []) (fun w' _=>fun i row hi=>by simp at hi))⟩
 · exact ⟨_,cap,rfl,hc,fun {H R w} h=>St.rows (rest:=junk) h hl⟩
theorem Zdk (A:Z8) (x:Nat×Obj) (G M H:Z8):(x::(A++(G++(M++H)))).Perm (A++(G++(x::(M++H)))):=by
 have h1:(x::(A++(G++(M++H)))).Perm (A++(x::(G++(M++H)))):=List.perm_middle.symm
 exact h1.trans (List.Perm.append_left A (List.perm_middle (l₁:=G)).symm)
theorem Zii (A G X:Z8):(A++(G++X)).Perm (G++(A++X)):=by
 rw [← List.append_assoc,← List.append_assoc];exact List.Perm.append_right X List.perm_append_comm
theorem ZbT {f:Nat→Int} {r:Rec} (h:r.fr.length=6):(wyl f r).length=8:=by unfold wyl;rw [List.length_append,Z6,h];rfl
theorem Z4w {f:Nat→Int} {r:Rec} (h:r.fr.length=6):(wyl f r)[7]?=some (.int .i64 (f r.d)):=by
 unfold wyl;rw [List.getElem?_append_right (by rw [Z6];omega),Z6,h];rfl
theorem ZbU (f:Nat→Int) (r:Rec):(wyl f r).all (·.oneCell')=true:=by unfold wyl;rw [List.all_append,ZA];rfl
theorem Zgn {ed:Edg} {md:List Int→Bool} {x0:List Int} {ws pend:List Rec} {r:Rec} {dl:List (List (Int×Int))} (h:BJ ed md x0 ws pend r dl) (hi:∀ s∈ws,s.q.length=6):∀ s∈ws,s.fr.length=6:=fun s hs=>by
 rcases h.fr s hs with h1 | ⟨u,hu,h1,_⟩
 · rw [h1];rfl
 · rw [← h1];exact hi u hu
theorem Zek {ws:List Rec} {q:List Int} (h:∀ s∈ws,s.fr.length=6):((wfd ws q).getD Z9x).fr.length=6:=by
 cases hw:wfd ws q with
 | none=>rfl
 | some r=>exact h r (Z2U hw).1
theorem Z8U {f:Nat→Int} (h0:f 0=0) (ws:List Rec) (q:List Int):(bif true then Value.tuple #[((wkv f ws).get q).getD (.agg #[.int .i64 0,.int .i64 0,.int .i64 0,.int .i64 0,.int .i64 0,.int .i64 0,.slice none 0 0,.int .i64 0]),.bool ((wkv f ws).get q).isSome] else ((wkv f ws).get q).getD (.agg #[.int .i64 0,.int .i64 0,.int .i64 0,.int .i64 0,.int .i64 0,.int .i64 0,.slice none 0 0,.int .i64 0])) = .tuple #[wyv f ((wfd ws q).getD Z9x),.bool (wfd ws q).isSome]:=by
 rw [cond_true,Z3h]
 cases wfd ws q with
 | none =>
   have e:wyv f Z9x = .agg #[.int .i64 0,.int .i64 0,.int .i64 0,.int .i64 0,.int .i64 0,.int .i64 0,.slice none 0 0,.int .i64 0]:=by
     unfold wyv wyl Z9x;dsimp only;rw [h0];rfl
   simp [e]
 | some r=>rfl
set_option maxHeartbeats 1600000 in
theorem Zcn (d:TD) (hy:d.y.ok) (H:Z8) (R:Z5) [hD:MemRows (some ⟨d.bd,0,none⟩) 8 [d.l] R] [hR1:MemRows d.a1 1 (irows d.y.sizes) R] [hR2:MemRows d.a2 3 (trows d.y.lots) R] :
    Fn Tryz.prog 151 [.pointer (some ⟨d.bd,0,none⟩),.agg #[.func (.func 81) #[] #[]],.bool false] H R (SQ d.y (fun k:Nat=>(k:Int)) (ed1 d.y) H R):=by
 have hb:=hy.nb
 have hl:=hy.nl
 obtain ⟨f0,f1,f2,f3,f4,f5,hf⟩:=ZaT (d.y.first_len hl)
 refine Z4O Tryz.func151 rfl Tryz.ntmps151 rfl ?_
 refine sqt 2 rfl (bx rfl rfl rfl (fun b4=>alc rfl Z9p rfl (fun b6=>Z5S (sqt 11 rfl ?_))))
 refine mkm rfl rfl true (fun m18=>?_)
 refine pur 1 rfl (sp rfl (PE.nilCheck rfl) rfl (sp rfl (PE.fA Z2d rfl) rfl (spL rfl rfl (ZaS (sz:=8) (Za [f0,f1,f2,f3,f4,f5]) ZU (rest:=[]) (by unfold TD.l;rw [hf];rfl) rfl) rfl (sp rfl (PE.build (out:=[_,_,_,_,_,_,_,_]) ZcZ Z9o rfl rfl) rfl ?_))))
 refine mpi [] [f0,f1,f2,f3,f4,f5] rfl Z1B (KeyT.of Z0I Z13) rfl rfl rfl rfl (by simp) ?_
 refine pur 1 rfl (sp rfl (PE.build (out:=[_,_,_,_,_,_,_,_]) Zik Z9p rfl rfl) rfl (alc rfl Z9p rfl (fun b7=>?_)))
 refine sto rfl rfl rfl Zai rfl rfl rfl rfl ?_
 refine sqt 10 rfl ?_
 refine mkm rfl rfl false (fun m26=>?_)
 refine pur 1 rfl (sp rfl (PE.nilCheck rfl) rfl (sp rfl (PE.fA Z2d rfl) rfl (spL rfl rfl (ZaS (sz:=8) (Za [f0,f1,f2,f3,f4,f5]) ZU (rest:=[]) (by unfold TD.l;rw [hf];rfl) rfl) rfl ?_)))
 refine bsl (out:=[_,_,_,_,_,_]) rfl Z9i Z4F rfl rfl rfl rfl rfl rfl (fun b31=>?_)
 refine mpi [] [0] rfl Z2F (KeyT.of Z6o Z6H) rfl rfl rfl rfl (by simp) ?_
 refine pur 1 rfl (alc rfl Zkq rfl (fun b8=>?_))
 refine sto rfl rfl rfl ZjR rfl rfl rfl rfl ?_
 refine sqt 2 rfl ?_
 refine mkm rfl rfl true (fun m33=>?_)
 refine pur 1 rfl (Z0 (Z5R (Z0 (sqt 4 rfl (alc rfl zl3 rfl (fun b10=>alc rfl zl3 rfl (fun b11=>?_)))))))
 refine sto rfl rfl rfl cn3 rfl rfl rfl rfl ?_
 refine sto rfl rfl rfl cn3 rfl rfl rfl rfl ?_
 refine Z3 ?_
 refine Sy.heap (H':=(b11,cel 3 [.int .i64 (1)])::(b10,cel 3 [.int .i64 (0:Int)])::(m33,Zz true (dkv []))::(b8,cel 333 [.map (some m26)])::(m26,Z1T 0 (okv 0 (some ⟨b31,0,none⟩) 1 [rst d.y.first]))::(b7,cel 126 [.map (some m18),.int .i64 0,.int .i64 0,.int .i64 0,.int .i64 0,.int .i64 0,.int .i64 0,.bool false])::(m18,Zz true (wkv (fun k:Nat=>(k:Int)) [rst d.y.first]))::(b6,cel 126 [.map none,.int .i64 0,.int .i64 0,.int .i64 0,.int .i64 0,.int .i64 0,.int .i64 0,.bool false])::(b4,cel 192 [.func (.func 81) #[] #[]])::(mkh []++H)) (R':=WF [rst d.y.first]::RowsA (some ⟨b31,0,none⟩) 6 (qrs [rst d.y.first])::R) (fun w h=>by
   rw [ZaW]
   show St _ (WF [rst d.y.first]::RowsA (some ⟨b31,0,none⟩) 6 [Za d.y.first]::R) w
   rw [show wkv (fun k:Nat=>(k:Int)) [rst d.y.first]=[([f0,f1,f2,f3,f4,f5],(.agg #[.int .i64 0,.int .i64 0,.int .i64 0,.int .i64 0,.int .i64 0,.int .i64 0,.slice none 0 0,.int .i64 0]))] by rw [hf];rfl,hf]
   rw [← hf]
   exact St.wf0 (ZaJ (row:=Za d.y.first) (by rw [hf];exact h.pull b31) (by rw [Z6];exact d.y.first_len hl))) ?_
 refine Z1f (ι:={y:(Nat×Nat)×Nat×(List Rec×List Rec×List (List Int))×(Option Addr×Nat)×List Nat // SO d.y y.2.1 y.2.2.1.1 y.2.2.1.2.1 y.2.2.1.2.2∧y.2.2.1.2.1.length≤y.2.2.2.1.2}) (fun y=>⟨[(0,.pointer (some ⟨d.bd,0,none⟩)),(2,.bool false),(4,.pointer (some ⟨b4,0,none⟩)),(6,.pointer (some ⟨b6,0,none⟩)),(7,.pointer (some ⟨b7,0,none⟩)),(8,.pointer (some ⟨b8,0,none⟩)),(9,.map (some m33)),(10,.pointer (some ⟨y.1.1.1,0,none⟩)),(11,.pointer (some ⟨y.1.1.2,0,none⟩))],mks y.1.2.2.2.2,(y.1.1.2,cel 3 [.int .i64 ((y.1.2.2.1.2.1.length:Nat):Int)])::(y.1.1.1,cel 3 [.int .i64 (y.1.2.1:Int)])::(m33,Zz true (dkv y.1.2.2.1.2.2))::(b8,cel 333 [.map (some m26)])::(m26,Z1T y.1.2.1 (okv y.1.2.1 y.1.2.2.2.1.1 y.1.2.2.2.1.2 y.1.2.2.1.2.1))::(b7,cel 126 [.map (some m18),.int .i64 0,.int .i64 0,.int .i64 0,.int .i64 0,.int .i64 0,.int .i64 0,.bool false])::(m18,Zz true (wkv (fun k:Nat=>(k:Int)) y.1.2.2.1.1))::(b6,cel 126 [.map none,.int .i64 0,.int .i64 0,.int .i64 0,.int .i64 0,.int .i64 0,.int .i64 0,.bool false])::(b4,cel 192 [.func (.func 81) #[] #[]])::(mkh y.1.2.2.2.2++H),WF y.1.2.2.1.1::RowsA y.1.2.2.2.1.1 6 (qrs y.1.2.2.1.2.1)::R⟩) (fun y=>2*(117649-y.1.2.2.1.1.length)+y.1.2.2.1.2.1.length) ⟨((b10,b11),0,([rst d.y.first],[rst d.y.first],[]),(some ⟨b31,0,none⟩,1),[]),SO.start hy,Nat.le_refl _⟩ ?_ (fun y=>?_)
 exact Z4t sbA rfl idH
 ·
  obtain ⟨⟨⟨c10,c11⟩,n,⟨ws,cur,dl⟩,⟨a,c⟩,mk⟩,hso,hcc⟩:=y
  dsimp only at hso hcc ⊢
  have hfew:=hso.few hy
  have hct:=hso.ct
  refine Z0 (sqt 2 rfl (spL rfl rfl (lh sc3 rfl rfl) rfl (pur 1 rfl ?_)))
  refine Z2 rfl ?_ ?_<;>intro hc0<;>try simp only [cS] at hc0
  ·
   have hne:cur≠[]:=fun e=>by subst e;exact absurd hc0 (by simp)
   rw [ZcV hne]
   obtain ⟨m0,hm0⟩:∃ m0,m0=2*(117649-ws.length)+cur.length:=⟨_,rfl⟩
   have hgo:=hso.go hne
   rw [← hm0] at hgo
   clear hct
   refine Z1 (Z0 (Z3 (Z0 (Z3 ?_))))
   refine Z1f (ι:=(y:{y:(List Rec×List Rec×List Rec×List (List Int))×(Option Addr×Nat)×List Nat // SJ d.y n m0 y.1.1 y.1.2.1 y.1.2.2.1 y.1.2.2.2∧y.1.2.1.length≤y.2.1.2})×{o:OSl 119 6 (qrs y.1.1.2.2.1) // y.1.1.2.2.1=[]→o.fs = .slice none 0 0}) (fun y=>⟨[(0,.pointer (some ⟨d.bd,0,none⟩)),(2,.bool false),(4,.pointer (some ⟨b4,0,none⟩)),(6,.pointer (some ⟨b6,0,none⟩)),(7,.pointer (some ⟨b7,0,none⟩)),(8,.pointer (some ⟨b8,0,none⟩)),(9,.map (some m33)),(10,.pointer (some ⟨c10,0,none⟩)),(11,.pointer (some ⟨c11,0,none⟩))],mks y.1.1.2.2,(c11,cel 3 [.int .i64 ((y.1.1.1.2.1.length+y.1.1.1.2.2.1.length:Nat):Int)])::(c10,cel 3 [.int .i64 (n:Int)])::(m33,Zz true (dkv y.1.1.1.2.2.2))::(b8,cel 333 [.map (some m26)])::(m26,Z1T n (qkv n (.slice y.1.1.2.1.1 y.1.1.1.2.1.length y.1.1.2.1.2) y.1.1.1.2.2.1 y.2.1.fs))::(b7,cel 126 [.map (some m18),.int .i64 0,.int .i64 0,.int .i64 0,.int .i64 0,.int .i64 0,.int .i64 0,.bool false])::(m18,Zz true (wkv (fun k:Nat=>(k:Int)) y.1.1.1.1))::(b6,cel 126 [.map none,.int .i64 0,.int .i64 0,.int .i64 0,.int .i64 0,.int .i64 0,.int .i64 0,.bool false])::(b4,cel 192 [.func (.func 81) #[] #[]])::(y.2.1.G++(mkh y.1.1.2.2++H)),WF y.1.1.1.1::RowsA y.1.1.2.1.1 6 (qrs y.1.1.1.2.1)::R⟩) (fun y=>2*(117649-y.1.1.1.1.length)+(y.1.1.1.2.1.length+y.1.1.1.2.2.1.length)) ⟨⟨((ws,cur,[],dl),(a,c),mk),hgo,hcc⟩,OSl.nil _ _,fun _=>rfl⟩ ?_ (fun y=>?_)
   exact Z4t sbA rfl idH
   ·
    clear hgo hfew hne
    obtain ⟨⟨⟨⟨ws,cur,nxt,dl⟩,⟨a,c⟩,mk⟩,hsj,hcc⟩,⟨o,hon⟩⟩:=y
    dsimp only at hsj hcc o hon ⊢
    have hfew:=hsj.few hy
    have hct:=hsj.ct.1
    refine Z0 (sqt 5 rfl (spL rfl rfl (lh Z4D rfl rfl) rfl (spL rfl rfl (lh sc3 rfl rfl) rfl ?_)))
    refine spK rfl rfl rfl (Z2C (qkv n (.slice a cur.length c) nxt o.fs) [(n:Int)] Z2F (KeyT.of Z6o Z6H) (ZZ ZbX) rfl (Z1D _ _ _ _) (Z7w _ _ _ _ _)) rfl ?_
    refine sp rfl (PE.lenSl Ze0 rfl) rfl (pur 1 rfl ?_)
    refine Z2 rfl ?_ ?_<;>intro hc1<;>try simp only [cS] at hc1
    ·
     obtain ⟨r,cur,rfl⟩:∃ r l,cur=r::l:=by cases cur with | nil=>exact absurd hc1 (by simp) | cons r l=>exact ⟨r,l,rfl⟩
     rw [List.length_cons] at hct hcc
     have hr6:=(hsj.ins r (hsj.bi.pn r (by simp))).1
     obtain ⟨q0,q1,q2,q3,q4,q5,fr,by_,dd,ra,rk,rfl⟩:=Zkz hr6
     have hfr:=hsj.fresh
     dsimp only at hr6 hfr
     refine Zi (a:=a) (sz:=6) (rows:=qrs (⟨[q0,q1,q2,q3,q4,q5],fr,by_,dd,ra,rk⟩::cur)) (by simp [qrs]) (fun ba oa he=>?_)
     subst he
     refine Z1 (Z3 (sqt 7 rfl (spL rfl rfl (lh Z4D rfl rfl) rfl (spL rfl rfl (lh sc3 rfl rfl) rfl ?_))))
     refine spK rfl rfl rfl (Z2C (qkv n (.slice (some ⟨ba,oa,none⟩) (⟨[q0,q1,q2,q3,q4,q5],fr,by_,dd,ra,rk⟩::cur).length c) nxt o.fs) [(n:Int)] Z2F (KeyT.of Z6o Z6H) (ZZ ZbX) rfl (Z1D _ _ _ _) (Z7w _ _ _ _ _)) rfl ?_
     refine sp rfl (PE.indexAddr ZhS rfl rfl (by decide) (by rw [List.length_cons];omega)) rfl (spL rfl rfl (lfA ZU (rows:=qrs (⟨[q0,q1,q2,q3,q4,q5],fr,by_,dd,ra,rk⟩::cur)) (row:=Za [q0,q1,q2,q3,q4,q5]) rfl rfl) rfl (alc rfl Z4F rfl (fun b12=>?_)))
     refine Z4z rfl rfl rfl Z5g rfl rfl rfl (ZA _) ?_
     refine Z0 ?_
     refine Zb [0,0,0,0,12,28,63] (.ld 0 (.ld 1 (.ld 2 (.ld 3 (.ld 4 (.tk 5 (.big 6 .done))))))) Zo (by kernel_rfl) ?_
     refine ld rfl rfl (lh Z4D rfl rfl) rfl (ld rfl rfl (lh sc3 rfl rfl) rfl (ld rfl rfl (lh Z4D rfl rfl) rfl (ld rfl rfl (lh sc3 rfl rfl) rfl ?_)))
     refine ldK rfl rfl rfl (Z2C (qkv n (.slice (some ⟨ba,oa,none⟩) (⟨[q0,q1,q2,q3,q4,q5],fr,by_,dd,ra,rk⟩::cur).length c) nxt o.fs) [(n:Int)] Z2F (KeyT.of Z6o Z6H) (ZZ ZbX) rfl (Z1D _ _ _ _) (Z7w _ _ _ _ _)) rfl ?_
     refine tk rfl (PE.slLoA (l:=1) Z9i rfl rfl (by rw [List.length_cons];omega)) rfl ?_
     refine Zkw (qkv n (.slice (some ⟨ba,oa,none⟩) (⟨[q0,q1,q2,q3,q4,q5],fr,by_,dd,ra,rk⟩::cur).length c) nxt o.fs) [(n:Int)] rfl Z2F (KeyT.of Z6o Z6H) rfl rfl rfl rfl (Z1D _ _ _ _) ?_
     refine bgT (Z0 (sqt 3 rfl ?_))
     rw [Zd2]
     refine Sy.heap (fun w h=>h.also (f:=RowsA (if c=1 then some ⟨ba,oa,none⟩ else (some (⟨ba,oa,none⟩:Addr)).map (·.add (1*6))) 6 (qrs cur)) (fun w9 hw=>RowsA.tl (row:=Za [q0,q1,q2,q3,q4,q5]) (hw _ (inferInstance:MemRows (some ⟨ba,oa,none⟩) 6 (qrs (⟨[q0,q1,q2,q3,q4,q5],fr,by_,dd,ra,rk⟩::cur)) _).mem) (by rw [List.length_map];exact hcc))) ?_
     obtain ⟨a2,ha2⟩:∃ a2:Option Addr,a2=(if c=1 then some ⟨ba,oa,none⟩ else (some (⟨ba,oa,none⟩:Addr)).map (·.add (1*6))):=⟨_,rfl⟩
     rw [← ha2]
     have hle:(⟨[q0,q1,q2,q3,q4,q5],fr,by_,dd,ra,rk⟩::cur:List Rec).length-1=cur.length:=by simp
     rw [hle]
     clear ha2 hle
     refine spL rfl rfl (lh sc3 rfl rfl) rfl (sp rfl (PE.sub rfl rfl (by simp only [List.length_cons];omega)) rfl ?_)
     refine sto rfl rfl rfl cn3 rfl rfl rfl rfl ?_
     refine sqt 3 rfl ?_
     rw [show ((((⟨[q0,q1,q2,q3,q4,q5],fr,by_,dd,ra,rk⟩::cur:List Rec).length+nxt.length:Nat):Int)-1)=((cur.length+nxt.length:Nat):Int) by rw [List.length_cons];omega]
     refine pur 1 rfl (spL rfl rfl (lhA (Za [q0,q1,q2,q3,q4,q5]) ZU rfl (rest:=[]) rfl rfl) rfl ?_)
     refine spK rfl rfl rfl (Z3A (b:=true) (dkv dl) [q0,q1,q2,q3,q4,q5] Ze5 (KeyT.of Z0I Z13) (ZZ zv4) rfl (Zao hsj.dl6) (ZhP hfr)) rfl ?_
     refine Z2 rfl ?_ ?_<;>intro hc2
     exact absurd hc2 (by simp)
     ·
      refine Z1 (sqt 3 rfl (pur 1 rfl (spL rfl rfl (lhA (Za [q0,q1,q2,q3,q4,q5]) ZU rfl (rest:=[]) rfl rfl) rfl ?_)))
      refine mpu (dkv dl) [q0,q1,q2,q3,q4,q5] (v:=.bool true) rfl Ze5 (KeyT.of Z0I Z13) rfl rfl rfl rfl (Zao hsj.dl6) ?_
      rw [Zf2 hfr]
      refine Z0 (sqt 7 rfl (pur 4 rfl (Z0E rfl rfl rfl rfl rfl (lhA (Za [q0,q1,q2,q3,q4,q5]) ZU rfl (rest:=[]) rfl rfl) rfl ?_)))
      refine Z6e rfl rfl rfl rfl Zht rfl rfl (Zdo d hy [q0,q1,q2,q3,q4,q5] rfl _ _) ?_
      refine pur 1 rfl ?_
      refine Z2 rfl ?_ ?_<;>intro hc3
      refine sqt 5 rfl (spL rfl rfl (lhA (Za [q0,q1,q2,q3,q4,q5]) ZU rfl (rest:=[]) rfl rfl) rfl (sp rfl (PE.fA Z5p rfl) rfl ?_))
      refine ZH (l':=[.map (some m18),.int .i64 q0,.int .i64 q1,.int .i64 q2,.int .i64 q3,.int .i64 q4,.int .i64 q5,.bool false]) rfl rfl rfl Z5g rfl rfl rfl rfl (nl rfl) ?_
      refine sp rfl (PE.fA Z32 rfl) rfl ?_
      refine ZH (l':=[.map (some m18),.int .i64 q0,.int .i64 q1,.int .i64 q2,.int .i64 q3,.int .i64 q4,.int .i64 q5,.bool true]) rfl rfl rfl cn4 rfl rfl rfl rfl (nl rfl) ?_
      refine Z7 (Z9 (ZX (by decide) (Z9 (ZX (by decide) (Z9 (ZX (by decide) (Z9 (Z9 (Zk (sqt 2 rfl (spL rfl rfl (lhA [.map (some m18),.int .i64 q0,.int .i64 q1,.int .i64 q2,.int .i64 q3,.int .i64 q4,.int .i64 q5,.bool true] Z8W rfl (rest:=[]) rfl rfl) rfl ?_)))))))))))
      refine ZH (l':=[.map (some m18),.int .i64 q0,.int .i64 q1,.int .i64 q2,.int .i64 q3,.int .i64 q4,.int .i64 q5,.bool true]) rfl rfl rfl Zai rfl rfl rfl rfl (nl rfl) ?_
      refine Z4 ?_
      refine Sy.heap (H':=mkh mk++((b6,cel 126 [.map (some m18),.int .i64 q0,.int .i64 q1,.int .i64 q2,.int .i64 q3,.int .i64 q4,.int .i64 q5,.bool true])::H)) (R':=(fun w=>w.heap[m18]?=some (Zz true (wkv (fun k:Nat=>(k:Int)) ws)))::WF ws::R) (fun w h=>by
        have h2:=St.freeze (((((((((h.del b12).del c11).del c10).del m33).del b8).del m26).del b7).del b4).pull m18)
        have h3:=St.drop (G:=o.G) (h2.perm (List.perm_middle (l₁:=o.G)).symm)
        exact St.sub (h3.perm (List.perm_middle (l₁:=mkh mk)).symm)) ?_
      exact ZO mk idH rfl (.cons (RV.cell rfl (lhA [.map (some m18),.int .i64 q0,.int .i64 q1,.int .i64 q2,.int .i64 q3,.int .i64 q4,.int .i64 q5,.bool true] Z8W rfl (rest:=[]) rfl rfl)) .nil) rfl ⟨m18,ws,[q0,q1,q2,q3,q4,q5],true,rfl,.inl ⟨rfl,⟨[q0,q1,q2,q3,q4,q5],fr,by_,dd,ra,rk⟩,cur++nxt,rfl,hsj.bi,hc3⟩,hsj.ins,rfl,rfl⟩ (fun w h=>h.del b6)
      ·
       try simp only [cS] at hc3
       have hmd:d.y.mds [q0,q1,q2,q3,q4,q5]=false:=by simpa using hc3
       have hpop:=hsj.pop hmd
       have hdn:n=dd:=(hsj.c ⟨[q0,q1,q2,q3,q4,q5],fr,by_,dd,ra,rk⟩ (by simp)).symm
       subst hdn
       refine Z1 (sqt 3 rfl (pur 1 rfl (spL rfl rfl (lhA (Za [q0,q1,q2,q3,q4,q5]) ZU rfl (rest:=[]) rfl rfl) rfl ?_)))
       refine cl rfl Zh5 rfl rfl (Z1R d [q0,q1,q2,q3,q4,q5] rfl _ _) ?_
       rintro _ _ _ ⟨x1,x2,rfl,rfl,rfl⟩
       refine Sy.heap (H':=(b12,cel 119 (Za [q0,q1,q2,q3,q4,q5]))::(c11,cel 3 [.int .i64 ((cur.length+nxt.length:Nat):Int)])::(c10,cel 3 [.int .i64 (n:Int)])::(m33,Zz true (dkv (dl++[[q0,q1,q2,q3,q4,q5]])))::(b8,cel 333 [.map (some m26)])::(m26,Z1T n (qkv n (.slice a2 cur.length (c-1)) nxt o.fs))::(b7,cel 126 [.map (some m18),.int .i64 0,.int .i64 0,.int .i64 0,.int .i64 0,.int .i64 0,.int .i64 0,.bool false])::(m18,Zz true (wkv (fun k:Nat=>(k:Int)) ws))::(b6,cel 126 [.map none,.int .i64 0,.int .i64 0,.int .i64 0,.int .i64 0,.int .i64 0,.int .i64 0,.bool false])::(b4,cel 192 [.func (.func 81) #[] #[]])::(o.G++(mkh mk++H))) (R':=WF ws::RowsA (some ⟨x2,0,none⟩) 6 [Za [q0,q1,q2,q3,q4,q5]]::RowsA (some ⟨x1,0,none⟩) 1 [[.pointer (some ⟨d.bd,0,none⟩)]]::RowsA a2 6 (qrs cur)::R) (fun w h=>St.sub (A:=WF ws::RowsA (some ⟨x2,0,none⟩) 6 [Za [q0,q1,q2,q3,q4,q5]]::RowsA (some ⟨x1,0,none⟩) 1 [[.pointer (some ⟨d.bd,0,none⟩)]]::RowsA a2 6 (qrs cur)::R) h) ?_
       refine Z3 ?_
       refine Z1g rfl Zhk (fun c0 bl0 bd0 hcp0 hca0 hcb0 hck0=>?_)
       refine ⟨fun st pend T R'=>st = .ready∧pend=none∧∃ (ws' nxt':List Rec) (o':OSl 119 6 (qrs nxt')),SR d.y n (2*(117649-ws.length)+(cur.length+1+nxt.length)) ws' cur nxt' (dl++[[q0,q1,q2,q3,q4,q5]]) ⟨[q0,q1,q2,q3,q4,q5],fr,by_,n,ra,rk⟩ ((d.y.mvs [q0,q1,q2,q3,q4,q5]).length)∧(nxt'=[]→o'.fs = .slice none 0 0)∧T=(bd0,.deferred (some []))::(b12,cel 119 (Za [q0,q1,q2,q3,q4,q5]))::(c11,cel 3 [.int .i64 ((cur.length+nxt'.length:Nat):Int)])::(c10,cel 3 [.int .i64 (n:Int)])::(m33,Zz true (dkv (dl++[[q0,q1,q2,q3,q4,q5]])))::(b8,cel 333 [.map (some m26)])::(m26,Z1T n (qkv n (.slice a2 cur.length (c-1)) nxt' o'.fs))::(b7,cel 126 [.map (some m18),.int .i64 0,.int .i64 0,.int .i64 0,.int .i64 0,.int .i64 0,.int .i64 0,.bool false])::(m18,Zz true (wkv (fun k:Nat=>(k:Int)) ws'))::(b6,cel 126 [.map none,.int .i64 0,.int .i64 0,.int .i64 0,.int .i64 0,.int .i64 0,.int .i64 0,.bool false])::(b4,cel 192 [.func (.func 81) #[] #[]])::(o'.G++(mkh mk++H))∧R'=WF ws'::RowsA (some ⟨x2,0,none⟩) 6 [Za [q0,q1,q2,q3,q4,q5]]::RowsA (some ⟨x1,0,none⟩) 1 [[.pointer (some ⟨d.bd,0,none⟩)]]::RowsA a2 6 (qrs cur)::R,
         Fn.mono (ZeO d hy [q0,q1,q2,q3,q4,q5] rfl x1 x2 bl0 (fun k H' R'=>∃ (ws' nxt':List Rec) (o':OSl 119 6 (qrs nxt')),SR d.y n (2*(117649-ws.length)+(cur.length+1+nxt.length)) ws' cur nxt' (dl++[[q0,q1,q2,q3,q4,q5]]) ⟨[q0,q1,q2,q3,q4,q5],fr,by_,n,ra,rk⟩ (k)∧(nxt'=[]→o'.fs = .slice none 0 0)∧H'=(bl0,lob c0 .ready none)::(bd0,.deferred (some []))::(b12,cel 119 (Za [q0,q1,q2,q3,q4,q5]))::(c11,cel 3 [.int .i64 ((cur.length+nxt'.length:Nat):Int)])::(c10,cel 3 [.int .i64 (n:Int)])::(m33,Zz true (dkv (dl++[[q0,q1,q2,q3,q4,q5]])))::(b8,cel 333 [.map (some m26)])::(m26,Z1T n (qkv n (.slice a2 cur.length (c-1)) nxt' o'.fs))::(b7,cel 126 [.map (some m18),.int .i64 0,.int .i64 0,.int .i64 0,.int .i64 0,.int .i64 0,.int .i64 0,.bool false])::(m18,Zz true (wkv (fun k:Nat=>(k:Int)) ws'))::(b6,cel 126 [.map none,.int .i64 0,.int .i64 0,.int .i64 0,.int .i64 0,.int .i64 0,.int .i64 0,.bool false])::(b4,cel 192 [.func (.func 81) #[] #[]])::(o'.G++(mkh mk++H))∧R'=WF ws'::RowsA (some ⟨x2,0,none⟩) 6 [Za [q0,q1,q2,q3,q4,q5]]::RowsA (some ⟨x1,0,none⟩) 1 [[.pointer (some ⟨d.bd,0,none⟩)]]::RowsA a2 6 (qrs cur)::R) (fun k H' R' h9=>?_) (fun k t H' R' hk h9=>?_) _ _ ⟨ws,nxt,o,hpop,hon,rfl,rfl⟩) (fun v H' R' h9=>?_),?_⟩
       · obtain ⟨ws1,nx1,o1,_,_,rfl,rfl⟩:=h9
         exact ⟨(inferInstance:MemRows (some ⟨x1,0,none⟩) 1 [[.pointer (some ⟨d.bd,0,none⟩)]] (WF ws1::RowsA (some ⟨x2,0,none⟩) 6 [Za [q0,q1,q2,q3,q4,q5]]::RowsA (some ⟨x1,0,none⟩) 1 [[.pointer (some ⟨d.bd,0,none⟩)]]::RowsA a2 6 (qrs cur)::R)).mem,(inferInstance:MemRows (some ⟨x2,0,none⟩) 6 [Za [q0,q1,q2,q3,q4,q5]] (WF ws1::RowsA (some ⟨x2,0,none⟩) 6 [Za [q0,q1,q2,q3,q4,q5]]::RowsA (some ⟨x1,0,none⟩) 1 [[.pointer (some ⟨d.bd,0,none⟩)]]::RowsA a2 6 (qrs cur)::R)).mem,(inferInstance:MemRows (some ⟨d.bd,0,none⟩) 8 [d.l] (WF ws1::RowsA (some ⟨x2,0,none⟩) 6 [Za [q0,q1,q2,q3,q4,q5]]::RowsA (some ⟨x1,0,none⟩) 1 [[.pointer (some ⟨d.bd,0,none⟩)]]::RowsA a2 6 (qrs cur)::R)).mem,(inferInstance:MemRows d.a1 1 (irows d.y.sizes) (WF ws1::RowsA (some ⟨x2,0,none⟩) 6 [Za [q0,q1,q2,q3,q4,q5]]::RowsA (some ⟨x1,0,none⟩) 1 [[.pointer (some ⟨d.bd,0,none⟩)]]::RowsA a2 6 (qrs cur)::R)).mem,(inferInstance:MemRows d.a2 3 (trows d.y.lots) (WF ws1::RowsA (some ⟨x2,0,none⟩) 6 [Za [q0,q1,q2,q3,q4,q5]]::RowsA (some ⟨x1,0,none⟩) 1 [[.pointer (some ⟨d.bd,0,none⟩)]]::RowsA a2 6 (qrs cur)::R)).mem⟩
       rotate_left
       · obtain ⟨ws1,nx1,o1,h1,h2,rfl,rfl⟩:=h9
         exact ⟨.ready,none,_,by simp,.refl _,rfl,rfl,ws1,nx1,o1,h1,h2,rfl,rfl⟩
       rotate_left
       obtain ⟨ws1,nx1,o1,hsr,hon1,rfl,rfl⟩:=h9
       have htm:=Ze6 (List.mem_of_getElem? hk)
       obtain ⟨u0,u1,u2,u3,u4,u5,hu⟩:=ZaT (show (([q0,q1,q2,q3,q4,q5]:List Int).set t.1.toNat t.2).length=6 by rw [List.length_set];rfl)
       have hfew1:=hsr.few hy
       have hct1:=hsr.ct
       have h61:∀ s∈ws1,s.q.length=6:=fun s hs=>(hsr.ins s hs).1
       have hfr1:=Zek (q:=[u0,u1,u2,u3,u4,u5]) (Zgn hsr.bj h61)
       refine Z7Q hcp0 hca0 hcb0 hck0 rfl ?_
       refine sqr 2 rfl (alc rfl ZbV rfl (fun b13=>?_))
       refine ZH (l':=[.int .i64 t.1,.int .i64 t.2]) rfl rfl rfl ZiQ rfl rfl rfl rfl (nl rfl) ?_
       refine ZK ?_
       refine Z3 (sqt 3 rfl (spL rfl rfl (lhA (Za [q0,q1,q2,q3,q4,q5]) ZU rfl (rest:=[]) rfl rfl) rfl (alc rfl Z4F rfl (fun b14=>?_))))
       refine Z4z rfl rfl rfl Z5g rfl rfl rfl (ZA _) ?_
       refine sqt 6 rfl (sp rfl (PE.fA Z6u rfl) rfl (spL rfl rfl (lh (v:=.int .i64 t.1) sc3 rfl rfl) rfl (sp rfl (PE.fA ZdW rfl) rfl (spL rfl rfl (lh (v:=.int .i64 t.2) sc3 rfl rfl) rfl (sp rfl (PE.indexArr Z9D rfl rfl (by omega) (by omega)) rfl ?_)))))
       refine ZH (l':=Za [u0,u1,u2,u3,u4,u5]) rfl rfl rfl cn3 rfl rfl rfl (by rw [← hu];exact Z7F (k:=t.1.toNat) (by show _<6;omega) (by show 0+t.1.toNat*1=_;omega)) (by show 0+t.1.toNat*1+1≤6;omega) ?_
       refine Z0 ?_
       refine Zb [0,0,2,0,14,31,63] (.ld 0 (.tk 1 (.ld 2 (.ld 3 (.big 4 (.tk 5 (.tk 6 .done))))))) Zo (by kernel_rfl) ?_
       refine ld rfl rfl (lh sc3 rfl rfl) rfl (tk rfl (PE.fA Zfe rfl) rfl (ld rfl rfl (lh Zk7 rfl rfl) rfl (ld rfl rfl (lhA [.int .i64 t.1,.int .i64 t.2] Zer rfl (rest:=[]) rfl rfl) rfl ?_)))
       refine Z5f rfl rfl (ZjD) rfl rfl (Zji _ _ _ _) ?_
       refine bg (fun w hs=>⟨trivial,trivial,(lh sc3 rfl rfl) w hs,trivial⟩) ?_
       refine tk rfl (PE.add rfl rfl (by omega)) rfl (Zl 1 rfl (Z0 (sqt 10 rfl (sp rfl (PE.fA Z2e rfl) rfl (spL rfl rfl (lh Z5G rfl rfl) rfl (spL rfl rfl (lhA (Za [u0,u1,u2,u3,u4,u5]) ZU rfl (rest:=[]) rfl rfl) rfl ?_))))))
       refine spK rfl rfl rfl (Z0L (b:=true) (wkv (fun k:Nat=>(k:Int)) ws1) [u0,u1,u2,u3,u4,u5] Z1B (KeyT.of Z0I Z13) (ZZ Z7R) rfl (Z1i h61) true) rfl ?_
       rw [Z8U (f:=(fun k:Nat=>(k:Int))) rfl]
       refine pur 3 rfl (alc rfl Z9o rfl (fun b16=>?_))
       refine Z4z (vs:=wyl (fun k:Nat=>(k:Int)) ((wfd ws1 [u0,u1,u2,u3,u4,u5]).getD Z9x)) rfl rfl rfl ZhI rfl (ZbT hfr1) rfl (ZbU _ _) ?_
       refine pur 1 rfl (Z0 ?_)
       refine Zb [0,1,3,3,11,27,63,3,131,511,1023] (tks 0 4 (.ld 4 (.tk 7 (.ld 8 (.big 5 (.big 6 (.tk 9 (.tk 10 .done)))))))) Zo (by kernel_rfl) ?_
       refine Zl 2 rfl ?_
       refine Zv 95 rfl ?_ ?_<;>intro g95
       obtain ⟨x9,hx9⟩:=Option.isSome_iff_exists.1 g95
       obtain ⟨hx1,hx2⟩:=Z2U hx9
       have hd9:((wfd ws1 [u0,u1,u2,u3,u4,u5]).getD Z9x).d≤n+1:=by rw [hx9];exact hsr.bj.top x9 hx1
       refine Zl 1 rfl ?_
       refine tkG rfl rfl rfl rfl (PE.fA Zaz rfl) rfl ?_
       refine ldG rfl rfl rfl rfl rfl (lh (v:=.int .i64 ((((wfd ws1 [u0,u1,u2,u3,u4,u5]).getD Z9x).d:Nat):Int)) sc3 rfl (Z4w hfr1)) rfl ?_
       refine tkG rfl rfl rfl rfl (PE.fA Zaz rfl) rfl ?_
       refine ldG rfl rfl rfl rfl rfl (lh (v:=.int .i64 ((((wfd ws1 [u0,u1,u2,u3,u4,u5]).getD Z9x).d:Nat):Int)) sc3 rfl (Z4w hfr1)) rfl ?_
       refine ZkK (out:=[_]) rfl rfl rfl rfl Z18 zl3 rfl rfl rfl rfl rfl rfl (fun b99=>?_)
       refine bg (fun w hs=>⟨(lh (v:=.int .i64 ((((wfd ws1 [u0,u1,u2,u3,u4,u5]).getD Z9x).d:Nat):Int)) sc3 rfl (Z4w hfr1)) w hs,trivial,trivial⟩) ?_
       refine Z6e rfl rfl rfl rfl Zh6 rfl rfl (ZeM _ _ b99 _ _ _) ?_
       refine bg (fun w hs=>⟨(lh (v:=.int .i64 ((((wfd ws1 [u0,u1,u2,u3,u4,u5]).getD Z9x).d:Nat):Int)) sc3 rfl (Z4w hfr1)) w hs,trivial⟩) ?_
       refine Zl 2 rfl ?_
       refine Z2 rfl ?_ ?_<;>intro hc4
       refine Z7 (Z9 (Zk ?_))
       exact Zn ⟨rfl,ws1,nx1,o1,hsr.skip hk hx1 (hx2.trans hu.symm),hon1,rfl,rfl⟩ (fun w h=>(((h.del b99).del b16).del b14).del b13)
       exact absurd hc4 (by simp;omega)
       have hno:∀ s∈ws1,s.q≠[u0,u1,u2,u3,u4,u5]:=Z5X (by simpa using g95)
       obtain ⟨hmore,hN⟩:=hsr.more hy hk (by dsimp only;rw [hu];exact hno) (some ⟨0,0,none⟩) 1
       clear hmore
       refine Zl 2 rfl ?_
       refine ldN rfl rfl rfl rfl rfl rfl rfl rfl ?_
       refine Zl 1 rfl ?_
       refine ldN rfl rfl rfl rfl rfl rfl rfl rfl ?_
       refine spN rfl rfl rfl rfl rfl rfl rfl rfl ?_
       refine bg (fun w hs=>⟨((fun _ _=>True.intro)) w hs,trivial,trivial⟩) ?_
       refine spN rfl rfl rfl rfl rfl rfl rfl rfl ?_
       refine bg (fun w hs=>⟨((fun _ _=>True.intro)) w hs,trivial⟩) ?_
       refine Zl 2 rfl ?_
       refine Zq rfl ?_
       refine Z1 (sqt 9 rfl (sp rfl (PE.fA Z2e rfl) rfl (spL rfl rfl (lh Z5G rfl rfl) rfl (spL rfl rfl (lhA (Za [u0,u1,u2,u3,u4,u5]) ZU rfl (rest:=[]) rfl rfl) rfl (spL rfl rfl (lhA (Za [q0,q1,q2,q3,q4,q5]) ZU rfl (rest:=[]) rfl rfl) rfl (spL rfl rfl (lhA [.int .i64 t.1,.int .i64 t.2] Zer rfl (rest:=[]) rfl rfl) rfl ?_))))))
       refine bsl (out:=[_,_]) rfl Zg9 ZbV rfl rfl rfl rfl rfl rfl (fun b110=>?_)
       refine pur 1 rfl (sp rfl (PE.build (out:=[_,_,_,_,_,_,_,_]) ZcZ Z9o rfl rfl) rfl ?_)
       refine mpu (wkv (fun k:Nat=>(k:Int)) ws1) [u0,u1,u2,u3,u4,u5] (v:=wyv (fun k:Nat=>(k:Int)) ⟨[u0,u1,u2,u3,u4,u5],[q0,q1,q2,q3,q4,q5],[t],n+1,some ⟨b110,0,none⟩,1⟩) rfl Z1B (KeyT.of Z0I Z13) rfl rfl rfl rfl (Z1i h61) ?_
       refine Z0 ?_
       refine Zb [0,0,0,0,12,0,32,124,255] (.ld 0 (.tk 1 (.ld 2 (.tk 3 (.ld 4 (.ld 5 (.big 6 (.big 7 (.big 8 .done))))))))) Zo (by kernel_rfl) ?_
       rw [ZbR (fun k:Nat=>(k:Int)) (r:=⟨[u0,u1,u2,u3,u4,u5],[q0,q1,q2,q3,q4,q5],[t],n+1,some ⟨b110,0,none⟩,1⟩) hno]
       refine Sy.heap (fun w h=>St.sub (A:=WF (ws1++[⟨[u0,u1,u2,u3,u4,u5],[q0,q1,q2,q3,q4,q5],[t],n+1,some ⟨b110,0,none⟩,1⟩])::RowsA (some ⟨x2,0,none⟩) 6 [Za [q0,q1,q2,q3,q4,q5]]::RowsA (some ⟨x1,0,none⟩) 1 [[.pointer (some ⟨d.bd,0,none⟩)]]::RowsA a2 6 (qrs cur)::R) (St.wfSnoc (ws:=ws1) (r:=⟨[u0,u1,u2,u3,u4,u5],[q0,q1,q2,q3,q4,q5],[t],n+1,some ⟨b110,0,none⟩,1⟩) (m2:=(inferInstance:MemRows (some ⟨b110,0,none⟩) 2 [[.int .i64 t.1,.int .i64 t.2]] _)) (ZaJ (row:=[.int .i64 t.1,.int .i64 t.2]) (h.pull b110) rfl))) ?_
       refine ld rfl rfl (lh Z4D rfl rfl) rfl (Zl 1 rfl (ld rfl rfl (lh Z4D rfl rfl) rfl (Zl 1 rfl ?_)))
       refine ldK rfl rfl rfl (Z2C (qkv n (.slice a2 cur.length (c-1)) nx1 o1.fs) [(n:Int)+1] Z2F (KeyT.of Z6o Z6H) (ZZ ZbX) rfl (Z1D _ _ _ _) (Zbl hon1)) rfl ?_
       refine ld rfl rfl (lhA (Za [u0,u1,u2,u3,u4,u5]) ZU rfl (rest:=[]) rfl rfl) rfl ?_
       refine bsl (out:=[_,_,_,_,_,_]) rfl Z9i Z4F rfl rfl rfl rfl rfl rfl (fun b119=>?_)
       refine bg (fun w hs=>⟨trivial,(Z2C (qkv n (.slice a2 cur.length (c-1)) nx1 o1.fs) [(n:Int)+1] Z2F (KeyT.of Z6o Z6H) (ZZ ZbX) rfl (Z1D _ _ _ _) (Zbl hon1)) w hs,(lh Z4D rfl rfl) w hs,(lh Z4D rfl rfl) w hs,trivial⟩) ?_
       refine apO (o1) rfl Zgi rfl rfl (Z0B (row:=Za [u0,u1,u2,u3,u4,u5]) rfl) rfl rfl ((by rw [Z4k];simp only [List.length_cons,List.length_nil];omega)) rfl (fun o120=>?_)
       refine bg (fun w hs=>⟨trivial,trivial,(lh Z4D rfl rfl) w hs,trivial⟩) ?_
       refine Zkw (qkv n (.slice a2 cur.length (c-1)) nx1 o1.fs) [(n:Int)+1] rfl Z2F (KeyT.of Z6o Z6H) rfl rfl rfl rfl (Z1D _ _ _ _) ?_
       rw [Zd3 (r:=⟨[u0,u1,u2,u3,u4,u5],[q0,q1,q2,q3,q4,q5],[t],n+1,some ⟨b110,0,none⟩,1⟩)]
       refine bgT (sqr 3 rfl (spL rfl rfl (lh sc3 rfl rfl) rfl (sp rfl (PE.add rfl rfl (by omega)) rfl ?_)))
       refine sto rfl rfl rfl cn3 rfl rfl rfl rfl ?_
       obtain ⟨hmore,_⟩:=hsr.more hy hk (by dsimp only;rw [hu];exact hno) (some ⟨b110,0,none⟩) 1
       dsimp only at hmore
       rw [hu] at hmore
       exact Zn ⟨rfl,ws1++[⟨[u0,u1,u2,u3,u4,u5],[q0,q1,q2,q3,q4,q5],[t],n+1,some ⟨b110,0,none⟩,1⟩],nx1++[⟨[u0,u1,u2,u3,u4,u5],[q0,q1,q2,q3,q4,q5],[t],n+1,some ⟨b110,0,none⟩,1⟩],o120.cast (Zbm nx1 ⟨[u0,u1,u2,u3,u4,u5],[q0,q1,q2,q3,q4,q5],[t],n+1,some ⟨b110,0,none⟩,1⟩),hmore,fun e=>absurd e (by simp),rfl,rfl⟩ (fun w h=>by
         rw [show ((cur.length+(nx1++[(⟨[u0,u1,u2,u3,u4,u5],[q0,q1,q2,q3,q4,q5],[t],n+1,some ⟨b110,0,none⟩,1⟩:Rec)]).length:Nat):Int)=((cur.length+nx1.length:Nat):Int)+1 by simp;omega]
         exact (((h.del b119).del b16).del b14).del b13)
       rintro _ _ _ _ ⟨rfl,rfl,ws1,nx1,o1,hsr,hon1,rfl,rfl⟩
       refine Z6U ?_
       have hms:=hsr.ms
       exact Z1Z ⟨⟨((ws1,cur,nx1,dl++[[q0,q1,q2,q3,q4,q5]]),(a2,c-1),bd0::mk),hsr.done (by have:=hsj.ms.1;rw [List.length_cons] at this;exact this),by dsimp only;omega⟩,o1,hon1⟩ (by dsimp only;rw [List.length_cons];omega) sbA rfl (fun w h=>St.sub ((h.del b12).perm (Zdk [_,_,_,_,_,_,_,_,_] _ _ _ _)))
    obtain rfl:cur=[]:=List.length_eq_zero_iff.1 (by omega)
    obtain ⟨hnx,hms⟩:=hsj.next
    unfold qkv
    obtain ⟨an,cn,he,hcn,hfz⟩:=Z4j o
    rw [Z4k] at he hcn
    rw [he]
    refine Z7 (Z9 (Z9 (Zk (sqr 3 rfl (spL rfl rfl (lh Z4D rfl rfl) rfl (spL rfl rfl (lh sc3 rfl rfl) rfl ?_))))))
    refine ZkP (bif nxt.isEmpty then [] else [([(n:Int)+1],.slice an nxt.length cn)]) [(n:Int)] rfl rfl Z2F (KeyT.of Z6o Z6H) rfl rfl rfl (Z1D n _ nxt _) ?_
    refine Z0 (sqt 2 rfl (spL rfl rfl (lh sc3 rfl rfl) rfl (spL rfl rfl (lh sc3 rfl rfl) rfl (sqr 4 rfl (alc rfl zl3 rfl (fun b10=>?_))))))
    refine sto rfl rfl rfl cn3 rfl rfl rfl rfl ?_
    refine alc rfl zl3 rfl (fun b11=>?_)
    refine sto rfl rfl rfl cn3 rfl rfl rfl rfl ?_
    refine sqr 3 rfl (spL rfl rfl (lh sc3 rfl rfl) rfl (sp rfl (PE.add rfl rfl (by omega)) rfl ?_))
    refine sto rfl rfl rfl cn3 rfl rfl rfl rfl ?_
    exact Z1Z ⟨((b10,b11),n+1,(ws,nxt,dl),(an,cn),mk),hnx,hcn⟩ (by dsimp only;omega) sbA rfl (fun w h=>by
      rw [List.length_nil,Nat.zero_add] at h
      exact St.sub (hfz (((h.del c11).del c10).perm (Zii [_,_,_,_,_,_,_,_,_] _ _))))
  obtain rfl:cur=[]:=List.length_eq_zero_iff.1 (by omega)
  refine Z7 (Z9 (Z9 (Zk (sqt 2 rfl (spL rfl rfl (lhA [.map (some m18),.int .i64 0,.int .i64 0,.int .i64 0,.int .i64 0,.int .i64 0,.int .i64 0,.bool false] Z8W rfl (rest:=[]) rfl rfl) rfl ?_)))))
  refine ZH (l':=[.map (some m18),.int .i64 0,.int .i64 0,.int .i64 0,.int .i64 0,.int .i64 0,.int .i64 0,.bool false]) rfl rfl rfl Zai rfl rfl rfl rfl (nl rfl) ?_
  refine Z4 ?_
  refine Sy.heap (H':=mkh mk++((b6,cel 126 [.map (some m18),.int .i64 0,.int .i64 0,.int .i64 0,.int .i64 0,.int .i64 0,.int .i64 0,.bool false])::H)) (R':=(fun w=>w.heap[m18]?=some (Zz true (wkv (fun k:Nat=>(k:Int)) ws)))::WF ws::R) (fun w h=>by
    have h2:=St.freeze ((((((((h.del c11).del c10).del m33).del b8).del m26).del b7).del b4).pull m18)
    exact St.sub (h2.perm (List.perm_middle (l₁:=mkh mk)).symm)) ?_
  exact ZO mk idH rfl (.cons (RV.cell rfl (lhA [.map (some m18),.int .i64 0,.int .i64 0,.int .i64 0,.int .i64 0,.int .i64 0,.int .i64 0,.bool false] Z8W rfl (rest:=[]) rfl rfl)) .nil) rfl ⟨m18,ws,List.replicate 6 0,false,rfl,.inr ⟨rfl,rfl,hso.bi⟩,hso.ins,rfl,rfl⟩ (fun w h=>h.del b6)
theorem ZkH:apT Tryz.prog 40=some (45,1,24):=by kernel_rfl
theorem ZjH:cal Tryz.prog 91=true:=by kernel_rfl
theorem Zkv:ZF Tryz.prog 45=some 1:=by kernel_rfl
theorem ZdR:elN Tryz.prog 40=some 1:=by kernel_rfl
theorem ZhW:Tryz.prog.eqGuardType Tryz.prog.depth 119=false:=by kernel_rfl
theorem Z97:Z2y Tryz.prog 40=true:=by kernel_rfl
theorem ZfK:Z0h Tryz.prog 45=true:=by kernel_rfl
theorem ZkU:slE Tryz.prog 40=some (45,1):=by kernel_rfl
theorem ZkX:Zr Tryz.prog 45=some ([.slice none 0 0]):=by kernel_rfl
theorem Z2O {p q s vs:List Value} (h:q.length=vs.length):spl (p++(q++s)) p.length vs=p++(vs++s):=by
 unfold spl
 rw [List.take_left,show p.length+vs.length=(p++q).length by simp [h],← List.append_assoc p q s,List.drop_left,List.append_assoc]
def slv (r:Rec):Value:=.slice r.a r.by_.length r.c
def slr (l:List Rec):List (List Value):=l.map fun r=>[slv r]
theorem Z3d (l:List Rec):(slr l).length=l.length:=List.length_map _
theorem Z5L:∀ l:List Rec,(slr l).flatten=l.map slv
 | []=>rfl
 | r::l=>by show [slv r]++(slr l).flatten=_;rw [Z5L l];rfl
theorem slr_get {l:List Rec} {k:Nat} {r:Rec} (h:l[k]?=some r):(slr l)[k]?=some [slv r]:=by simp [slr,h]
def rg (l:List Rec) (k:Nat):Rec:=l.getD k Z9x
theorem Zbr {l:List Rec} {k:Nat} (h:k<l.length):l[k]?=some (rg l k):=by
 unfold rg;rw [List.getD_eq_getElem?_getD,List.getElem?_eq_getElem h];rfl
theorem Zee {l:List Rec} {i k:Nat} {v:Rec} (hi:i<l.length):rg (l.set i v) k=bif decide (i=k) then v else rg l k:=by
 unfold rg
 rw [List.getD_eq_getElem?_getD,List.getElem?_set]
 by_cases e:i=k
 · subst e;rw [if_pos rfl,if_pos hi,decide_eq_true rfl];rfl
 · rw [if_neg e,decide_eq_false e,cond_false,List.getD_eq_getElem?_getD]
theorem ZbD {xs:List Rec} {junk:List Value} {k:Nat} (h:k<xs.length) (v:Rec):spl (xs.map slv++junk) (0+((k:Nat):Int).toNat*1) [slv v]=(xs.set k v).map slv++junk:=by
 rw [show 0+((k:Nat):Int).toNat*1=k by omega]
 obtain ⟨A,y,B,rfl,rfl⟩:∃ A y B,xs=A++y::B∧k=A.length:=⟨xs.take k,xs[k],xs.drop (k+1),by rw [← List.drop_eq_getElem_cons h,List.take_append_drop],by rw [List.length_take];omega⟩
 have h1:=Z2O (p:=A.map slv) (q:=[slv y]) (s:=B.map slv++junk) (vs:=[slv v]) rfl
 rw [List.length_map] at h1
 rw [show (A++y::B).map slv++junk=A.map slv++([slv y]++(B.map slv++junk)) by simp,h1]
 simp
theorem Zed {xs:List Rec} {junk:List Value} {k:Nat} (h:k<xs.length):(xs.map slv++junk)[0+((k:Nat):Int).toNat*1]?=some (slv (rg xs k)):=by
 rw [show 0+((k:Nat):Int).toNat*1=k by omega,List.getElem?_append_left (by rw [List.length_map];exact h),List.getElem?_map,Zbr h];rfl
def RevI (l xs:List Rec) (i:Nat):Prop:=xs.length=l.length∧∀ p<l.length,rg xs p=bif decide (p<i∨l.length≤p+i) then rg l (l.length-1-p) else rg l p
theorem RevI.start (l:List Rec):RevI l l 0:=⟨rfl,fun p hp=>by rw [decide_eq_false (by omega)];rfl⟩
theorem RevI.step {l xs:List Rec} {i:Nat} (h:RevI l xs i) (hi:i+i+1<l.length):RevI l ((xs.set i (rg xs (l.length-1-i))).set (l.length-1-i) (rg xs i)) (i+1):=by
 have hl:=h.1
 refine ⟨by rw [List.length_set,List.length_set];exact hl,fun p hp=>?_⟩
 rw [Zee (by rw [List.length_set];omega)]
 by_cases h1:l.length-1-i=p
 · rw [decide_eq_true h1,cond_true,h.2 i (by omega),decide_eq_false (by omega),decide_eq_true (by omega),cond_true,cond_false]
   congr 1;omega
 · rw [decide_eq_false h1,cond_false,Zee (by omega)]
   by_cases h2:i=p
   · subst h2
     rw [decide_eq_true rfl,cond_true,h.2 _ (by omega),decide_eq_false (by omega),cond_false,decide_eq_true (by omega)];rfl
   · rw [decide_eq_false h2,cond_false,h.2 p hp]
     have:(p<i∨l.length≤p+i)↔(p<i+1∨l.length≤p+(i+1)):=by omega
     rw [decide_eq_decide.2 this]
theorem RevI.done {l xs:List Rec} {i:Nat} (h:RevI l xs i) (hi:l.length≤i+i+1):xs=l.reverse:=by
 apply List.ext_getElem?
 intro p
 rcases Nat.lt_or_ge p l.length with hp | hp
 · rw [Zbr (by rw [h.1];exact hp),List.getElem?_reverse hp,Zbr (by omega),h.2 p hp]
   by_cases h1:p<i∨l.length≤p+i
   · rw [decide_eq_true h1];rfl
   · rw [decide_eq_false h1,cond_false,show l.length-1-p=p by omega]
 · rw [List.getElem?_eq_none (by rw [h.1];exact hp),List.getElem?_eq_none (by rw [List.length_reverse];exact hp)]
theorem ZcX {P:Program} {d e s:Nat} (h:EQ P d true e s) (vs:List Value) (off:Nat) (w:World):(part e vs.toArray off).run P w = .ok (.agg ((vs.drop off).take s).toArray) w:=by
 unfold part
 simp only [Sem.run_bind,h.1.2,Result.andThen,if_true,Z3D h.1.1,Sem.run_pure]
 congr 2
 apply Array.toList_inj.1
 rw [Array.toList_extract]
 simp [List.extract_eq_take_drop,List.take_drop]
theorem PE.fieldA {P:Program} {L:Zm} {d:Option Tmp} {ty:TypeId} {pos:String} {af:Array Edge} {gg:Option (Nat×Bool)} {T k e o s:Nat} {x:Operand} {vs us:List Value} (hF:fTy P T k=some (e,o)) (hE:EQ P 10000 true e s) (hx:ev L x=some (.agg vs.toArray)) (hv:(vs.drop o).take s=us) :
   PE P L ⟨d,.field T x k,ty,pos,af,gg⟩ (.agg us.toArray):=fun ρ hρ w=>by
 subst hv
 unfold fTy at hF
 split at hF
 · rename_i fs hu
   obtain ⟨f,hf,he⟩:=Option.map_eq_some_iff.1 hF
   cases he
   simp only [execOp,hρ _ _ hx,Instr.field,Sem.run_bind,Sem.run_pure,run_underlying hu,Result.andThen,hf,asAgg,ZcX hE]
 · cases hF
theorem PE.fieldV {P:Program} {L:Zm} {d:Option Tmp} {ty:TypeId} {pos:String} {af:Array Edge} {gg:Option (Nat×Bool)} {T k e o:Nat} {x:Operand} {vs:List Value} {v:Value} (hF:fTy P T k=some (e,o)) (hE:Z0h P e=true) (hx:ev L x=some (.agg vs.toArray)) (hv:vs[o]?=some v) :
   PE P L ⟨d,.field T x k,ty,pos,af,gg⟩ v:=fun ρ hρ w=>by
 unfold fTy at hF
 split at hF
 · rename_i fs hu
   obtain ⟨f,hf,he⟩:=Option.map_eq_some_iff.1 hF
   cases he
   simp [execOp,hρ _ _ hx,Instr.field,Sem.run_bind,Sem.run_pure,run_underlying hu,Result.andThen,hf,asAgg,part,Z0s hE,hv]
 · cases hF
theorem ZiF {f:Nat→Int} {r:Rec} (h:r.fr.length=6):(wyl f r)[6]?=some (slv r):=by
 unfold wyl;rw [List.getElem?_append_right (by rw [Z6];omega),Z6,h];rfl
theorem ZiG {f:Nat→Int} {r:Rec} (h:r.fr.length=6):((wyl f r).drop 0).take 6=Za r.fr:=by
 unfold wyl;rw [List.drop_zero,List.take_append_of_le_length (by rw [Z6];omega),List.take_of_length_le (by rw [Z6];omega)]
def Wk (ed:Edg):List Int→List Rec→List Int→Prop
 | x,[],y=>x=y
 | x,r::rs,y=>r.fr=x∧r.by_∈ed x∧r.q=app x r.by_∧Wk ed r.q rs y
theorem Zgm {ed:Edg} {md:List Int→Bool} {x0:List Int} {ws pend:List Rec} (h:BI ed md x0 ws pend) (hi:∀ s∈ws,s.q.length=6):∀ s∈ws,s.fr.length=6:=fun s hs=>by
 rcases h.fr s hs with h1 | ⟨u,hu,h1,_⟩
 · rw [h1];rfl
 · rw [← h1];exact hi u hu
structure PL (ed:Edg) (ws:List Rec) (last r:Rec) (l:List Rec):Prop where
 rm:r∈ws
 lm:∀ x∈l,x∈ws
 n:l.length+r.d=last.d
 w:Wk ed r.q l.reverse last.q
theorem PL.start {ed:Edg} {ws:List Rec} {last:Rec} (h:last∈ws):PL ed ws last last []:=⟨h,fun x hx=>(by cases hx),Nat.zero_add _,rfl⟩
theorem PL.next {ed:Edg} {md:List Int→Bool} {x0:List Int} {ws pend:List Rec} (hb:BI ed md x0 ws pend) {last r:Rec} {l:List Rec} (h:PL ed ws last r l) (hn:r.q≠x0):∃ s∈ws,s.q=r.fr∧s.d<r.d∧PL ed ws last s (l++[r]):=by
 rcases hb.fr r h.rm with h1 | ⟨s,hs,h1,h2,h3,h4⟩
 · exact absurd (by rw [h1];rfl) hn
 · refine ⟨s,hs,h1,by omega,hs,fun x hx=>?_,?_,?_⟩
   · rcases List.mem_append.1 hx with h5 | h5
     · exact h.lm x h5
     · rw [List.mem_singleton.1 h5];exact h.rm
   · have:=h.n;rw [List.length_append,List.length_singleton];omega
   · rw [List.reverse_append,List.reverse_singleton,List.singleton_append]
     exact ⟨h1.symm,h3,h4,h.w⟩
theorem PL.done {ed:Edg} {md:List Int→Bool} {x0:List Int} {ws pend:List Rec} (hb:BI ed md x0 ws pend) {last r:Rec} {l:List Rec} (h:PL ed ws last r l) (hn:r.q=x0):l.length=last.d∧Wk ed x0 l.reverse last.q:=by
 have h1:r=rst x0:=hb.uniq h.rm hb.st hn
 have h2:=h.n
 have h3:=h.w
 rw [hn] at h3
 rw [h1] at h2
 exact ⟨by simpa [rst] using h2,h3⟩
theorem Z6Y {ed:Edg} {md:List Int→Bool} {x0:List Int} {ws pend:List Rec} (hb:BI ed md x0 ws pend) {r:Rec} (h:r∈ws):wfd ws r.q=some r:=by
 cases hw:wfd ws r.q with
 | none=>exact absurd rfl (Z5X hw r h)
 | some s=>rw [hb.uniq (Z2U hw).1 h (Z2U hw).2]
theorem Zdl {ed:Edg} {md:List Int→Bool} {x0:List Int} {ws pend:List Rec} (h:BI ed md x0 ws pend):∀ (n:Nat) (r:Rec),r∈ws→r.d=n→∀ k,k≤n→∃ s∈ws,s.d=k
 | n,r,hr,hd,k,hk=>by
   by_cases e:k=n
   · exact ⟨r,hr,by omega⟩
   · rcases h.fr r hr with h1 | ⟨s,hs,_,h2,_⟩
     · rw [h1] at hd;have:(0:Nat)=n:=hd;omega
     · obtain ⟨m,rfl⟩:∃ m,n=m+1:=⟨s.d,by omega⟩
       exact Zdl h m s hs (by omega) k (by omega)
theorem Z9E {ed:Edg} {md:List Int→Bool} {x0:List Int} {ws pend:List Rec} (h:BI ed md x0 ws pend) {r:Rec} (hr:r∈ws):r.d<ws.length:=by
 have h1:=Z14 (l:=List.range (r.d+1)) (m:=ws.map (·.d)) List.nodup_range (fun k hk=>by
   obtain ⟨s,hs,e⟩:=Zdl h r.d r hr rfl k (by have:=List.mem_range.1 hk;omega)
   exact List.mem_map.2 ⟨s,hs,e⟩)
 rw [List.length_range,List.length_map] at h1
 omega
theorem Za7 (l:List Rec) (b cap:Nat) (junk:List Value) (hl:l.length≤1000000) (H:Z8) (R:Z5) :
    Fn Tryz.prog 91 [.slice (some ⟨b,0,none⟩) l.length cap] ((b,cel 45 ((l).map slv++junk))::H) R (fun v H' R'=>v = .tuple #[]∧H'=(b,cel 45 ((l.reverse).map slv++junk))::H∧R'=R):=by
 refine Ze Tryz.func91 rfl Tryz.ntmps91 rfl ?_
 refine sqt 5 rfl (pur 1 rfl (sp rfl (PE.lenSl Z97 rfl) rfl (sp rfl (PE.sub rfl rfl (by omega)) rfl ?_)))
 rw [show (l.length:Int)-1=(l.length:Int)-1-((0:Nat):Int) from by omega]
 refine pur 2 rfl (Z3 ?_)
 refine Zd (ι:={x:Nat×List Rec // x.1≤l.length∧RevI l x.2 x.1}) (fun x=>⟨[(0,.slice (some ⟨b,0,none⟩) l.length cap),(2,.int .i64 x.1.1),(3,.int .i64 ((l.length:Int)-1-x.1.1))],(b,cel 45 ((x.1.2).map slv++junk))::H,R⟩) (fun x=>l.length-x.1.1) ⟨(0,l),Nat.zero_le _,RevI.start l⟩ ?_ (fun x=>?_)
 exact Zj idH
 obtain ⟨⟨i,xs⟩,hi,hr⟩:=x
 dsimp only at hi hr ⊢
 have hxl:=hr.1
 refine Z0 (sqt 3 rfl (pur 3 rfl ?_))
 refine Z2 rfl ?_ ?_<;>intro hc0<;>try simp only [cS] at hc0
 have hii:i+i+1<l.length:=by omega
 rw [show (l.length:Int)-1-i=(((l.length-1-i):Nat):Int) from by omega]
 refine Z1 (Z0 (Z3 ?_))
 refine Zb [0,0,0,0,0,0,48,112,0,0,768,1792,4083,8179,16383,32767] (tks 0 7 (.ld 7 (tks 8 3 (.ld 11 (.tk 12 (.big 13 (.tk 14 (.big 15 .done)))))))) Zo (by kernel_rfl) ?_
 refine Zl 6 rfl (tk rfl (PE.indexAddr ZdR rfl rfl (by omega) (by omega)) rfl (ld rfl rfl (lh ZfK rfl (Zed (by omega))) rfl (Zl 2 rfl (tk rfl (PE.indexAddr ZdR rfl rfl (by omega) (by omega)) rfl (ld rfl rfl (lh ZfK rfl (Zed (by omega))) rfl (tk rfl (PE.indexAddr ZdR rfl rfl (by omega) (by omega)) rfl ?_))))))
 refine ZH (l':=((xs).set i (rg xs (l.length-1-i))).map slv++junk) rfl rfl rfl Zkv rfl rfl rfl (ZbD (show i<xs.length by omega) _) (by rw [List.length_append,List.length_map];show 0+((i:Nat):Int).toNat*1+1≤_;have:=(show i<xs.length by omega);omega) ?_
 refine bgT (tk rfl (PE.indexAddr ZdR rfl rfl (by omega) (by omega)) rfl ?_)
 refine ZH (l':=((xs.set i (rg xs (l.length-1-i))).set (l.length-1-i) (rg xs i)).map slv++junk) rfl rfl rfl Zkv rfl rfl rfl (ZbD (show (l.length-1-i)<(xs.set i (rg xs (l.length-1-i))).length by rw [List.length_set];omega) _) (by rw [List.length_append,List.length_map];show 0+(((l.length-1-i):Nat):Int).toNat*1+1≤_;have:=(show (l.length-1-i)<(xs.set i (rg xs (l.length-1-i))).length by rw [List.length_set];omega);omega) ?_
 refine bgT (sqr 6 rfl (pur 1 rfl (sp rfl (PE.add rfl rfl (by omega)) rfl (pur 1 rfl (sp rfl (PE.sub rfl rfl (by omega)) rfl (pur 2 rfl ?_))))))
 rw [show (((l.length-1-i):Nat):Int)-1=(l.length:Int)-1-((i+1:Nat):Int) from by omega]
 exact Zc ⟨(i+1,(xs.set i (rg xs (l.length-1-i))).set (l.length-1-i) (rg xs i)),by dsimp only;omega,hr.step hii⟩ idH
 obtain rfl:=hr.done (by omega)
 refine Z7 (Z9 (Z9 (Zk ?_)))
 exact Z1L (vs:=[]) rfl .nil rfl ⟨rfl,rfl,rfl⟩ idH
theorem Z7Z (H:Z8) (R:Z5) :
    FnV Tryz.prog 91 [.slice none 0 0] H R (.tuple #[]):=by
 refine Ze Tryz.func91 rfl Tryz.ntmps91 rfl ?_
 refine sqt 5 rfl (pur 1 rfl (sp rfl (PE.lenSl Z97 rfl) rfl (sp rfl (PE.sub rfl rfl (by omega)) rfl (pur 2 rfl (Z3 ?_)))))
 refine Zd (ι:=Unit) (fun _=>⟨[(2,.int .i64 0),(3,.int .i64 (-1))],H,R⟩) (fun x=>0) () ?_ (fun x=>?_)
 exact Zj idH
 refine Z0 (sqt 3 rfl (pur 3 rfl ?_))
 refine Z2 rfl ?_ ?_<;>intro hc0
 exact absurd hc0 (by decide)
 refine Z7 (Z9 (Z9 (Zk ?_)))
 exact Z1L (vs:=[]) rfl .nil rfl ⟨rfl,rfl,rfl⟩ idH
theorem Z3N (l:List Rec) (o:OSl 45 1 (slr l)) (hl:l.length≤1000000) (H:Z8) (R:Z5):Fn Tryz.prog 91 [o.fs] (o.G++H) R (fun v H' R'=>∃ o':OSl 45 1 (slr l.reverse),o'.fs=o.fs∧v = .tuple #[]∧H'=o'.G++H∧R'=R):=by
 have hir:=Z3d l
 have hrr:(slr l.reverse).length=l.length:=by rw [Z3d,List.length_reverse]
 rcases o.is with ⟨h1,h2,h3⟩ | ⟨b,cap,junk,h2,h3,hj,hc,hm⟩
 · have hx:l=[]:=List.map_eq_nil_iff.1 h1
   subst hx
   rw [h2,h3]
   exact Fn.mono (Z7Z H R) (by rintro v H' R' ⟨rfl,rfl,rfl⟩;exact ⟨OSl.nil _ _,rfl,rfl,rfl,rfl⟩)
 · rw [hir] at h2 hj hc
   rw [h2,h3,Z5L]
   exact Fn.mono (Za7 l b cap junk hl H R) (by
     rintro v H' R' ⟨rfl,rfl,rfl⟩
     exact ⟨⟨.slice (some ⟨b,0,none⟩) (slr l.reverse).length cap,[(b,cel 45 ((slr l.reverse).flatten++junk))],(fun r hr=>by obtain ⟨z,_,rfl⟩:=List.mem_map.1 hr;rfl),.inr ⟨b,cap,junk,rfl,rfl,by rw [hrr];exact hj,by rw [hrr];exact hc,hm⟩⟩,congrArg (fun q=>Value.slice (some ⟨b,0,none⟩) q cap) hrr,rfl,congrArg (fun q=>(b,cel 45 (q++junk))::H) (Z5L l.reverse).symm,rfl⟩)
set_option maxHeartbeats 800000 in
theorem Z7Y (d:TD) (hy:d.y.ok) (f:Nat→Int) (ed:Edg) (ws pend:List Rec) (last:Rec) (hlast:last∈ws) (hbi:BI ed d.y.mds d.y.first ws pend) (hin:∀ r∈ws,d.y.inS r.q) (is:Bool) (m:Nat) (H:Z8) (R:Z5) [hm:MemF (fun w=>w.heap[m]?=some (Zz true (wkv f ws))) R] [hw:MemF (WF ws) R] :
    Fn Tryz.prog 39 [.agg (.map (some m)::(Za last.q++[.bool is])).toArray,.agg (Za d.y.first).toArray] H R (fun v H' R'=>∃ (l:List Rec) (a:Option Addr) (c:Nat),v = .slice a l.length c∧l.length≤c∧l.length=last.d∧Wk ed d.y.first l last.q∧(∀ r∈l,r∈ws)∧H'=H∧R'=RowsA a 1 (slr l)::R):=by
 have hl:=hy.nl
 have hq6:∀ r∈ws,r.q.length=6:=fun r hr=>(hin r hr).1
 have hf6:=Zgm hbi hq6
 have hfw:=Z0y hy hbi.nd hin
 refine Ze Tryz.func39 rfl Tryz.ntmps39 rfl ?_
 refine sqt 3 rfl (bx rfl rfl rfl (fun b2=>bx rfl rfl rfl (fun b3=>pur 1 rfl (sqt 1 rfl (pur 1 rfl (Z0 (sqt 4 rfl (sp rfl (PE.fA Z5p rfl) rfl (spL rfl rfl (lhA (Za last.q) ZU rfl (rest:=[.bool is]) rfl (by rw [Z6];exact hq6 last hlast)) rfl (alc rfl Z4F rfl (fun b6=>?_)))))))))))
 refine Z4z rfl rfl rfl Z5g rfl (by rw [Z6];exact hq6 last hlast) rfl (ZA _) ?_
 refine Z3 ?_
 refine Zd (ι:=(x:{x:Nat×Rec×List Rec // PL ed ws last x.2.1 x.2.2})×OSl 45 1 (slr x.1.2.2)) (fun x=>⟨[(2,.pointer (some ⟨b2,0,none⟩)),(3,.pointer (some ⟨b3,0,none⟩)),(5,x.2.fs),(6,.pointer (some ⟨x.1.1.1,0,none⟩))],(x.1.1.1,cel 119 (Za x.1.1.2.1.q))::(b3,cel 119 (Za d.y.first))::(b2,cel 126 (.map (some m)::(Za last.q++[.bool is])))::(x.2.G++H),R⟩) (fun x=>x.1.1.2.1.d) ⟨⟨(b6,last,[]),PL.start hlast⟩,OSl.nil _ _⟩ ?_ (fun x=>?_)
 exact Zj idH
 obtain ⟨⟨⟨c6,r,l⟩,hpl⟩,o⟩:=x
 dsimp only at hpl o ⊢
 have h6:=hq6 r hpl.rm
 have hdl:=Z9E hbi hpl.rm
 have hd2:=Z9E hbi hlast
 have hpn:=hpl.n
 have hr6:=hf6 r hpl.rm
 refine Z0 (sqt 3 rfl (spL rfl rfl (lhA (Za r.q) ZU rfl (rest:=[]) (by simp) (by rw [Z6];exact h6)) rfl (spL rfl rfl (lhA (Za d.y.first) ZU rfl (rest:=[]) (by simp) (by rw [Z6];exact (d.y.first_len hl))) rfl (sp rfl (PE.neqAgg r.q d.y.first (Z1v 10000 119 true 6 Z0I) ZhW rfl rfl h6 (d.y.first_len hl)) rfl ?_))))
 refine Z2 rfl ?_ ?_<;>intro hc0<;>try simp only [cS] at hc0
 obtain ⟨s,hs,hsq,hsd,hpl2⟩:=hpl.next hbi hc0
 refine Z1 (Z0 (Z3 (sqr 9 rfl (pur 1 rfl (sp rfl (PE.fA Z2e rfl) rfl (spL rfl rfl (lh Z5G rfl rfl) rfl (spL rfl rfl (lhA (Za r.q) ZU rfl (rest:=[]) (by simp) (by rw [Z6];exact h6)) rfl ?_)))))))
 refine spK rfl rfl rfl (Z2B (b:=true) (v:=wyv f r) (wkv f ws) r.q Z1B (KeyT.of Z0I Z13) (ZZ Z7R) h6 (Z1i hq6) (fun w hs=>hs.now hm.mem) (by rw [Z3h,Z6Y hbi hpl.rm,Option.map_some,Option.getD_some])) rfl ?_
 refine sp rfl (PE.fieldV (vs:=wyl f r) (show fTy Tryz.prog 123 1=some (45,6) from by kernel_rfl) ZfK rfl (ZiF hr6)) rfl ?_
 refine bsl (out:=[_]) rfl ZkU ZkX rfl rfl rfl rfl rfl rfl (fun b23=>?_)
 refine apO (o) rfl ZkH rfl rfl (Z0B (row:=[slv r]) rfl) rfl rfl ((by rw [Z3d];simp only [List.length_cons,List.length_nil];omega)) rfl (fun o24=>?_)
 refine pur 1 rfl (Z0 (sqt 1 rfl (spL rfl rfl (lhA (Za r.q) ZU rfl (rest:=[]) (by simp) (by rw [Z6];exact h6)) rfl (sqr 2 rfl (alc rfl Z4F rfl (fun b6=>?_))))))
 refine Z4z rfl rfl rfl Z5g rfl (by rw [Z6];exact h6) rfl (ZA _) ?_
 refine sqr 6 rfl (sp rfl (PE.fA Z2e rfl) rfl (spL rfl rfl (lh Z5G rfl rfl) rfl (spL rfl rfl (lhA (Za r.q) ZU rfl (rest:=[]) (by simp) (by rw [Z6];exact h6)) rfl ?_)))
 refine spK rfl rfl rfl (Z2B (b:=true) (v:=wyv f r) (wkv f ws) r.q Z1B (KeyT.of Z0I Z13) (ZZ Z7R) h6 (Z1i hq6) (fun w hs=>hs.now hm.mem) (by rw [Z3h,Z6Y hbi hpl.rm,Option.map_some,Option.getD_some])) rfl ?_
 refine sp rfl (PE.fieldA (vs:=wyl f r) (us:=Za r.fr) (show fTy Tryz.prog 123 0=some (119,0) from by kernel_rfl) (Z1v 10000 119 true 6 Z0I) rfl (ZiG hr6)) rfl ?_
 refine Z4z rfl rfl rfl Z5g rfl (by rw [Z6];exact hr6) (by rw [Z6];exact h6) (ZA _) ?_
 exact Zc ⟨⟨(b6,s,l++[r]),hpl2⟩,o24.cast (by unfold slr;rw [List.map_append];rfl)⟩ (fun w h=>by dsimp only;rw [hsq];exact ((h.del b23).del c6))
 obtain ⟨hll,hwk⟩:=hpl.done hbi (by simpa using hc0)
 refine Sy.heap (H':=o.G++((c6,cel 119 (Za r.q))::(b3,cel 119 (Za d.y.first))::(b2,cel 126 (.map (some m)::(Za last.q++[.bool is])))::H)) (fun w h=>h.perm (Zii [_,_,_] _ _)) ?_
 refine Z7 (Z9 (Z9 (Zk (sqt 2 rfl (pur 1 rfl ?_)))))
 refine cl rfl ZjH rfl rfl (Z3N l o (by omega) _ _) ?_
 rintro _ _ R1 ⟨o2,hof,rfl,rfl,hR1⟩
 obtain rfl:=hR1.symm
 clear hR1
 rw [← hof]
 refine sqt 2 rfl (pur 2 rfl (Z4 ?_))
 obtain ⟨ao,co,he,hco,hfz⟩:=Z4j o2
 rw [Z3d] at he hco
 rw [he]
 exact rtA rfl rfl rfl ⟨l.reverse,ao,co,rfl,hco,by rw [List.length_reverse];exact hll,hwk,fun r hr=>hpl.lm r (List.mem_reverse.1 hr),rfl,rfl⟩ (fun w h=>hfz (((h.del c6).del b3).del b2))
theorem Zgk:apT Tryz.prog 45=some (47,2,16):=by kernel_rfl
theorem Zh7:cal Tryz.prog 228=true:=by kernel_rfl
theorem ik3:Z7l Tryz.prog 3=some .i64:=by kernel_rfl
theorem Z3s:Z2y Tryz.prog 45=true:=by kernel_rfl
section steps
variable {P:Program} {r:Option Nat} {ops:Array Oper} {n:Nat} {L:Zm} {D:List Deferred} {H:Z8} {R:Z5} {K:Act→World→Prop}
 {i d:Nat} {ty:TypeId} {pos:String} {af:Array Edge}
theorem Zjd {t tn e sz by_ k:Nat} {kq kn:IntKind} {s x:Operand} {zl:List Value} (ho:ops[i]?=some ⟨some d,.call { callee:=.builtin .append,args := #[s,x],argTypes := #[t,tn] },ty,pos,af,none⟩)
   (ht:apT P t=some (e,sz,by_)) (htn:Z7l P tn=some kn) (hz:Zr P e=some zl) (hs:ev L s=some (.slice none 0 0)) (hx:ev L x=some (.int kq k))
   (hk:0<k) (hs0:0<sz) (hb:k*by_≤140737488355328∧k≤9223372036854775807) (hd:Nat.blt d n=true)
   (h:∀ (b' cap':Nat) (junk:List Value),k≤cap'→cap'≤9223372036854775807→k*sz+junk.length=cap'*sz→Sy n ((d,.slice (some ⟨b',0,none⟩) k cap')::L) D ((b',cel e (Z0Y k zl++junk))::H) R K):Sy n L D H R (stp P r ops i K):=fun a w ha hD hw=>by
 unfold apT at ht
 split at ht
 case h_2=>cases ht
 rename_i e' hu
 split at ht
 case h_2=>cases ht
 rename_i ie hi
 split at ht
 case h_2=>cases ht
 rename_i z hzz
 cases hzs:Nat.beq z.cells.size ie.size with
 | false=>rw [hzs] at ht;cases ht
 | true =>
 rw [hzs,cond_true] at ht
 cases ht
 have hzs:=Nat.eq_of_beq_eq_true hzs
 have hzl:z.cells.toList=zl:=by
   have:Zr P e=some z.cells.toList:=by simp [Zr,hi,hzz]
   rw [this] at hz;exact Option.some.inj hz
 have hun:P.underlying tn=some (.int kn):=by
   unfold Z7l at htn
   split at htn
   · rename_i q hq;cases htn;exact hq
   · cases htn
 have hold:(Builtin.firstCells ie.size 0 (.slice none 0 0)).run P w.drew = .ok ([]:List Value).toArray w.drew:=by
   simp [Builtin.firstCells,Sem.run_pure]
 have h2:=Lib.run_append_grow_zeros (P:=P) w t tn ty e ie z kq kn hu hun hi hzz none 0 0 [] hold k hk hs0 (by omega) (by omega) (by omega) (growslice_fits (by omega) (by rw [Nat.zero_add];exact hb.1))
 rw [Nat.zero_add] at h2
 have hge:=grownCap_ge w k 0 e
 have hcm:grownCap w k 0 e≤maxLen:=grownCap_le_maxLen w _ 0 e (by simp only [maxLen];omega)
 have hrep:∀ q,(Builtin.zeroCells z.cells q).toList=Z0Y q zl:=fun q=>by rw [← hzl];simp [Builtin.zeroCells,Z0Y]
 have e1:(.cells (([]:List Value).toArray++Builtin.zeroCells z.cells k++Builtin.zeroCells z.cells (grownCap w k 0 e-k)) e:Obj)=cel e (Z0Y k zl++(Builtin.zeroCells z.cells (grownCap w k 0 e-k)).toList):=by
   unfold cel;congr 1;apply Array.toList_inj.1;simp [hrep]
 refine Zp ho (Zh _ rfl _) (v:=.slice (some ⟨w.heap.size,0,none⟩) k (grownCap w k 0 e)) (w':=w.drew.alloc (cel e (Z0Y k zl++(Builtin.zeroCells z.cells (grownCap w k 0 e-k)).toList))) ?_
   (h w.heap.size (grownCap w k 0 e) (Builtin.zeroCells z.cells (grownCap w k 0 e-k)).toList hge (by simp only [maxLen] at hcm;omega) ?_ _ _ (ha.put (by simpa using hd) _) hD (hw.drew.alloc _))
 · simp only [execOp,resolve,invoke,builtin,Sem.run_bind,Sem.run_pure,Result.andThen,List.map_toArray,List.map_cons,List.map_nil,ha.reads _ _ hs,ha.reads _ _ hx]
   rw [e1] at h2
   rw [h2]
 · simp only [Array.length_toList,size_zeroCells,hzs,← Nat.add_mul]
   congr 1;omega
end steps
theorem Zbq {k:Nat} {u v:Value}:(Z0Y k [u,v]).length=k*2:=by simp [Z0Y]
def Zaf (l:List Rec) (k:Nat):List (Int×Int):=(l.take k).flatMap (·.by_)
theorem Z6d {l:List Rec} {k:Nat} {x:Rec} (h:l[k]?=some x):Zaf l (k+1)=Zaf l k++x.by_:=by
 unfold Zaf
 rw [List.take_add_one,h,Option.toList_some,List.flatMap_append];simp
theorem Z5d (l:List Rec) (k:Nat):(Zaf l k).length≤(l.flatMap (·.by_)).length:=by
 unfold Zaf
 have h:l.flatMap (·.by_)=(l.take k).flatMap (·.by_)++(l.drop k).flatMap (·.by_):=by rw [← List.flatMap_append,List.take_append_drop]
 rw [h,List.length_append];omega
theorem St.wfAt {ws:List Rec} {H:Z8} {R:Z5} {w:World} {x:Rec} [m:MemF (WF ws) R] (h:St H R w) (hx:x∈ws):St H (RowsA x.a 2 (tor x.by_)::R) w:=h.also fun w9 hw=>hw _ m.mem x hx
theorem ZbM (l:List (Int×Int)):Z05 (tor l)=true:=by
 unfold Z05 tor
 rw [List.all_map]
 exact List.all_eq_true.2 fun t _=>rfl
theorem Zba {ed:Edg} {md:List Int→Bool} {x0:List Int} {ws pend:List Rec} (h:BI ed md x0 ws pend) (h1:∀ q l,l∈ed q→l.length≤1):∀ {l:List Rec},(∀ r∈l,r∈ws)→(l.flatMap (·.by_)).length≤l.length
 | [],_=>Nat.le_refl _
 | r::l,hl=>by
   have ih:=Zba h h1 (l:=l) (fun x hx=>hl x (by simp [hx]))
   rw [List.flatMap_cons,List.length_append,List.length_cons]
   have:r.by_.length≤1:=by
     rcases h.fr r (hl r (by simp)) with h2 | ⟨s,_,_,_,h3,_⟩
     · rw [h2];exact Nat.zero_le _
     · exact h1 _ _ h3
   omega
theorem Zf6 {b:TBn} (q:List Int) (l:List (Int×Int)) (h:l∈ed1 b q):l.length≤1:=by
 obtain ⟨t,_,rfl⟩:=List.mem_map.1 h;exact Nat.le_refl _
theorem Z76 (k:Nat) (hk:k≤1000000) (H:Z8) (R:Z5) :
    Fn Tryz.prog 228 [.slice none 0 0,.int .i64 (k:Int)] H R (fun v H' R'=>∃ o:OSl 47 2 [],v=o.fs∧H'=o.G++H∧R'=R):=by
 refine Ze Tryz.func228 rfl Tryz.ntmps228 rfl ?_
 refine sqt 1 rfl (pur 1 rfl (Z0 (sqt 2 rfl (pur 2 rfl ?_))))
 refine Z2 rfl ?_ ?_<;>intro hc0
 simp only [decide_eq_true_eq] at hc0
 omega
 refine Z1 (Z0 (sqt 8 rfl (pur 2 rfl (sp rfl (PE.capSl Z3s rfl) rfl (pur 1 rfl (sp rfl (PE.lenSl Z3s rfl) rfl (sp rfl (PE.sub rfl rfl (by omega)) rfl (sp rfl (PE.sub rfl rfl (by omega)) rfl ?_))))))))
 rw [show (k:Int)-(((0:Nat):Int)-((0:Nat):Int))=(k:Int) by omega]
 refine pur 1 rfl (sqt 2 rfl (pur 2 rfl ?_))
 refine Z2 rfl ?_ ?_<;>intro hc1
 try simp only [cS] at hc1
 refine sqr 10 rfl (pur 2 rfl (sp rfl (PE.capSl Z3s rfl) rfl (sp rfl (PE.slHi (h:=0) Zg9 rfl rfl (by omega)) rfl (pur 1 rfl ?_))))
 refine Zjd rfl Zgk ik3 ZbV rfl rfl (by omega) (by omega) (by omega) rfl (fun b2 cap2 jk2 hc1 hc2 hc3=>?_)
 refine pur 1 rfl (sp rfl (PE.lenSl Z3s rfl) rfl (sp rfl (PE.slHi (h:=0) Zg9 rfl rfl (by omega)) rfl (pur 1 rfl (sqt 2 rfl (pur 2 rfl (Z4 ?_))))))
 exact rtA rfl rfl rfl ⟨⟨.slice (some ⟨b2,0,none⟩) 0 cap2,[(b2,cel 47 (Z0Y k [.int .i64 0,.int .i64 0]++jk2))],by simp,.inr ⟨b2,cap2,Z0Y k [.int .i64 0,.int .i64 0]++jk2,rfl,rfl,by rw [List.length_append,Zbq];simp only [List.length_nil];omega,Nat.zero_le _,hc2⟩⟩,rfl,rfl,rfl⟩ idH
 refine Z1 (sqt 2 rfl (pur 2 rfl (Z4 ?_)))
 exact rtA rfl rfl rfl ⟨OSl.nil _ _,rfl,rfl,rfl⟩ idH
set_option maxHeartbeats 400000 in
theorem Z2p (l ws:List Rec) (ap:Option Addr) (cp:Nat) (hpl:l.length≤1000000) (htl:(l.flatMap (·.by_)).length≤1000000) (hsub:∀ r∈l,r∈ws) (H:Z8) (R:Z5) [hP:MemRows ap 1 (slr l) R] [hI:MemF (WF ws) R] :
    Fn Tryz.prog 152 [.slice ap l.length cp] H R (fun v H' R'=>∃ o:OSl 47 2 (tor (l.flatMap (·.by_))),v=o.fs∧H'=o.G++H∧R'=R):=by
 refine Ze Tryz.func152 rfl Tryz.ntmps152 rfl ?_
 refine sqt 1 rfl (pur 1 rfl (sqt 1 rfl (pur 1 rfl (Z0 (sqt 3 rfl (pur 1 rfl (sp rfl (PE.lenSl Z97 rfl) rfl (pur 1 rfl (Z3 ?_)))))))))
 refine Zd (ι:={k:Nat // k≤l.length}) (fun k=>⟨[(0,.slice ap l.length cp),(3,.int .i64 ((Zaf l k.1).length:Nat)),(9,.slice ap l.length cp),(10,.int .i64 l.length),(11,.int .i64 k.1)],H,R⟩) (fun k=>l.length-k.1) ⟨0,Nat.zero_le _⟩ ?_ (fun k=>?_)
 exact Zj idH
 obtain ⟨k,hk⟩:=k
 dsimp only at hk ⊢
 have hcl:=Z5d l k
 have hcl2:=Z5d l (k+1)
 refine sqt 1 rfl (pur 1 rfl (Z0 ?_))
 refine Z2 rfl ?_ ?_<;>intro hc0<;>try simp only [cS] at hc0
 obtain ⟨x,hx⟩:∃ x,l[k]?=some x:=⟨_,List.getElem?_eq_getElem (by omega)⟩
 have hst:=congrArg List.length (Z6d hx)
 rw [List.length_append] at hst
 refine Zi (a:=ap) (sz:=1) (rows:=slr l) (ne0 (by rw [Z3d];omega)) (fun ba oa he=>?_)
 subst he
 refine Z1 (Z0 (Z3 (sqt 3 rfl (sp rfl (PE.indexAddr ZdR rfl rfl (by omega) (by omega)) rfl (spL rfl rfl (lf0 ZfK (slr_get hx) rfl) rfl (pur 1 rfl (sqt 5 rfl (pur 2 rfl (sp rfl (PE.lenSl (a:=x.a) (n:=x.by_.length) (c:=x.c) Z3s rfl) rfl (sp rfl (PE.add rfl rfl (by omega)) rfl ?_))))))))))
 rw [show ((Zaf l k).length:Int)+(x.by_.length:Int)=((Zaf l (k+1)).length:Int) by omega]
 refine pur 1 rfl (sqt 2 rfl (pur 2 rfl ?_))
 refine Z2 rfl ?_ ?_<;>intro hc1
 simp only [decide_eq_true_eq] at hc1
 omega
 refine Z1 (sqr 2 rfl (sp rfl (PE.add rfl rfl (by omega)) rfl (pur 1 rfl ?_)))
 exact Zc ⟨k+1,by omega⟩ idH
 obtain rfl:k=l.length:=by omega
 refine Z7 (Z9 (Z9 (Zk (sqt 3 rfl (pur 1 rfl ?_)))))
 refine cl rfl Zh7 rfl rfl (Z76 (Zaf l l.length).length (by omega) _ _) ?_
 rintro _ _ R1 ⟨o0,rfl,rfl,hR1⟩
 obtain rfl:=hR1.symm
 clear hR1
 refine pur 1 rfl (Z0 (sqt 3 rfl (pur 1 rfl (sp rfl (PE.lenSl Z97 rfl) rfl (pur 1 rfl (Z3 ?_))))))
 refine Zd (ι:=(k:{k:Nat // k≤l.length})×OSl 47 2 (tor (Zaf l k.1))) (fun y=>⟨[(6,y.2.fs),(25,.slice ap l.length cp),(26,.int .i64 l.length),(27,.int .i64 y.1.1)],y.2.G++H,R⟩) (fun y=>l.length-y.1.1) ⟨⟨0,Nat.zero_le _⟩,o0⟩ ?_ (fun y=>?_)
 exact Zj idH
 obtain ⟨⟨k,hk⟩,o⟩:=y
 dsimp only at hk o ⊢
 have hcl:=Z5d l k
 have hcl2:=Z5d l (k+1)
 refine sqt 1 rfl (pur 1 rfl (Z0 ?_))
 refine Z2 rfl ?_ ?_<;>intro hc2<;>try simp only [cS] at hc2
 obtain ⟨x,hx⟩:∃ x,l[k]?=some x:=⟨_,List.getElem?_eq_getElem (by omega)⟩
 have hst:=Z6d hx
 have hsl:=congrArg List.length hst
 rw [List.length_append] at hsl
 refine Zi (a:=ap) (sz:=1) (rows:=slr l) (ne0 (by rw [Z3d];omega)) (fun ba oa he=>?_)
 subst he
 refine Sy.heap (fun w h=>St.wfAt (x:=x) h (hsub x (List.mem_of_getElem? hx))) ?_
 refine Z1 (Z0 (Z3 (sqt 3 rfl (sp rfl (PE.indexAddr ZdR rfl rfl (by omega) (by omega)) rfl (spL rfl rfl (lf0 ZfK (slr_get hx) rfl) rfl (pur 1 rfl (sqr 4 rfl (pur 2 rfl ?_))))))))
 refine apO (news:=tor x.by_) o rfl Zgk rfl rfl (Zbs) (Z1h _) (ZbM _) (by rw [Z1h,Z1h];omega) rfl (fun o33=>?_)
 refine pur 1 rfl (sqr 2 rfl (sp rfl (PE.add rfl rfl (by omega)) rfl (pur 1 rfl ?_)))
 exact Zc ⟨⟨k+1,by omega⟩,o33.cast (by rw [hst];simp [tor])⟩ (fun w h=>h.ftail)
 obtain rfl:k=l.length:=by omega
 refine Z7 (Z9 (Z9 (Zk (sqt 2 rfl (pur 2 rfl (Z4 ?_))))))
 exact rtA rfl rfl rfl ⟨o.cast (by unfold Zaf;rw [List.take_length]),rfl,rfl,rfl⟩ idH
theorem Zja:Z2a Tryz.prog 192=some 1:=by kernel_rfl
theorem Z62:apT Tryz.prog 23=some (3,1,8):=by kernel_rfl
theorem ZgL:cal Tryz.prog 151=true:=by kernel_rfl
theorem ZgM:cal Tryz.prog 152=true:=by kernel_rfl
theorem Zhu:cal Tryz.prog 39=true:=by kernel_rfl
theorem ZjC:cal Tryz.prog 80=true:=by kernel_rfl
theorem Zhz:cal Tryz.prog 82=true:=by kernel_rfl
theorem ZiO:ZF Tryz.prog 26=some 2:=by kernel_rfl
theorem Z9a:ZP Tryz.prog 108=some [(0,1),(1,1),(2,1)]:=by kernel_rfl
theorem Zk2:ZP Tryz.prog 192=some [(0,1)]:=by kernel_rfl
theorem ZkT:ZP Tryz.prog 26=some [(0,1),(1,1)]:=by kernel_rfl
theorem sc4:Z0h Tryz.prog 4=true:=by kernel_rfl
theorem Zkj:Zr Tryz.prog 192=some ([.nilFunc]):=by kernel_rfl
theorem Zga:Zr Tryz.prog 26=some ([.slice none 0 0,.slice none 0 0]):=by kernel_rfl
def Fw (b:TBn) (n:Nat):Prop:=(∃ x,Pth (ed1 b) n b.first x∧b.mds x=true)∧∀ k x,Pth (ed1 b) k b.first x→b.mds x=true→n≤k
def y3:TBn:=⟨[50,50,50,50],[⟨30,0,1⟩,⟨20,1,0⟩,⟨40,2,2⟩]⟩
theorem y3_ok:y3.ok:=by
 refine ⟨by decide,by decide,?_,?_,?_,?_,?_⟩
 · intro x hx;simp [y3] at hx;omega
 · intro x hx
   simp only [y3,List.mem_cons,List.not_mem_nil,or_false] at hx
   rcases hx with rfl | rfl | rfl<;>decide
 · intro x hx
   simp only [y3,List.mem_cons,List.not_mem_nil,or_false] at hx
   rcases hx with rfl | rfl | rfl<;>refine ⟨by decide,.inr (by decide)⟩
 · intro i j x z hx hz hji
   match i,j,hji with
   | 0,j,h=>exact absurd h (Nat.not_lt_zero _)
   | 1,0,_=>cases hx;cases hz;decide
   | 2,0,_=>cases hx;cases hz;decide
   | 2,1,_=>cases hx;cases hz;decide
   | i+3,j,_=>simp [y3] at hx
 · intro i x hx
   match i with
   | 0=>cases hx;decide
   | 1=>cases hx;decide
   | 2=>cases hx;decide
   | i+3=>simp [y3] at hx
def ZiT (b:TBn) (l:List (List Int)):List (List Int):=l.flatMap fun q=>(ed1 b q).map fun t=>app q t
theorem Zeb {b:TBn}:∀ (k:Nat) (x:List Int),Pth (ed1 b) k b.first x→x∈(List.range k).foldl (fun l _=>ZiT b l) [b.first]
 | 0,x,h=>by rw [show b.first=x from h];simp
 | k+1,x,⟨c,hc,l,hl,e⟩=>by
   have ih:=Zeb k c hc
   rw [List.range_succ,List.foldl_append]
   exact List.mem_flatMap.2 ⟨c,ih,List.mem_map.2 ⟨l,hl,e.symm⟩⟩
theorem fw3_path:∃ x,Pth (ed1 y3) 3 y3.first x∧y3.mds x=true:=by
 refine ⟨[1,0,2,0,0,0],⟨[1,3,2,0,0,0],⟨[0,3,2,0,0,0],⟨[0,1,2,0,0,0],rfl,[(1,3)],by decide,by decide⟩,[(0,1)],by decide,by decide⟩,[(1,0)],by decide,by decide⟩,by decide⟩
theorem Zfj (k:Nat) (x:List Int) (h:Pth (ed1 y3) k y3.first x) (hm:y3.mds x=true):3≤k:=by
 have h1:=Zeb k x h
 match k with
 | 0 => exact absurd hm (by have : ∀ q ∈ (List.range 0).foldl (fun l _ => ZiT y3 l) [y3.first], y3.mds q = false := by decide
                            rw [this x h1];decide)
 | 1 => exact absurd hm (by have : ∀ q ∈ (List.range 1).foldl (fun l _ => ZiT y3 l) [y3.first], y3.mds q = false := by decide
                            rw [this x h1];decide)
 | 2 => exact absurd hm (by have : ∀ q ∈ (List.range 2).foldl (fun l _ => ZiT y3 l) [y3.first], y3.mds q = false := by decide
                            rw [this x h1];decide)
 | k+3=>omega
theorem fw3_is {n:Nat} (h:Fw y3 n):n=3:=by
 obtain ⟨x,h1,h2⟩:=h.1
 obtain ⟨z,h3,h4⟩:=fw3_path
 have:=Zfj n x h1 h2
 have:=h.2 3 z h3 h4
 omega
set_option maxHeartbeats 800000 in
theorem Z3V (y:TBn) (a1 a2:Option Addr) (k1 k2:Nat) (hy:y.ok) (hc2:y.lots.length≤k2) (hp:∃ k x,Pth (ed1 y) k y.first x∧y.mds x=true) (H:Z8) (R:Z5) [hR1:MemRows a1 1 (irows y.sizes) R] [hR2:MemRows a2 3 (trows y.lots) R] :
    Fn Tryz.prog 80 [(y.v a1 a2 k1 k2),.agg #[.func (.func 81) #[] #[]]] H R (fun v H' R'=>∃ (sl:Value) (n:Nat),v = .tuple #[sl,.int .i64 (n:Int),.int .i64 0]∧Fw y n∧H'=H∧R'=R):=by
 have hl:=hy.nl
 refine Ze Tryz.func80 rfl Tryz.ntmps80 rfl ?_
 refine sqt 5 rfl (bx rfl rfl rfl (fun b2=>bx rfl rfl rfl (fun b3=>pur 3 rfl (sqt 7 rfl (spL rfl rfl (lhA (brl y a1 a2 k1 k2) Z65 rfl (rest:=[]) rfl rfl) rfl ?_)))))
 refine cl rfl Zhz rfl rfl (Z2r y a1 a2 k1 k2 hy hc2 _ _) ?_
 rintro _ _ _ ⟨d,rfl,hdy,hd1,hd2,hd3,hd4,rfl,rfl⟩
 subst hdy;subst hd1;subst hd2;subst hd3;subst hd4
 refine pur 5 rfl (Z0 (sqt 2 rfl (pur 2 rfl ?_)))
 refine Z2 rfl ?_ ?_<;>intro hc0
 exact absurd hc0 (by simp)
 ·
  refine Z1 (sqt 5 rfl (pur 1 rfl (spL rfl rfl (lhA [.func (.func 81) #[] #[]] Zja rfl (rest:=[]) rfl rfl) rfl ?_)))
  refine cl rfl ZgL rfl rfl (Zcn d hy _ _) ?_
  rintro _ _ _ ⟨m,ws,last,is,rfl,hcase,hin,rfl,rfl⟩
  have hq6:∀ r∈ws,r.q.length=6:=fun r hr=>(hin r hr).1
  rcases hcase with ⟨rfl,r,pend,rfl,hbi,hmd⟩ | ⟨rfl,rfl,hbi⟩
  rotate_left
  · obtain ⟨k,x,hx,hm⟩:=hp
    exact absurd (hbi.none hx) (by rw [hm];decide)
  have hrm:r∈ws:=hbi.pn r (by simp)
  have hr6:=hq6 r hrm
  have hf6:=Zgm hbi hq6
  have hrf:=hf6 r hrm
  have hfew:=Z0y hy hbi.nd hin
  have hdl:=Z9E hbi hrm
  have hfw:Fw d.y r.d:=⟨⟨r.q,hbi.path r.d r hrm rfl,hmd⟩,fun k x hx hm=>hbi.least hx hm⟩
  refine alc rfl Z9p rfl (fun b9=>?_)
  refine Z4z (vs:=(Value.map (some m)::(Za r.q++[Value.bool true]))) rfl rfl rfl Zai rfl (by simp [Z6,hr6]) rfl (by rw [List.all_cons,List.all_append,ZA];rfl) ?_
  refine Z0 (sqt 3 rfl (sp rfl (PE.fA Z32 rfl) rfl ?_))
  refine spL rfl rfl (lh (v:=.bool true) sc4 rfl (by rw [List.getElem?_cons_succ,List.getElem?_append_right (by rw [Z6,hr6];decide),Z6,hr6];rfl)) rfl ?_
  refine pur 1 rfl ?_
  refine Z2 rfl ?_ ?_<;>intro hc1
  exact absurd hc1 (by simp)
  refine Z1 (Z0 ?_)
  refine Zb [0,0,2,6,14,31,63,0,128,0,512,1920,3968,127,16383,32767] (.ld 0 (tks 1 3 (.ld 4 (.tk 7 (.ld 8 (.tk 9 (.ld 10 (.ld 11 (.tk 12 (.big 5 (.big 6 (tks 13 3 .done)))))))))))) Zo (by kernel_rfl) ?_
  refine ld rfl rfl (lhA (Value.map (some m)::(Za r.q++[Value.bool true])) Z8W rfl (rest:=[]) (by simp) (by simp [Z6,hr6])) rfl (Zl 1 rfl (tk rfl (PE.nilCheck rfl) rfl (tk rfl (PE.fA Z2d rfl) rfl (ld rfl rfl (ZaS (sz:=8) (Za d.y.first) ZU (rest:=[]) (by unfold TD.l;simp [brl]) (by rw [Z6];exact d.y.first_len hl)) rfl (tk rfl (PE.fA Z2e rfl) rfl (ld rfl rfl (lh Z5G rfl rfl) rfl (tk rfl (PE.fA Z5p rfl) rfl (ld rfl rfl (lhA (Za r.q) ZU rfl (rest:=[.bool true]) (by simp) (by rw [Z6];exact hr6)) rfl ?_))))))))
  refine ldK rfl rfl rfl (Z2B (b:=true) (v:=wyv (fun k:Nat=>(k:Int)) r) (wkv (fun k:Nat=>(k:Int)) ws) r.q Z1B (KeyT.of Z0I Z13) (ZZ Z7R) hr6 (Z1i hq6) (fun w hs=>hs.now (MemF.mem (f:=fun w=>w.heap[m]?=some (Zz true (wkv (fun k:Nat=>(k:Int)) ws))))) (by rw [Z3h,Z6Y hbi hrm,Option.map_some,Option.getD_some])) rfl ?_
  refine tk rfl (PE.fieldV (vs:=wyl (fun k:Nat=>(k:Int)) r) (show fTy Tryz.prog 123 2=some (3,7) from by kernel_rfl) sc3 rfl (Z4w hrf)) rfl ?_
  refine cl rfl Zhu rfl rfl (Z7Y d hy (fun k:Nat=>(k:Int)) (ed1 d.y) ws (r::pend) r hrm hbi hin true m _ _) ?_
  rintro _ _ _ ⟨l,ap,cp,rfl,hlc,hll,hwk,hls,rfl,rfl⟩
  have htl:=Zba hbi Zf6 hls
  refine bg (fun w hs=>⟨(Z2B (b:=true) (v:=wyv (fun k:Nat=>(k:Int)) r) (wkv (fun k:Nat=>(k:Int)) ws) r.q Z1B (KeyT.of Z0I Z13) (ZZ Z7R) hr6 (Z1i hq6) (fun w hs=>hs.now (MemF.mem (f:=fun w=>w.heap[m]?=some (Zz true (wkv (fun k:Nat=>(k:Int)) ws))))) (by rw [Z3h,Z6Y hbi hrm,Option.map_some,Option.getD_some])) w hs,(lhA (Za r.q) ZU rfl (rest:=[.bool true]) (by simp) (by rw [Z6];exact hr6)) w hs,(lh Z5G rfl rfl) w hs,trivial,trivial,trivial⟩) ?_
  refine cl rfl ZgM rfl rfl (Z2p l ws ap cp (by omega) (by omega) hls _ _) ?_
  rintro _ _ _ ⟨o30,rfl,rfl,rfl⟩
  refine bg (fun w hs=>⟨(Z2B (b:=true) (v:=wyv (fun k:Nat=>(k:Int)) r) (wkv (fun k:Nat=>(k:Int)) ws) r.q Z1B (KeyT.of Z0I Z13) (ZZ Z7R) hr6 (Z1i hq6) (fun w hs=>hs.now (MemF.mem (f:=fun w=>w.heap[m]?=some (Zz true (wkv (fun k:Nat=>(k:Int)) ws))))) (by rw [Z3h,Z6Y hbi hrm,Option.map_some,Option.getD_some])) w hs,(lhA (Za r.q) ZU rfl (rest:=[.bool true]) (by simp) (by rw [Z6];exact hr6)) w hs,(lh Z5G rfl rfl) w hs,trivial⟩) ?_
  refine Zl 3 rfl (Z4 ?_)
  exact rtC rfl rfl rfl rfl rfl ⟨o30.fs,r.d,rfl,hfw,rfl,rfl⟩ (fun w h=>St.sub (St.drop (G:=o30.G) (((h.del b9).del b3).del b2)))
theorem c_Fewest (y:TBn) (a1 a2:Option Addr) (k1 k2:Nat) (hy:y.ok) (hc2:y.lots.length≤k2) (hp:∃ k x,Pth (ed1 y) k y.first x∧y.mds x=true) (H:Z8) (R:Z5) [hR1:MemRows a1 1 (irows y.sizes) R] [hR2:MemRows a2 3 (trows y.lots) R] :
    Fn Tryz.prog 34 [(y.v a1 a2 k1 k2)] H R (fun v H' R'=>∃ n:Nat,v = .tuple #[.int .i64 (n:Int),.int .i64 0]∧Fw y n∧H'=H∧R'=R):=by
 refine Ze Tryz.func34 rfl Tryz.ntmps34 rfl ?_
 refine sqt 3 rfl (bx rfl rfl rfl (fun b1=>pur 2 rfl (sqt 10 rfl (spL rfl rfl (lhA (brl y a1 a2 k1 k2) Z65 rfl (rest:=[]) rfl rfl) rfl (sp rfl (PE.build (out:=[_]) Zk2 Zkj rfl rfl) rfl ?_)))))
 refine cl rfl ZjC rfl rfl (Z3V y a1 a2 k1 k2 hy hc2 hp _ _) ?_
 rintro _ _ _ ⟨sl,n,rfl,hfw,rfl,rfl⟩
 refine pur 7 rfl (sqt 4 rfl (pur 4 rfl (Z4 ?_)))
 exact rtB rfl rfl rfl rfl ⟨n,rfl,hfw,rfl,rfl⟩ (fun w h=>h.del b1)
set_option maxHeartbeats 400000 in
theorem c_Three8 (a1:Option Addr) (k1:Nat) (H:Z8) (R:Z5) [hR1:MemRows a1 1 (irows [50]) R] :
    Fn Tryz.prog 35 [.slice a1 1 k1] H R (fun v H' R'=>∃ aa ab ca cb,v=y3.v aa ab ca cb∧3≤cb∧H'=H∧R'=RowsA ab 3 (trows y3.lots)::RowsA aa 1 (irows y3.sizes)::R):=by
 refine Ze Tryz.func35 rfl Tryz.ntmps35 rfl ?_
 refine sqt 1 rfl (alc rfl Zga rfl (fun b2=>sqt 9 rfl ?_))
 refine bsl (out:=[_,_,_]) rfl Z18 zl3 rfl rfl rfl rfl rfl rfl (fun b3=>?_)
 obtain ⟨o3,ho3,hg3⟩:∃ o:OSl 3 1 (irows [50,50,50]),o.fs = .slice (some ⟨b3,0,none⟩) 3 3∧o.G=[(b3,cel 3 [.int .i64 50,.int .i64 50,.int .i64 50])]:=⟨⟨.slice (some ⟨b3,0,none⟩) 3 3,[(b3,cel 3 [.int .i64 50,.int .i64 50,.int .i64 50])],by simp [irow],.inr ⟨b3,3,[],rfl,rfl,by decide,by decide,by decide⟩⟩,rfl,rfl⟩
 rw [← ho3]
 refine Sy.heap (H':=o3.G++((b2,cel 26 [.slice none 0 0,.slice none 0 0])::H)) (fun w h=>by rw [hg3];exact h) ?_
 refine pur 1 rfl ?_
 refine apO (o3) rfl Z62 rfl rfl (Zbs) rfl rfl ((by decide)) rfl (fun o5=>?_)
 obtain ⟨aa,ca,he,hca,hfz⟩:=Z4j o5
 rw [he]
 refine Sy.heap (fun w h=>hfz h) ?_
 refine sp rfl (PE.build (out:=[_,_,_]) Z9a Z2k rfl rfl) rfl (sp rfl (PE.build (out:=[_,_,_]) Z9a Z2k rfl rfl) rfl (sp rfl (PE.build (out:=[_,_,_]) Z9a Z2k rfl rfl) rfl ?_))
 refine bsl (out:=[_,_,_,_,_,_,_,_,_]) rfl ZiY Z2k rfl rfl rfl rfl rfl rfl (fun b9=>?_)
 refine sp rfl (PE.build (out:=[_,_]) ZkT Zga rfl rfl) rfl ?_
 refine sto rfl rfl rfl ZiO rfl rfl rfl rfl ?_
 refine Z4 ?_
 exact Zg (vs:=[_]) rfl (.cons (RV.cell rfl (lhA [.slice aa 4 ca,.slice (some ⟨b9,0,none⟩) 3 3] Z65 rfl (rest:=[]) rfl rfl)) .nil) rfl ⟨aa,some ⟨b9,0,none⟩,ca,3,rfl,Nat.le_refl _,rfl,rfl⟩ (fun w h=>St.rows (rows:=trows y3.lots) (rest:=[]) ((h.del b2).pull b9) (by intro r hr;simp [y3,trow] at hr;rcases hr with rfl | rfl | rfl<;>rfl))
end Go.Proofs.YtcfdanhklbklkaaGreat.Tu
namespace Go.Proofs.YtcfdanhklbklkaaGreat.Tu
set_option linter.unusedSimpArgs false
set_option linter.unusedVariables false
def Mv (n:Nat) (s w:Nat→Int) (x z:List Nat):Prop:=∃ i k,i<x.length∧k<n∧w i≤s k∧k∉x∧z=x.set i k
def Sp (n:Nat) (s w:Nat→Int):Nat→List Nat→List Nat→Prop
 | 0,x,z=>x=z
 | c+1,x,z=>∃ u,Sp n s w c x u∧Mv n s w u z
structure Val (n:Nat) (s w:Nat→Int) (x:List Nat):Prop where
 nd:x.Nodup
 ok:∀ i k,x[i]?=some k→k<n∧w i≤s k
theorem ZaL {x:List Nat} (h:x.Nodup) {i j k:Nat} (hi:x[i]?=some k) (hj:x[j]?=some k):i=j:=by
 exact (List.getElem?_inj (List.getElem?_eq_some_iff.1 hi).1 h).1 (hi.trans hj.symm)
theorem Z1I {x:List Nat} {i j k:Nat} (hi:i<x.length):(x.set i k)[j]?=if i=j then some k else x[j]?:=by
 rw [List.getElem?_set]
 by_cases e:i=j
 · rw [if_pos e,if_pos e,if_pos hi]
 · rw [if_neg e,if_neg e]
theorem Mv.val {n:Nat} {s w:Nat→Int} {x z:List Nat} (h:Mv n s w x z) (hx:Val n s w x):Val n s w z:=by
 obtain ⟨i,k,hi,hk,hw,hn,rfl⟩:=h
 refine ⟨?_,fun j q hj=>?_⟩
 · show List.Pairwise (· ≠ ·) _
   rw [List.pairwise_iff_getElem]
   intro a b ha hb hab e0
   have e:(x.set i k)[a]?=(x.set i k)[b]?:=by rw [List.getElem?_eq_getElem ha,List.getElem?_eq_getElem hb,e0]
   rw [List.length_set] at ha hb
   rw [Z1I hi,Z1I hi] at e
   by_cases e1:i=a
   · rw [if_pos e1,if_neg (show ¬ i=b by omega)] at e
     exact hn (List.mem_of_getElem? e.symm)
   · rw [if_neg e1] at e
     by_cases e2:i=b
     · rw [if_pos e2] at e;exact hn (List.mem_of_getElem? e)
     · rw [if_neg e2] at e
       have:=(List.getElem?_inj ha hx.nd).1 e
       omega
 · rw [Z1I hi] at hj
   by_cases e:i=j
   · rw [if_pos e] at hj;cases hj;subst e;exact ⟨hk,hw⟩
   · rw [if_neg e] at hj;exact hx.ok j q hj
theorem Mv.back {n:Nat} {s w:Nat→Int} {x z:List Nat} (h:Mv n s w x z) (hx:Val n s w x):Mv n s w z x:=by
 obtain ⟨i,k,hi,hk,hw,hn,rfl⟩:=h
 have h1:x[i]?=some x[i]:=List.getElem?_eq_getElem hi
 obtain ⟨h2,h3⟩:=hx.ok i _ h1
 refine ⟨i,x[i],by rw [List.length_set];exact hi,h2,h3,fun hm=>?_,by rw [List.set_set,List.set_getElem_self]⟩
 obtain ⟨j,hj⟩:=List.mem_iff_getElem?.1 hm
 rw [Z1I hi] at hj
 by_cases e:i=j
 · rw [if_pos e] at hj
   have e2:k=x[i]:=Option.some.inj hj
   exact hn (e2▸List.getElem_mem hi)
 · rw [if_neg e] at hj;exact e (ZaL hx.nd h1 hj)
theorem Sp.val {n:Nat} {s w:Nat→Int}:∀ {c:Nat} {x z:List Nat},Sp n s w c x z→Val n s w x→Val n s w z
 | 0,x,z,h,hx=>by rw [← show x=z from h];exact hx
 | c+1,x,z,⟨u,h1,h2⟩,hx=>h2.val (Sp.val h1 hx)
theorem Sp.len {n:Nat} {s w:Nat→Int}:∀ {c:Nat} {x z:List Nat},Sp n s w c x z→z.length=x.length
 | 0,x,z,h=>by rw [← show x=z from h]
 | c+1,x,z,⟨u,h1,⟨i,k,_,_,_,_,e⟩⟩=>by rw [e,List.length_set];exact Sp.len h1
theorem Sp.app {n:Nat} {s w:Nat→Int} {c:Nat} {x z:List Nat} (h:Sp n s w c x z):∀ {d:Nat} {v:List Nat},Sp n s w d z v→Sp n s w (c+d) x v
 | 0,v,h2=>by rw [← show z=v from h2];exact h
 | d+1,v,⟨u,h2,h3⟩=>⟨u,h.app h2,h3⟩
theorem Sp.one {n:Nat} {s w:Nat→Int} {x z:List Nat} (h:Mv n s w x z):Sp n s w 1 x z:=⟨x,rfl,h⟩
theorem Sp.back {n:Nat} {s w:Nat→Int}:∀ {c:Nat} {x z:List Nat},Sp n s w c x z→Val n s w x→Sp n s w c z x
 | 0,x,z,h,_=>(show x=z from h).symm
 | c+1,x,z,⟨u,h1,h2⟩,hx=>by
   have h3:=Sp.app (Sp.one (h2.back (Sp.val h1 hx))) (Sp.back h1 hx)
   rwa [Nat.add_comm] at h3
def ky (s:Nat→Int) (k:Nat):Int:=s k*8+(k:Int)
theorem Zi8 {s:Nat→Int} {h m:Nat} (hh:h<8) (hm:m<8) (e:ky s h≤ky s m):s h≤s m:=by unfold ky at e;omega
theorem Zi7 {s:Nat→Int} {h m:Nat} (hh:h<8) (hm:m<8) (e:ky s h=ky s m):h=m:=by unfold ky at e;omega
theorem Ze4 {s:Nat→Int} {Q:Nat→Prop}:∀ n,(∃ h,h<n∧Q h)→∃ m,m<n∧Q m∧∀ h,h<n→Q h→ky s h≤ky s m
 | 0,⟨h,h1,_⟩=>absurd h1 (Nat.not_lt_zero _)
 | n+1,⟨h,h1,h2⟩=>by
   by_cases e:∃ h,h<n∧Q h
   · obtain ⟨m,m1,m2,m3⟩:=Ze4 (s:=s) n e
     by_cases q:Q n∧ky s m<ky s n
     · refine ⟨n,by omega,q.1,fun h h3 h4=>?_⟩
       by_cases e2:h=n
       · rw [e2];exact Int.le_refl _
       · have:=m3 h (by omega) h4;have:=q.2;omega
     · refine ⟨m,by omega,m2,fun h h3 h4=>?_⟩
       by_cases e2:h=n
       · subst e2
         by_cases e3:ky s m<ky s h
         · exact absurd ⟨h4,e3⟩ q
         · omega
       · exact m3 h (by omega) h4
   · have e2:h=n:=by
       by_cases e3:h<n
       · exact absurd ⟨h,e3,h2⟩ e
       · omega
     subst e2
     refine ⟨h,by omega,h2,fun q h3 h4=>?_⟩
     by_cases e3:q=h
     · rw [e3];exact Int.le_refl _
     · exact absurd ⟨q,by omega,h4⟩ e
def Z8V (n:Nat) (s:Nat→Int) (h:Nat):Nat:=((List.range n).filter fun k=>decide (ky s h<ky s k)).length
theorem Z53 {n:Nat} {s:Nat→Int} {h k:Nat} (hk:k<n) (e:ky s h<ky s k):Z8V n s k<Z8V n s h:=by
 unfold Z8V
 have e1:(List.range n).filter (fun q=>decide (ky s k<ky s q))=((List.range n).filter fun q=>decide (ky s h<ky s q)).filter fun q=>decide (ky s k<ky s q):=by
   rw [List.filter_filter]
   apply List.filter_congr
   intro q _
   by_cases e2:ky s k<ky s q
   · rw [decide_eq_true e2,decide_eq_true (show ky s h<ky s q by omega)];rfl
   · rw [decide_eq_false e2];simp
 rw [e1]
 exact List.length_filter_lt_length_iff_exists.2 ⟨k,List.mem_filter.2 ⟨List.mem_range.2 hk,decide_eq_true e⟩,by simp⟩
theorem frozen {n:Nat} {s w:Nat→Int} (hn:n≤8) {x:List Nat} (hx:Val n s w x) {h:Nat} (hh:h<n) (hmax:∀ k,k<n→k∉x→ky s k≤ky s h) (hno:∀ (i k:Nat),x[i]?=some k→ky s h<ky s k→¬ w i≤s h) :
   ∀ {c:Nat} {z:List Nat},Sp n s w c x z→∀ (i k:Nat),x[i]?=some k→ky s h<ky s k→z[i]?=some k
 | 0,z,hz,i,k,hi,hk=>by rw [← show x=z from hz];exact hi
 | c+1,z,⟨u,h1,⟨j,q,hj,hq,hw,hqn,e⟩⟩,i,k,hi,hk=>by
   have ih:=frozen hn hx hh hmax hno h1
   rw [e,Z1I hj]
   by_cases e1:j=i
   · subst e1
     exfalso
     have hqh:ky s q≤ky s h:=by
       rcases Int.lt_or_le (ky s h) (ky s q) with h2 | h2
       · exfalso
         by_cases h3:q∈x
         · obtain ⟨t,ht⟩:=List.mem_iff_getElem?.1 h3
           exact hqn (List.mem_of_getElem? (ih t q ht h2))
         · have:=hmax q hq h3;omega
       · exact h2
     have:=Zi8 (s:=s) (show q<8 by omega) (show h<8 by omega) hqh
     exact hno j k hi hk (by omega)
   · rw [if_neg e1];exact ih i k hi hk
theorem Zd5 {n:Nat} {s w:Nat→Int} (hn:n≤8) {m:Nat} (hm:m<n):∀ (c:Nat) {x:List Nat},Val n s w x→(∃ d z,Sp n s w d x z∧m∉z)→(∀ d z,Sp n s w d x z→∀ h,h<n→h∉z→ky s h≤ky s m) →
   (∃ h,h<n∧h∉x∧Z8V n s h≤c)→∃ j z,j≤c∧Sp n s w j x z∧m∉z
 | c,x,hx,hz,hmx,⟨h,hh,hf,hc⟩=>by
   by_cases e:h=m
   · subst e;exact ⟨0,x,Nat.zero_le _,rfl,hf⟩
   have hle:=hmx 0 x rfl h hh hf
   have hlt:ky s h<ky s m:=by
     rcases Int.lt_or_eq_of_le hle with h1 | h1
     · exact h1
     · exact absurd (Zi7 (by omega) (by omega) h1) e
   have hab:=Z53 hm hlt
   obtain ⟨c,rfl⟩:∃ c',c=c'+1:=⟨c-1,by omega⟩
   by_cases hg:∃ k,k<n∧k∉x∧ky s h<ky s k
   · obtain ⟨k,hk,hkx,hkh⟩:=hg
     obtain ⟨j,z,h1,h2,h3⟩:=Zd5 hn hm c hx hz hmx ⟨k,hk,hkx,by have:=Z53 hk hkh;omega⟩
     exact ⟨j,z,by omega,h2,h3⟩
   · have hmax:∀ k,k<n→k∉x→ky s k≤ky s h:=fun k hk hkx=>by
       rcases Int.lt_or_le (ky s h) (ky s k) with h1 | h1
       · exact absurd ⟨k,hk,hkx,h1⟩ hg
       · exact h1
     by_cases hex:∃ i k,x[i]?=some k∧ky s h<ky s k∧w i≤s h
     · obtain ⟨i,k,hi,hk,hw⟩:=hex
       have hil:=(List.getElem?_eq_some_iff.1 hi).1
       have hkn:=(hx.ok i k hi).1
       have hmv:Mv n s w x (x.set i h):=⟨i,h,hil,hh,hw,hf,rfl⟩
       have hxv:=hmv.val hx
       have hkf:k∉x.set i h:=fun hmem=>by
         obtain ⟨t,ht⟩:=List.mem_iff_getElem?.1 hmem
         rw [Z1I hil] at ht
         by_cases e1:i=t
         · rw [if_pos e1] at ht
           have:h=k:=Option.some.inj ht
           subst this;omega
         · rw [if_neg e1] at ht;exact e1 (ZaL hx.nd hi ht)
       obtain ⟨d,z,hz1,hz2⟩:=hz
       obtain ⟨j,v,h1,h2,h3⟩:=Zd5 hn hm c hxv ⟨1+d,z,Sp.app (Sp.one (hmv.back hx)) hz1,hz2⟩ (fun d' z' h'=>hmx (1+d') z' (Sp.app (Sp.one hmv) h')) ⟨k,hkn,hkf,by have:=Z53 hkn hk;omega⟩
       exact ⟨1+j,v,by omega,Sp.app (Sp.one hmv) h2,h3⟩
     · exfalso
       obtain ⟨d,z,hz1,hz2⟩:=hz
       have hmx':m∈x:=by
         by_cases h1:m∈x
         · exact h1
         · exact absurd ⟨m,hm,h1,hlt⟩ hg
       obtain ⟨t,ht⟩:=List.mem_iff_getElem?.1 hmx'
       exact hz2 (List.mem_of_getElem? (frozen hn hx hh hmax (fun i k h1 h2 h3=>hex ⟨i,k,h1,h2,h3⟩) hz1 t m ht hlt))
def goS (m:Nat) (y:List Nat):Nat→List Nat→Bool
 | 0,x=>x == y
 | f+1,x=>bif x == y then true else match (List.range y.length).find? fun i=>!(x.getD i 9 == y.getD i 9)&&!(x.contains (y.getD i 9)) with
   | some i=>goS m y f (x.set i (y.getD i 9))
   | none=>bif x.contains m then false else match (List.range y.length).find? fun i=>!(x.getD i 9 == y.getD i 9) with
     | some i=>goS m y f (x.set i m)
     | none=>false
theorem ZaM {n:Nat} {s w:Nat→Int} {m:Nat} (hm:m<n) {y:List Nat} (hy:Val n s w y):∀ (f:Nat) {x:List Nat},x.length=y.length→(∀ i,i<y.length→x.getD i 9=y.getD i 9∨w i≤s m)→goS m y f x=true→∃ c,c≤f∧Sp n s w c x y
 | 0,x,hl,hfit,h=>⟨0,Nat.le_refl _,show x=y by simpa [goS] using h⟩
 | f+1,x,hl,hfit,h=>by
   unfold goS at h
   cases e:(x == y) with
   | true=>exact ⟨0,Nat.zero_le _,show x=y by simpa using e⟩
   | false =>
     rw [e,cond_false] at h
     have hset:∀ i k,i<x.length→(∀ j,j<y.length→(x.set i k).getD j 9=if i=j then k else x.getD j 9):=fun i k hi j _=>by
       rw [List.getD_eq_getElem?_getD,Z1I hi]
       by_cases e1:i=j
       · rw [if_pos e1,if_pos e1];rfl
       · rw [if_neg e1,if_neg e1,List.getD_eq_getElem?_getD]
     split at h
     · rename_i i hi
       have h1:=List.mem_of_find?_eq_some hi
       have h2:=List.find?_some hi
       have hil:=List.mem_range.1 h1
       simp only [Bool.and_eq_true,Bool.not_eq_true',beq_eq_false_iff_ne,ne_eq,List.contains_eq_mem,decide_eq_false_iff_not] at h2
       have hyi:y[i]?=some (y.getD i 9):=by rw [List.getD_eq_getElem?_getD,List.getElem?_eq_getElem hil];rfl
       obtain ⟨h3,h4⟩:=hy.ok i _ hyi
       have hmv:Mv n s w x (x.set i (y.getD i 9)):=⟨i,_,by omega,h3,h4,h2.2,rfl⟩
       obtain ⟨c,hc,hs⟩:=ZaM hm hy f (x:=x.set i (y.getD i 9)) (by rw [List.length_set];exact hl) (fun j hj=>by
         rw [hset i _ (by omega) j hj]
         by_cases e1:i=j
         · subst e1;rw [if_pos rfl];exact .inl rfl
         · rw [if_neg e1];exact hfit j hj) h
       exact ⟨1+c,by omega,Sp.app (Sp.one hmv) hs⟩
     · cases e2:x.contains m with
       | true=>rw [e2] at h;cases h
       | false =>
         rw [e2,cond_false] at h
         split at h
         · rename_i i hi
           have h1:=List.mem_of_find?_eq_some hi
           have h2:=List.find?_some hi
           have hil:=List.mem_range.1 h1
           simp only [Bool.not_eq_true',beq_eq_false_iff_ne,ne_eq] at h2
           have hwm:w i≤s m:=(hfit i hil).resolve_left h2
           have hmx:m∉x:=by simpa using e2
           have hmv:Mv n s w x (x.set i m):=⟨i,m,by omega,hm,hwm,hmx,rfl⟩
           obtain ⟨c,hc,hs⟩:=ZaM hm hy f (x:=x.set i m) (by rw [List.length_set];exact hl) (fun j hj=>by
             rw [hset i _ (by omega) j hj]
             by_cases e1:i=j
             · subst e1;exact .inr hwm
             · rw [if_neg e1];exact hfit j hj) h
           exact ⟨1+c,by omega,Sp.app (Sp.one hmv) hs⟩
         · cases h
def plc (m:Nat):Nat→List (List Nat)
 | 0=>[[]]
 | l+1=>(plc m l).flatMap fun x=>((List.range 5).filter fun k=>!(k == m)&&!(x.contains k)).map fun k=>k::x
theorem Zbi {m:Nat}:∀ {x:List Nat},x.Nodup→(∀ k∈x,k<5∧k≠m)→x∈plc m x.length
 | [],_,_=>by simp [plc]
 | k::x,hn,hk=>by
   obtain ⟨h1,h2⟩:=List.nodup_cons.1 hn
   have ih:=Zbi (m:=m) h2 (fun q hq=>hk q (by simp [hq]))
   have h3:=hk k (by simp)
   refine List.mem_flatMap.2 ⟨x,ih,List.mem_map.2 ⟨k,List.mem_filter.2 ⟨List.mem_range.2 h3.1,?_⟩,rfl⟩⟩
   simp [h3.2,h1]
theorem Zfk:(List.range 5).all (fun m=>(List.range 5).all fun l=>(plc m l).all fun x=>(plc m l).all fun y=>goS m y 7 x)=true:=by decide +kernel
theorem ZfN {n:Nat} {s w:Nat→Int} (hn:n≤5) {m:Nat} (hm:m<n) {x y:List Nat} (hx:Val n s w x) (hy:Val n s w y) (hl:x.length=y.length) (h4:y.length≤4) (hmx:m∉x) (hmy:m∉y) (hfit:∀ i,i<y.length→x.getD i 9=y.getD i 9∨w i≤s m):∃ c,c≤7∧Sp n s w c x y:=by
 have hmem:∀ {z:List Nat},Val n s w z→m∉z→z∈plc m z.length:=fun {z} hz hmz=>Zbi hz.nd (fun k hk=>by
   obtain ⟨i,hi⟩:=List.mem_iff_getElem?.1 hk
   have:=(hz.ok i k hi).1
   exact ⟨by omega,fun e=>hmz (e▸hk)⟩)
 have h:=Zfk
 have h1:=List.all_eq_true.1 h m (List.mem_range.2 (by omega))
 have h2:=List.all_eq_true.1 h1 y.length (List.mem_range.2 (by omega))
 have h3:=List.all_eq_true.1 h2 x (by rw [← hl];exact hmem hx hmx)
 have h5:=List.all_eq_true.1 h3 y (hmem hy hmy)
 exact ZaM hm hy 7 hl hfit h5
theorem Zau {n:Nat} {s w:Nat→Int} (hn:n≤5) {x y:List Nat} (hx:Val n s w x) (h4:x.length≤4) {d:Nat} (h:Sp n s w d x y):∃ c,c≤17∧Sp n s w c x y:=by
 by_cases hf:∃ h,h<n∧h∉x
 · obtain ⟨m,hm,⟨d0,z0,hz0,hmz⟩,hmax⟩:=Ze4 (s:=s) (Q:=fun h=>∃ d z,Sp n s w d x z∧h∉z) n (by obtain ⟨h,h1,h2⟩:=hf;exact ⟨h,h1,0,x,rfl,h2⟩)
   have hmx:∀ d z,Sp n s w d x z→∀ h,h<n→h∉z→ky s h≤ky s m:=fun d z hz h hh hhz=>hmax h hh ⟨d,z,hz,hhz⟩
   have hyv:=h.val hx
   have hyl:=h.len
   have hab:∀ q,q<n→Z8V n s q≤4:=fun q hq=>by
     unfold Z8V
     have h1:((List.range n).filter fun k=>decide (ky s q<ky s k)).length<(List.range n).length:=List.length_filter_lt_length_iff_exists.2 ⟨q,List.mem_range.2 hq,by simp⟩
     rw [List.length_range] at h1
     omega
   have hfree:∀ {z:List Nat},Val n s w z→z.length=x.length→∃ q,q<n∧q∉z:=fun {z} hz hzl=>by
     apply Classical.byContradiction
     intro hno
     have h1:∀ q∈List.range n,q∈z:=fun q hq=>Classical.byContradiction fun h2=>hno ⟨q,List.mem_range.1 hq,h2⟩
     have h2:=Z14 List.nodup_range h1
     obtain ⟨h,hh,hhx⟩:=hf
     have h3:∀ q∈h::x,q∈List.range n:=fun q hq=>by
       rcases List.mem_cons.1 hq with e | hq
       · rw [e];exact List.mem_range.2 hh
       · obtain ⟨i,hi⟩:=List.mem_iff_getElem?.1 hq
         exact List.mem_range.2 (hx.ok i q hi).1
     have h5:=Z14 (List.nodup_cons.2 ⟨hhx,hx.nd⟩) h3
     rw [List.length_range,List.length_cons] at h5
     rw [List.length_range] at h2
     omega
   obtain ⟨q1,hq1,hq1x⟩:=hfree hx rfl
   obtain ⟨q2,hq2,hq2y⟩:=hfree hyv hyl
   obtain ⟨j1,x1,hj1,hx1,hm1⟩:=Zd5 (by omega) hm 4 hx ⟨d0,z0,hz0,hmz⟩ hmx ⟨q1,hq1,hq1x,hab q1 hq1⟩
   obtain ⟨j2,y1,hj2,hy1,hm2⟩:=Zd5 (by omega) hm 4 hyv ⟨d+d0,z0,Sp.app (h.back hx) hz0,hmz⟩ (fun d' z' h'=>hmx (d+d') z' (Sp.app h h')) ⟨q2,hq2,hq2y,hab q2 hq2⟩
   have hx1v:=hx1.val hx
   have hy1v:=hy1.val hyv
   have hxy:Sp n s w (j1+(d+j2)) x1 y1:=by
     have:=Sp.app (hx1.back hx) (Sp.app h hy1)
     exact this
   have hfit:∀ {e:Nat} {z:List Nat},Sp n s w e x1 z→∀ i,x1.getD i 9=z.getD i 9∨w i≤s m:=fun {e}=>by
     induction e with
     | zero=>intro z hz i;rw [← show x1=z from hz];exact .inl rfl
     | succ e ih =>
       intro z ⟨u,h1,⟨i0,k,hi0,hk,hw,hku,e1⟩⟩ i
       rcases ih h1 i with h2 | h2
       · by_cases e2:i0=i
         · subst e2
           have h6:=hmx (j1+e) u (Sp.app hx1 h1) k hk hku
           have h7:=Zi8 (s:=s) (show k<8 by omega) (show m<8 by omega) h6
           exact .inr (by omega)
         · refine .inl ?_
           rw [h2,e1,List.getD_eq_getElem?_getD,List.getD_eq_getElem?_getD,Z1I hi0,if_neg e2]
       · exact .inr h2
   have hl1:=hx1.len
   have hl2:=hy1.len
   obtain ⟨c,hc,hs⟩:=ZfN hn hm hx1v hy1v (by omega) (by omega) hm1 hm2 (fun i _=>hfit hxy i)
   exact ⟨j1+(c+j2),by omega,Sp.app hx1 (Sp.app hs (hy1.back hyv))⟩
 · refine ⟨0,Nat.zero_le _,?_⟩
   have:∀ {e:Nat} {z:List Nat},Sp n s w e x z→x=z:=fun {e}=>by
     induction e with
     | zero=>intro z hz;exact hz
     | succ e ih =>
       intro z ⟨u,h1,⟨i0,k,_,hk,_,hku,_⟩⟩
       rw [← ih h1] at hku
       exact absurd ⟨k,hk,hku⟩ hf
   exact this h
def okT (b:TBn) (p:List Int) (l:List (Int×Int)) (lot k:Nat):Bool:=(!b.tkn p (k:Int)&&b.fits k lot)&&!(l.any fun t=>decide (t.2=(k:Int)))
def Z38 (b:TBn) (p:List Int) (g:Nat):Nat→List (Int×Int)→Nat→List (List (Int×Int))
 | 0,l,_=>[l]
 | f+1,l,lot=>bif decide (l.length=g) then [l] else ((List.range b.sizes.length).flatMap fun k=>bif okT b p l lot k then Z38 b p g f (l++[((lot:Int),(k:Int))]) (lot+1) else [])++Z38 b p g f l (lot+1)
def edR (b:TBn) (g:Nat):Edg:=fun p=>Z38 b p g b.lots.length [] 0
structure GL (b:TBn) (p:List Int) (g lot:Nat) (l:List (Int×Int)):Prop where
 up:l.Pairwise fun s t=>s.1<t.1
 lt:∀ t∈l,∃ i k:Nat,t=((i:Int),(k:Int))∧i<lot∧i<b.lots.length∧k<b.sizes.length∧b.fits k i=true∧b.tkn p (k:Int)=false
 nd:l.Pairwise fun s t=>s.2≠t.2
 few:l.length≤g
theorem GL.nil (b:TBn) (p:List Int) (g:Nat):GL b p g 0 []:=⟨List.Pairwise.nil,fun t h=>(by cases h),List.Pairwise.nil,Nat.zero_le _⟩
theorem GL.mono {b:TBn} {p:List Int} {g lot:Nat} {l:List (Int×Int)} (h:GL b p g lot l):GL b p g (lot+1) l:=⟨h.up,fun t ht=>by
 obtain ⟨i,k,h1,h2,h3⟩:=h.lt t ht
 exact ⟨i,k,h1,by omega,h3⟩,h.nd,h.few⟩
theorem GL.snoc {b:TBn} {p:List Int} {g lot:Nat} {l:List (Int×Int)} (h:GL b p g lot l) {k:Nat} (hl:lot<b.lots.length) (hk:k<b.sizes.length) (ho:okT b p l lot k=true) (hg:l.length≠g):GL b p g (lot+1) (l++[((lot:Int),(k:Int))]):=by
 unfold okT at ho
 simp only [Bool.and_eq_true,Bool.not_eq_true',List.any_eq_false,decide_eq_true_eq] at ho
 obtain ⟨⟨h1,h2⟩,h3⟩:=ho
 have hf:=h.few
 refine ⟨?_,fun t ht=>?_,?_,by rw [List.length_append,List.length_singleton];omega⟩
 · rw [List.pairwise_append]
   refine ⟨h.up,List.pairwise_singleton _ _,fun s hs t ht=>?_⟩
   rw [List.mem_singleton.1 ht]
   obtain ⟨i,q,rfl,h4,_⟩:=h.lt s hs
   show (i:Int)<(lot:Int);omega
 · rcases List.mem_append.1 ht with ht | ht
   · obtain ⟨i,q,h4,h5,h6⟩:=h.lt t ht
     exact ⟨i,q,h4,by omega,h6⟩
   · exact ⟨lot,k,List.mem_singleton.1 ht,by omega,hl,hk,h2,h1⟩
 · rw [List.pairwise_append]
   refine ⟨h.nd,List.pairwise_singleton _ _,fun s hs t ht=>?_⟩
   rw [List.mem_singleton.1 ht]
   exact h3 s hs
theorem Zbo {b:TBn} {p:List Int} {g:Nat}:∀ {f lot:Nat} {l l':List (Int×Int)},f+lot=b.lots.length→GL b p g lot l→l'∈Z38 b p g f l lot→∃ q,GL b p g q l'
 | 0,lot,l,l',_,h,hm=>by
   rw [List.mem_singleton.1 hm];exact ⟨_,h⟩
 | f+1,lot,l,l',hf,h,hm=>by
   unfold Z38 at hm
   by_cases e:l.length=g
   · rw [decide_eq_true e,cond_true,List.mem_singleton] at hm
     rw [hm];exact ⟨_,h⟩
   · rw [decide_eq_false e,cond_false] at hm
     rcases List.mem_append.1 hm with hm | hm
     · obtain ⟨k,hk,h1⟩:=List.mem_flatMap.1 hm
       cases ho:okT b p l lot k with
       | false=>rw [ho] at h1;cases h1
       | true =>
         rw [ho,cond_true] at h1
         exact Zbo (by omega) (h.snoc (by omega) (List.mem_range.1 hk) ho e) h1
     · exact Zbo (by omega) h.mono hm
theorem Z8c {b:TBn} {p:List Int} {g:Nat} {l:List (Int×Int)} (h:l∈edR b g p):∃ q,GL b p g q l:=Zbo (Nat.add_zero _) (GL.nil b p g) h
theorem Z8M {b:TBn} {p:List Int} {g:Nat}:∀ {f lot:Nat} {l:List (Int×Int)},l∈Z38 b p g f l lot
 | 0,_,l=>by simp [Z38]
 | f+1,lot,l=>by
   unfold Z38
   cases decide (l.length=g) with
   | true=>simp
   | false=>rw [cond_false];exact List.mem_append.2 (.inr Z8M)
theorem Zbp {b:TBn} {p:List Int} {g i k:Nat} (hg:1≤g) (hk:k<b.sizes.length) (hf:b.fits k i=true) (ht:b.tkn p (k:Int)=false):∀ {f lot:Nat},lot≤i→i<f+lot→[((i:Int),(k:Int))]∈Z38 b p g f [] lot
 | 0,lot,h1,h2=>by omega
 | f+1,lot,h1,h2=>by
   unfold Z38
   rw [decide_eq_false (show ¬ ([]:List (Int×Int)).length=g by simp;omega),cond_false]
   by_cases e:lot=i
   · subst e
     refine List.mem_append.2 (.inl (List.mem_flatMap.2 ⟨k,List.mem_range.2 hk,?_⟩))
     have ho:okT b p [] lot k=true:=by unfold okT;rw [ht,hf];rfl
     rw [ho,cond_true]
     exact Z8M
   · exact List.mem_append.2 (.inr (Zbp hg hk hf ht (by omega) (by omega)))
def wS (b:TBn) (k:Nat):Int:=na b.sizes k
def wW (b:TBn) (i:Nat):Int:=(b.lot i).sk
def pOf (b:TBn) (x:List Nat):List Int:=x.map (fun (k:Nat)=>(k:Int))++List.replicate (6-b.lots.length) 0
theorem Ze9 {b:TBn} {x:List Nat} (hl:x.length=b.lots.length) {i:Nat} (hi:i<b.lots.length):x[i]?=some (na (pOf b x) i).toNat∧na (pOf b x) i=((na (pOf b x) i).toNat:Int):=by
 obtain ⟨k,hk⟩:∃ k,x[i]?=some k:=⟨_,List.getElem?_eq_getElem (by omega)⟩
 have e:na (pOf b x) i=(k:Int):=by
   refine Zb4 ?_
   unfold pOf
   rw [List.getElem?_append_left (by rw [List.length_map];omega),List.getElem?_map,hk];rfl
 rw [e];exact ⟨by rw [hk];rfl,by omega⟩
theorem Zbe {b:TBn} {x:List Nat} (hl:x.length=b.lots.length) (k:Nat):b.tkn (pOf b x) (k:Int)=decide (k∈x):=by
 unfold TBn.tkn
 rw [Bool.eq_iff_iff,List.any_eq_true,decide_eq_true_eq]
 constructor
 · rintro ⟨i,hi,h⟩
   have hi:=List.mem_range.1 hi
   obtain ⟨h1,h2⟩:=Ze9 (b:=b) hl hi
   have h3:na (pOf b x) i=(k:Int):=of_decide_eq_true h
   rw [h3] at h1
   exact List.mem_of_getElem? h1
 · intro h
   obtain ⟨i,hi⟩:=List.mem_iff_getElem?.1 h
   have hil:=(List.getElem?_eq_some_iff.1 hi).1
   obtain ⟨h1,h2⟩:=Ze9 (b:=b) hl (show i<b.lots.length by omega)
   refine ⟨i,List.mem_range.2 (by omega),decide_eq_true ?_⟩
   rw [h1] at hi
   have:=Option.some.inj hi
   omega
theorem Zbd {b:TBn} {x:List Nat} {i k:Nat} (hi:i<x.length):(pOf b x).set i (k:Int)=pOf b (x.set i k):=by
 unfold pOf
 rw [List.set_append_left _ _ (by rw [List.length_map];exact hi),List.map_set]
theorem fits_is {b:TBn} {k i:Nat}:b.fits k i=true↔wW b i≤wS b k:=by unfold TBn.fits wW wS;exact decide_eq_true_iff
theorem Zk0 {b:TBn} {g q:Nat} {x:List Nat} (hl:x.length=b.lots.length):∀ {l:List (Int×Int)},GL b (pOf b x) g q l→∃ z,z.length=b.lots.length∧app (pOf b x) l=pOf b z∧Sp b.sizes.length (wS b) (wW b) l.length x z∧∀ k,k∈z→k∈x∨∃ t∈l,t.2=(k:Int)
 | l,h=>by
   obtain ⟨n,hn⟩:∃ n,l.length=n:=⟨_,rfl⟩
   induction n generalizing l with
   | zero =>
     obtain rfl:=List.length_eq_zero_iff.1 hn
     exact ⟨x,hl,rfl,rfl,fun k hk=>.inl hk⟩
   | succ n ih =>
     obtain ⟨l0,t,rfl⟩:∃ l0 t,l=l0++[t]:=⟨l.dropLast,l.getLast (by intro e;rw [e] at hn;cases hn),(List.dropLast_concat_getLast _).symm⟩
     rw [List.length_append,List.length_singleton] at hn
     have h0:GL b (pOf b x) g q l0:=⟨(List.pairwise_append.1 h.up).1,fun s hs=>h.lt s (by simp [hs]),(List.pairwise_append.1 h.nd).1,by have:=h.few;rw [List.length_append] at this;omega⟩
     obtain ⟨z,h1,h2,h3,h4⟩:=ih l0 h0 (by omega)
     obtain ⟨i,k,rfl,_,hi,hk,hf,ht⟩:=h.lt t (by simp)
     have hkz:k∉z:=fun hm=>by
       rcases h4 k hm with h5 | ⟨s,hs,h5⟩
       · rw [Zbe hl,decide_eq_true h5] at ht;cases ht
       · exact (List.pairwise_append.1 h.nd).2.2 s hs ((i:Int),(k:Int)) (List.mem_singleton.2 rfl) h5
     refine ⟨z.set i k,by rw [List.length_set];exact h1,?_,?_,fun q hq=>?_⟩
     · unfold app
       rw [List.foldl_append]
       show (app (pOf b x) l0).set (i:Int).toNat (k:Int)=_
       rw [h2,Int.toNat_natCast]
       exact Zbd (by omega)
     · rw [List.length_append,List.length_singleton]
       exact ⟨z,h3,i,k,by omega,hk,fits_is.1 hf,hkz,rfl⟩
     · rcases List.mem_or_eq_of_mem_set hq with h5 | h5
       · rcases h4 q h5 with h6 | ⟨s,hs,h6⟩
         · exact .inl h6
         · exact .inr ⟨s,by simp [hs],h6⟩
       · exact .inr ⟨((i:Int),(k:Int)),List.mem_append.2 (.inr (List.mem_singleton.2 rfl)),by rw [h5]⟩
theorem Zec {b:TBn} {g:Nat} {x:List Nat} (hl:x.length=b.lots.length):∀ {d:Nat} {p:List Int},Pth (edR b g) d (pOf b x) p→∃ z c,z.length=b.lots.length∧p=pOf b z∧Sp b.sizes.length (wS b) (wW b) c x z
 | 0,p,h=>⟨x,0,hl,(show pOf b x=p from h).symm,rfl⟩
 | d+1,p,⟨u,h1,l,h2,e⟩=>by
   obtain ⟨z,c,hz,rfl,hs⟩:=Zec hl h1
   obtain ⟨q,hg⟩:=Z8c h2
   obtain ⟨v,hv,e2,hs2,_⟩:=Zk0 hz hg
   exact ⟨v,c+l.length,hv,e.trans e2,Sp.app hs hs2⟩
theorem Zeg {b:TBn} {g:Nat} (hg:1≤g) {x:List Nat} (hl:x.length=b.lots.length):∀ {d:Nat} {z:List Nat},Sp b.sizes.length (wS b) (wW b) d x z→Pth (edR b g) d (pOf b x) (pOf b z)
 | 0,z,h=>by rw [← show x=z from h];rfl
 | d+1,z,⟨u,h1,⟨i,k,hi,hk,hw,hku,e⟩⟩=>by
   have hul:u.length=b.lots.length:=by rw [h1.len];exact hl
   refine ⟨pOf b u,Zeg hg hl h1,[((i:Int),(k:Int))],?_,?_⟩
   · refine Zbp hg hk (fits_is.2 hw) ?_ (Nat.zero_le _) (by omega)
     rw [Zbe hul];exact decide_eq_false hku
   · show pOf b z=(pOf b u).set (i:Int).toNat (k:Int)
     rw [e,Int.toNat_natCast,Zbd hi]
theorem Z94 {b:TBn} (hb:b.ok) (h5:b.sizes.length≤5) (h4:b.lots.length≤4) {g:Nat} (hg:1≤g) {d:Nat} {p:List Int} (h:Pth (edR b g) d b.first p):∃ c,c≤17∧Pth (edR b g) c b.first p:=by
 have hin:∀ x∈b.lots,x.in_=((x.in_.toNat:Nat):Int):=fun x hx=>by have:=(hb.ins x hx).1;omega
 obtain ⟨x,hx⟩:∃ x:List Nat,x=b.lots.map (·.in_.toNat):=⟨_,rfl⟩
 have hl:x.length=b.lots.length:=by rw [hx,List.length_map]
 have e:b.first=pOf b x:=by
   unfold TBn.first pOf
   congr 1
   rw [hx,List.map_map]
   exact List.map_congr_left fun y hy=>hin y hy
 have hv:Val b.sizes.length (wS b) (wW b) x:=by
   refine ⟨?_,fun i k hi=>?_⟩
   · show List.Pairwise (· ≠ ·) _
     rw [List.pairwise_iff_getElem]
     intro i j hi hj hij e2
     subst hx
     rw [List.getElem_map,List.getElem_map] at e2
     rw [List.length_map] at hi hj
     have h1:=(hb.ne j i _ _ (List.getElem?_eq_getElem hj) (List.getElem?_eq_getElem hi) hij).1
     have h2:=hin _ (List.getElem_mem hi)
     have h3:=hin _ (List.getElem_mem hj)
     exact h1 (by rw [h2,h3,e2])
   · subst hx
     rw [List.getElem?_map] at hi
     obtain ⟨y,hy,rfl⟩:=Option.map_eq_some_iff.1 hi
     have h1:=(hb.ins y (List.mem_of_getElem? hy)).1
     exact ⟨by omega,fits_is.1 (hb.hold i y hy).1⟩
 rw [e] at h ⊢
 obtain ⟨z,c,hz,rfl,hs⟩:=Zec hl h
 obtain ⟨c',hc,hs'⟩:=Zau h5 hv (by omega) hs
 exact ⟨c',hc,Zeg hg hl hs'⟩
open Go
theorem ZgO:cal Tryz.prog 154=true:=by kernel_rfl
theorem ZiS:elN Tryz.prog 45=some 2:=by kernel_rfl
theorem ZjT:eqB Tryz.prog 10000 47=some (true,2):=by kernel_rfl
theorem ZjV:Tryz.prog.eqGuardType Tryz.prog.depth 47=false:=by kernel_rfl
def tvl (t:Int×Int):List Value:=[.int .i64 t.1,.int .i64 t.2]
abbrev tvs (l:List (Int×Int)):List (List Value):=l.map tvl
theorem tor_get {l:List (Int×Int)} {k:Nat} {t:Int×Int} (h:l[k]?=some t):(tor l)[k]?=some (tvl t):=by unfold tor tvl;rw [List.getElem?_map,h];rfl
theorem Zbt {sz:Nat} {rows:List (List Value)} {w:World} (h:RowsA none sz rows w):rows=[]:=by
 cases rows with
 | nil=>rfl
 | cons r rows=>obtain ⟨_,b,off,he,_⟩:=h 0 r rfl;cases he
structure RT (d:TD) (p:List Int) (g x2 x3 x5:Nat) (R:Z5):Prop where
 f2:RowsA (some ⟨x2,0,none⟩) 1 [[.pointer (some ⟨d.bd,0,none⟩)]]∈R
 f3:RowsA (some ⟨x3,0,none⟩) 1 [[.int .i64 (g:Int)]]∈R
 f5:RowsA (some ⟨x5,0,none⟩) 6 [Za p]∈R
 fd:RowsA (some ⟨d.bd,0,none⟩) 8 [d.l]∈R
 r1:RowsA d.a1 1 (irows d.y.sizes)∈R
 r2:RowsA d.a2 3 (trows d.y.lots)∈R
theorem Za4 (xs:List (Int×Int)) (a:Option Addr) (c g:Nat) (fst cap:List Value) (p:(Int×Int)→Bool) (hg:cal Tryz.prog g=true) (hl:xs.length≤9223372036854775807) (H:Z8) (R:Z5) [hR:MemRows a 2 (tvs xs) R] (hp:∀ x,x∈xs→FnV Tryz.prog g (fst++[.agg (tvl x).toArray]++cap) H R (.bool (p x))) :
    FnV Tryz.prog 154 [.slice a xs.length c,.func (.func g) fst.toArray cap.toArray] H R (.int .i64 (match xs.findIdx? p with | some k=>(k:Int) | none => -1)):=by
 refine Ze Tryz.func154 rfl Tryz.ntmps154 rfl ?_
 refine sqt 1 rfl (pur 1 rfl (Z0 (sqt 3 rfl (pur 1 rfl (sp rfl (PE.lenSl Z3s rfl) rfl (pur 1 rfl (Z3 ?_)))))))
 refine Zd (ι:={k:Nat // k≤xs.length∧∀ x∈xs.take k,p x=false}) (fun k=>⟨[(0,.slice a xs.length c),(1,.func (.func g) fst.toArray cap.toArray),(7,.int .i64 xs.length),(8,.int .i64 k.1)],H,R⟩) (fun k=>xs.length-k.1) ⟨0,by simp⟩ ?_ (fun k=>?_)
 exact Zj idH
 obtain ⟨k,hk,hn⟩:=k
 dsimp only
 refine sqt 1 rfl (pur 1 rfl (Z0 ?_))
 refine Z2 rfl ?_ ?_<;>intro hc0
 simp only [cS] at hc0
 obtain ⟨x,hx⟩:∃ x,xs[k]?=some x:=⟨_,List.getElem?_eq_getElem (by omega)⟩
 have hxm:=List.mem_of_getElem? hx
 refine Zi (a:=a) (sz:=2) (rows:=tvs xs) (by cases xs<;>simp_all [tvs]) (fun b off he=>?_)
 subst he
 refine Z1 (Z0 (Z3 (sqt 2 rfl (pur 2 rfl (sqt 6 rfl (pur 3 rfl (sp rfl (PE.indexAddr ZiS rfl rfl (by omega) (by omega)) rfl (spL rfl rfl (lfA Zer (row:=tvl x) (by simp [tvs,hx]) rfl) rfl ?_))))))))
 refine Z5f rfl rfl (hg) rfl rfl (hp x hxm) ?_
 refine Z2 rfl ?_ ?_<;>intro hc1
 refine sqt 2 rfl (pur 2 rfl (Z4 ?_))
 first | (exact rtA rfl rfl rfl ⟨by rw [Zy hx hn hc1];rfl,rfl,rfl⟩ idH) | (exact rtA rfl rfl rfl ⟨by rw [Zs (by simpa using hn)];rfl,rfl,rfl⟩ idH)
 refine Z1 (sqr 2 rfl (sp rfl (PE.add rfl rfl (by omega)) rfl (pur 1 rfl ?_)))
 exact Zc ⟨k+1,by omega,ZT hx hn hc1⟩ idH
 simp only [cS] at hc0
 obtain rfl:k=xs.length:=by omega
 refine Z7 (Z9 (Z9 (Zk (sqt 1 rfl (pur 1 rfl (Z4 ?_))))))
 first | (exact rtA rfl rfl rfl ⟨by rw [Zy hx hn hc1];rfl,rfl,rfl⟩ idH) | (exact rtA rfl rfl rfl ⟨by rw [Zs (by simpa using hn)];rfl,rfl,rfl⟩ idH)
theorem Z9Z (xs:List (Int×Int)) (a:Option Addr) (c g:Nat) (fst cap:List Value) (p:(Int×Int)→Bool) (hg:cal Tryz.prog g=true) (hl:xs.length≤9223372036854775807) (H:Z8) (R:Z5) [hR:MemRows a 2 (tvs xs) R] (hp:∀ x,x∈xs→FnV Tryz.prog g (fst++[.agg (tvl x).toArray]++cap) H R (.bool (p x))) :
    FnV Tryz.prog 88 [.slice a xs.length c,.func (.func g) fst.toArray cap.toArray] H R (.bool (xs.any p)):=by
 refine Ze Tryz.func88 rfl Tryz.ntmps88 rfl ?_
 refine sqt 1 rfl (pur 1 rfl (sqt 5 rfl (pur 2 rfl ?_)))
 refine clV rfl ZgO rfl rfl (Za4 xs a c g fst cap p hg hl _ _ hp) ?_
 refine pur 2 rfl (Z4 ?_)
 exact rtA rfl rfl rfl ⟨by simp only [ZR];exact Z0v _ _,rfl,rfl⟩ drp
theorem Z7W (l:List (Int×Int)) (a:Option Addr) (c:Nat) (hl:l.length≤1000) (H:Z8) (R:Z5) [hR:MemRows a 2 (tor l) R] :
    Fn Tryz.prog 90 [.slice a l.length c] H R (fun v H' R'=>∃ o:OSl 47 2 (tor l),v=o.fs∧H'=o.G++H∧R'=R):=by
 refine Ze Tryz.func90 rfl Tryz.ntmps90 rfl ?_
 refine sqt 1 rfl (pur 1 rfl (Z0 (sqt 2 rfl (pur 1 rfl (sp rfl (PE.eqlNil (a:=a) (n:=l.length) (c:=c) Z3s rfl rfl) rfl ?_)))))
 refine Z2 rfl ?_ ?_<;>intro hc0
 ·
  try simp only [cS] at hc0
  obtain rfl:a=none:=by cases a with | none=>rfl | some x=>exact absurd hc0 (by simp)
  refine Sy.heap (R':=R) idH ?_
  by_cases hl0:l=[]
  rotate_left
  · exact fun q w ha hD hs=>absurd (Zbt (hs.now hR.mem)) (by intro e;exact hl0 (List.map_eq_nil_iff.1 e))
  subst hl0
  refine sqt 1 rfl (pur 1 rfl (Z4 ?_))
  exact rtA rfl rfl rfl ⟨OSl.nil _ _,rfl,rfl,rfl⟩ idH
 refine Z1 (sqt 4 rfl ?_)
 refine ZiM rfl Zg9 rfl (fun o5 ho5=>?_)
 refine pur 1 rfl ?_
 refine apO (news:=tor l) o5 rfl Zgk rfl rfl (Zbs) (Z1h _) (ZbM _) (by rw [Z1h];simp only [List.length_nil];omega) rfl (fun o7=>?_)
 refine pur 1 rfl (Z4 ?_)
 exact rtA rfl rfl rfl ⟨o7.cast rfl,rfl,rfl,rfl⟩ idH
theorem Zgx (t:Int×Int) (b q:Nat) (H:Z8) (R:Z5) [hM:MemRows (some ⟨b,0,none⟩) 1 [[.int .i64 (q:Int)]] R] :
    FnV Tryz.prog 89 [.agg (tvl t).toArray,.pointer (some ⟨b,0,none⟩)] H R (.bool (decide (t.2=(q:Int)))):=by
 refine Ze Tryz.func89 rfl Tryz.ntmps89 rfl ?_
 refine sqt 2 rfl (bx rfl rfl rfl (fun b2=>pur 1 rfl (sqt 7 rfl (spL rfl rfl (lhA (tvl t) Zer rfl (rest:=[]) rfl rfl) rfl (sp rfl (PE.fA Z6u rfl) rfl (spL rfl rfl (lh (v:=.int .i64 t.1) sc3 rfl rfl) rfl (spL rfl rfl (lfB (sz:=1) sc3 rfl) rfl (sp rfl (PE.build (out:=[_,_]) Zk5 ZbV rfl rfl) rfl (sp rfl (PE.eqlAgg [t.1,t.2] [t.1,(q:Int)] (Z1v 10000 47 true 2 ZjT) ZjV rfl rfl rfl rfl) rfl (pur 1 rfl (Z4 ?_)))))))))))
 exact rtA rfl rfl rfl ⟨by simp only [ZR];congr 1;exact decide_eq_decide.2 (by simp),rfl,rfl⟩ drp
end Go.Proofs.YtcfdanhklbklkaaGreat.Tu
