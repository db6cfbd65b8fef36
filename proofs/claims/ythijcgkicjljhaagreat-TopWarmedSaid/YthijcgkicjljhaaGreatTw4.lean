/- Walks of the functions of the program, and the laws that join them: what the last theorem of this claim needs, in order. -/
import Derived.Test.YthijcgkicjljhaaGreatTw3
namespace Go.Proofs.YthijcgkicjljhaaGreat.Ro
set_option linter.unusedSimpArgs false
set_option linter.unusedVariables false
open Go
theorem Zfz:cal Tryz.prog 125=true:=by kernel_rfl
theorem Z9h:cal Tryz.prog 126=true:=by kernel_rfl
theorem ZfN:cal Tryz.prog 152=true:=by kernel_rfl
theorem Z9j:cal Tryz.prog 161=true:=by kernel_rfl
theorem Zj7:cal Tryz.prog 88=true:=by kernel_rfl
theorem ZdH:elN Tryz.prog 68=some 2:=by kernel_rfl
theorem Zbj:Z7Y Tryz.prog 203=some .u64:=by kernel_rfl
theorem ik3:Z7Y Tryz.prog 3=some .i64:=by kernel_rfl
theorem ik5:Z7Y Tryz.prog 5=some .u8:=by kernel_rfl
theorem Z5L:Z2n Tryz.prog 68=true:=by kernel_rfl
theorem ZdP:Zbm Tryz.prog 9=true:=by kernel_rfl
theorem ZeC:(Tryz.prog.underlying 258).isSome=true:=by kernel_rfl
theorem us3:(Tryz.prog.underlying 3).isSome=true:=by kernel_rfl
theorem us5:(Tryz.prog.underlying 5).isSome=true:=by kernel_rfl
def Zz (l:List (Int×Int)):List (List Value):=l.map fun x=>[.int .i64 x.1,.int .i64 x.2]
theorem Z1c (l:List (Int×Int)):(Zz l).length=l.length:=List.length_map _
theorem Z1u (l:List (Int×Int)):∀ r∈Zz l,r.length=2:=fun r hr=>by obtain ⟨x,_,rfl⟩:=List.mem_map.1 hr;rfl
theorem Z5U {l:List (Int×Int)} {k:Nat} {x:Int×Int} (h:l[k]?=some x):(Zz l)[k]?=some [.int .i64 x.1,.int .i64 x.2]:=by simp [Zz,h]
theorem Z2v {sz:Nat} {rows:List (List Value)} (hs:∀ r∈rows,r.length=sz) {k:Nat} {row:List Value} (h:rows[k]?=some row) (junk:List Value):∃ rest,(rows.flatten++junk).drop (k*sz)=row++rest:=by
 have hk:=(List.getElem?_eq_some_iff.1 h).1
 have e:rows=rows.take k++row::rows.drop (k+1):=by
   conv=>lhs;rw [← List.take_append_drop k rows]
   rw [List.drop_eq_getElem_cons hk,(List.getElem?_eq_some_iff.1 h).2]
 have hl:(rows.take k).flatten.length=k*sz:=by rw [ZH fun r hr=>hs r (List.mem_of_mem_take hr),List.length_take,Nat.min_eq_left (by omega)]
 refine ⟨(rows.drop (k+1)).flatten++junk,?_⟩
 conv=>lhs;rw [e]
 rw [List.flatten_append,List.flatten_cons,List.append_assoc,List.append_assoc,← hl,List.drop_left]
theorem Z54 (A M B J row:List Value) (h:row.length=M.length):spl ((A++(M++B))++J) A.length row=(A++(row++B))++J:=by
 unfold spl
 rw [List.append_assoc A,List.take_left,List.drop_length_add_append,h,List.append_assoc M,List.drop_left]
 simp only [List.append_assoc]
theorem Z48 {sz:Nat} {rows:List (List Value)} (hs:∀ r∈rows,r.length=sz) {k i:Nat} {row:List Value} (hk:k<rows.length) (hr:row.length=sz) (e:i=k*sz) (junk:List Value):spl (rows.flatten++junk) i row=(rows.set k row).flatten++junk:=by
 have hl:(rows.take k).flatten.length=k*sz:=by rw [ZH fun r hr=>hs r (List.mem_of_mem_take hr),List.length_take,Nat.min_eq_left (by omega)]
 have e1:rows.flatten=(rows.take k).flatten++(rows[k]++(rows.drop (k+1)).flatten):=by
   conv=>lhs;rw [← List.take_append_drop k rows]
   rw [List.drop_eq_getElem_cons hk,List.flatten_append,List.flatten_cons]
 have h2:rows[k].length=sz:=hs _ (List.getElem_mem hk)
 rw [List.set_eq_take_append_cons_drop,if_pos hk,List.flatten_append,List.flatten_cons,e1,e,← hl]
 exact Z54 _ _ _ _ _ (by rw [hr,h2])
theorem Z5V (l:List (Int×Int)) (k:Nat) (x:Int×Int):(Zz l).set k [.int .i64 x.1,.int .i64 x.2]=Zz (l.set k x):=by simp [Zz,List.map_set]
theorem Z3G (l:List (Int×Int)):(Zz l).flatten.length=l.length*2:=by rw [ZH (Z1u l),Z1c]
theorem Z6f (k:Nat) (hk:k≤12) (H:Z7) (R:Z4) :
    Fn Tryz.prog 161 [.int .u64 k] H R (fun v H' R'=>∃ z:Int,v = .int .i64 z∧H'=H∧R'=R):=by
 refine Z9 Tryz.func161 rfl Tryz.ntmps161 rfl ?_
 refine sqt 1 rfl (pur 1 rfl (Z0 (sqt 2 rfl (pur 1 rfl (sp rfl (PE.geq  rfl rfl) rfl ?_)))))
 refine Z2 rfl ?_ ?_<;>intro hc0
 simp only [decide_eq_true_eq] at hc0
 omega
 refine Z3 (Z0 (sqt 2 rfl (pur 1 rfl (sp rfl (PE.geq  rfl rfl) rfl ?_))))
 refine Z2 rfl ?_ ?_<;>intro hc1
 simp only [decide_eq_true_eq] at hc1
 omega
 refine Z3 (Z0 (sqt 2 rfl (pur 1 rfl (sp rfl (PE.geq  rfl rfl) rfl ?_))))
 refine Z2 rfl ?_ ?_<;>intro hc2
 simp only [decide_eq_true_eq] at hc2
 omega
 refine Z3 (sqt 7 rfl (pur 2 rfl ?_))
 refine sp rfl ((PE.convert ZeC ik5 rfl).to (by rw [Z4l (by omega) (by omega)])) rfl ?_
 refine spE rfl (PE.indexS (m:=256) ZdP rfl rfl (by kernel_rfl) (by omega)) rfl ?_
 rintro _ ⟨u22,rfl,hu22⟩
 refine sp rfl (PE.conv64 us5 ik3 rfl (by omega)) rfl (sp rfl (PE.add rfl rfl (by omega)) rfl (pur 1 rfl (Z5 ?_)))
 exact rtA rfl rfl rfl ⟨_,rfl,rfl,rfl⟩ idH
theorem Zdb (k:Nat) (hk:k≤12) (H:Z7) (R:Z4) :
    Fn Tryz.prog 126 [.int .u64 k] H R (fun v H' R'=>∃ z:Int,v = .int .i64 z∧H'=H∧R'=R):=by
 refine Z9 Tryz.func126 rfl Tryz.ntmps126 rfl ?_
 refine sqt 1 rfl (pur 1 rfl (Z0 ?_))
 refine ZD rfl ?_
 refine Z3 (sqt 3 rfl (pur 1 rfl ?_))
 refine cl rfl Z9j rfl rfl (Z6f k hk _ _) ?_
 rintro _ _ R1 ⟨z,rfl,rfl,hR1⟩
 obtain rfl:=hR1.symm
 clear hR1
 refine pur 1 rfl (Z5 ?_)
 exact rtA rfl rfl rfl ⟨_,rfl,rfl,rfl⟩ idH
theorem Z9c (x y:Int×Int) (H:Z7) (R:Z4) :
    Fn Tryz.prog 88 [.agg #[.int .i64 x.1,.int .i64 x.2],.agg #[.int .i64 y.1,.int .i64 y.2]] H R (fun v H' R'=>∃ z:Int,v = .int .i64 z∧H'=H∧R'=R):=by
 refine Z9 Tryz.func88 rfl Tryz.ntmps88 rfl ?_
 refine sqt 3 rfl (bx rfl rfl rfl (fun b2=>bx rfl rfl rfl (fun b3=>pur 1 rfl (sqt 13 rfl (sp rfl (PE.fA Z2b rfl) rfl (spL rfl rfl (lh sc3 rfl rfl) rfl (sp rfl (PE.fA Z2b rfl) rfl (spL rfl rfl (lh sc3 rfl rfl) rfl (sp rfl (PE.subW rfl rfl) rfl (sp rfl (PE.mulW rfl rfl) rfl (sp rfl (PE.fA Z2a rfl) rfl (spL rfl rfl (lh sc3 rfl rfl) rfl (sp rfl (PE.addW rfl rfl) rfl (sp rfl (PE.fA Z2a rfl) rfl (spL rfl rfl (lh sc3 rfl rfl) rfl ?_)))))))))))))))
 refine sp rfl (PE.subW rfl rfl) rfl (pur 1 rfl (Z5 ?_))
 exact rtA rfl rfl rfl ⟨_,rfl,rfl,rfl⟩ drp
theorem Z96 (l:List (Int×Int)) (n b cap:Nat) (junk:List Value) (hl:l.length=n) (hn:n≤12) (H:Z7) (R:Z4) :
    Fn Tryz.prog 152 [.slice (some ⟨b,0,none⟩) n cap,.int .i64 0,.int .i64 n,.func (.func 88) #[] #[]] ((b,cel 43 ((Zz l).flatten++junk))::H) R (fun v H' R'=>v = .tuple #[]∧H'=H∧R'=R):=by
 refine Z9 Tryz.func152 rfl Tryz.ntmps152 rfl ?_
 refine sqt 3 rfl (pur 1 rfl (sp rfl (PE.add rfl rfl (by omega)) rfl (pur 1 rfl (Z1 ?_))))
 refine Zc (ι:={x:Nat×List (Int×Int) // 1≤x.1∧x.1≤13∧x.2.length=n}) (fun x=>⟨[(0,.slice (some ⟨b,0,none⟩) n cap),(1,.int .i64 0),(2,.int .i64 n),(3,.func (.func 88) #[] #[]),(8,.int .i64 x.1.1)],(b,cel 43 ((Zz x.1.2).flatten++junk))::H,R⟩) (fun x=>n-x.1.1) ⟨(1,l),by omega,by omega,hl⟩ ?_ (fun x=>?_)
 exact Zf idH
 obtain ⟨⟨i,xs⟩,hi1,hi2,hxl⟩:=x
 dsimp only at hi1 hi2 hxl ⊢
 refine Z0 (sqt 3 rfl (pur 3 rfl ?_))
 refine Z2 rfl ?_ ?_<;>intro hc0
 try simp only [cS] at hc0
 refine Z3 (Z0 (Z1 (sqt 2 rfl (pur 2 rfl (Z1 ?_)))))
 refine Zc (ι:={x:Nat×List (Int×Int) // x.1≤i∧x.2.length=n}) (fun x=>⟨[(0,.slice (some ⟨b,0,none⟩) n cap),(1,.int .i64 0),(2,.int .i64 n),(3,.func (.func 88) #[] #[]),(8,.int .i64 i),(9,.int .i64 x.1.1)],(b,cel 43 ((Zz x.1.2).flatten++junk))::H,R⟩) (fun x=>x.1.1) ⟨(i,xs),Nat.le_refl _,hxl⟩ ?_ (fun x=>?_)
 exact Zf idH
 obtain ⟨⟨j,ys⟩,hji,hyl⟩:=x
 dsimp only at hji hyl ⊢
 refine Z0 (Z0 ?_)
 refine Zd [0,0,3,7,15,15,15,111,239,15,15,1039,3599,7695,16383,32767,65535] (tks 0 8 (.ld 8 (tks 9 4 (.ld 13 (.big 14 (.tk 15 (.tk 16 .done))))))) Zq (by kernel_rfl) ?_
 refine Zm 4 rfl ?_
 refine Zv 21 rfl ?_ ?_<;>intro g21
 try simp only [cS] at g21
 obtain ⟨x,hx⟩:∃ x,ys[j]?=some x:=⟨_,List.getElem?_eq_getElem (by omega)⟩
 obtain ⟨y,hy⟩:∃ y,ys[j-1]?=some y:=⟨_,List.getElem?_eq_getElem (by omega)⟩
 obtain ⟨rx,hrx⟩:∃ rest,((Zz ys).flatten++junk).drop (0+((j:Nat):Int).toNat*2)=[.int .i64 x.1,.int .i64 x.2]++rest:=by rw [Nat.zero_add,Int.toNat_natCast];exact Z2v (Z1u ys) (Z5U hx) junk
 obtain ⟨ry,hry⟩:∃ rest,((Zz ys).flatten++junk).drop (0+((j-1:Nat):Int).toNat*2)=[.int .i64 y.1,.int .i64 y.2]++rest:=by rw [Nat.zero_add,Int.toNat_natCast];exact Z2v (Z1u ys) (Z5U hy) junk
 refine Zm 3 rfl ?_
 refine tkG rfl rfl rfl rfl (PE.indexAddr ZdH rfl rfl (by omega) (by omega)) rfl ?_
 refine ldG rfl rfl rfl rfl rfl (lhA [.int .i64 x.1,.int .i64 x.2] Z1Z rfl (rest:=rx) hrx rfl) rfl (Zm 2 rfl ?_)
 refine tkG rfl rfl rfl rfl (PE.sub rfl rfl (by omega)) rfl ?_
 rw [show (j:Int)-1=((j-1:Nat):Int) from by omega]
 refine tkG rfl rfl rfl rfl (PE.indexAddr ZdH rfl rfl (by omega) (by omega)) rfl ?_
 refine ldG rfl rfl rfl rfl rfl (lhA [.int .i64 y.1,.int .i64 y.2] Z1Z rfl (rest:=ry) hry rfl) rfl ?_
 refine Zjd rfl rfl rfl rfl rfl (Zj7) rfl rfl (Z9c x y _ _) ?_
 rintro _ _ R1 ⟨z,rfl,rfl,hR1⟩
 obtain rfl:=hR1.symm
 clear hR1
 refine bgT (Zm 2 rfl ?_)
 refine Z2 rfl ?_ ?_<;>intro hc1
 refine Z3 (Z0 (Z1 ?_))
 refine Zd [0,0,0,0,8,0,0,64,224,480,0,0,3072,7168,16355,32739,65535,131071] (tks 0 9 (.ld 9 (tks 10 3 (.ld 13 (.tk 14 (.big 15 (.tk 16 (.big 17 .done)))))))) Zq (by kernel_rfl) ?_
 refine Zm 4 rfl (tk rfl (PE.sub rfl rfl (by omega)) rfl (Zm 2 rfl (tk rfl (PE.sub rfl rfl (by omega)) rfl ?_)))
 rw [show (j:Int)-1=((j-1:Nat):Int) from by omega]
 refine tk rfl (PE.indexAddr ZdH rfl rfl (by omega) (by omega)) rfl (ld rfl rfl (lhA [.int .i64 y.1,.int .i64 y.2] Z1Z rfl (rest:=ry) hry rfl) rfl (Zm 2 rfl (tk rfl (PE.indexAddr ZdH rfl rfl (by omega) (by omega)) rfl (ld rfl rfl (lhA [.int .i64 x.1,.int .i64 x.2] Z1Z rfl (rest:=rx) hrx rfl) rfl (tk rfl (PE.indexAddr ZdH rfl rfl (by omega) (by omega)) rfl ?_)))))
 refine Z03 (l:=(Zz (ys)).flatten++junk) (l':=(Zz ((ys).set j y)).flatten++junk) rfl rfl rfl Z9u rfl rfl rfl (by rw [← Z5V (ys) j y];exact Z48 (k:=j) (rows:=Zz (ys)) (Z1u _) (by rw [Z1c];omega) rfl (by rw [Nat.zero_add,Int.toNat_natCast]) junk) (by show 0+((j:Nat):Int).toNat*2+2≤((Zz (ys)).flatten++junk).length;rw [List.length_append,Z3G,Int.toNat_natCast];omega) ?_
 refine bgT (tk rfl (PE.indexAddr ZdH rfl rfl (by omega) (by omega)) rfl ?_)
 refine Z03 (l:=(Zz (ys.set j y)).flatten++junk) (l':=(Zz ((ys.set j y).set (j-1) x)).flatten++junk) rfl rfl rfl Z9u rfl rfl rfl (by rw [← Z5V (ys.set j y) (j-1) x];exact Z48 (k:=(j-1)) (rows:=Zz (ys.set j y)) (Z1u _) (by rw [Z1c,List.length_set];omega) rfl (by rw [Nat.zero_add,Int.toNat_natCast]) junk) (by show 0+(((j-1):Nat):Int).toNat*2+2≤((Zz (ys.set j y)).flatten++junk).length;rw [List.length_append,Z3G,List.length_set,Int.toNat_natCast];omega) ?_
 refine bgT (sqr 3 rfl (pur 1 rfl (sp rfl (PE.sub rfl rfl (by omega)) rfl (pur 1 rfl ?_))))
 rw [show (j:Int)-1=((j-1:Nat):Int) from by omega]
 exact Zb ⟨(j-1,(ys.set j y).set (j-1) x),by dsimp only;omega,by simp [hyl]⟩ idH
 refine Z8 (Za (Za (Zn (sqr 3 rfl (pur 1 rfl (sp rfl (PE.add rfl rfl (by omega)) rfl (pur 1 rfl ?_)))))))
 exact Zb ⟨(i+1,ys),by dsimp only;omega,by dsimp only;omega,hyl⟩ idH
 refine Zm 4 rfl ?_
 refine ldN rfl rfl rfl rfl rfl rfl rfl rfl ?_
 refine Zm 4 rfl ?_
 refine ldN rfl rfl rfl rfl rfl rfl rfl rfl ?_
 refine spN rfl rfl rfl rfl rfl rfl rfl rfl ?_
 refine bgT (Zm 2 rfl ?_)
 refine ZD rfl ?_
 refine Z8 (Za (Za (Zn (sqr 3 rfl (pur 1 rfl (sp rfl (PE.add rfl rfl (by omega)) rfl (pur 1 rfl ?_)))))))
 exact Zb ⟨(i+1,ys),by dsimp only;omega,by dsimp only;omega,hyl⟩ idH
 refine Z8 (Za (Za (Zn ?_)))
 exact Z0Q (vs:=[]) rfl .nil rfl ⟨rfl,rfl,rfl⟩ (fun w h=>h.tail)
theorem Z97 (H:Z7) (R:Z4) :
    FnV Tryz.prog 152 [.slice none 0 0,.int .i64 0,.int .i64 ((0:Nat):Int),.func (.func 88) #[] #[]] H R (.tuple #[]):=by
 refine Z9 Tryz.func152 rfl Tryz.ntmps152 rfl ?_
 refine sqt 3 rfl (pur 1 rfl (sp rfl (PE.add rfl rfl (by omega)) rfl (pur 1 rfl (Z1 ?_))))
 refine Zc (ι:=Unit) (fun _=>⟨[(2,.int .i64 ((0:Nat):Int)),(8,.int .i64 1)],H,R⟩) (fun x=>0) () ?_ (fun x=>?_)
 exact Zf idH
 refine Z0 (sqt 3 rfl (pur 3 rfl ?_))
 refine Z2 rfl ?_ ?_<;>intro hc0
 exact absurd hc0 (by simp)
 refine Z8 (Za (Za (Zn ?_)))
 exact Z0Q (vs:=[]) rfl .nil rfl ⟨rfl,rfl,rfl⟩ idH
theorem Zdh (l:List (Int×Int)) (o:OSl 43 2 (Zz l)) (hl:l.length≤12) (H:Z7) (R:Z4):Fn Tryz.prog 152 [o.fs,.int .i64 0,.int .i64 l.length,.func (.func 88) #[] #[]] (o.G++H) R (fun v H' R'=>v = .tuple #[]∧H'=H∧R'=R):=by
 rcases o.is with ⟨h1,h2,h3⟩ | ⟨b,cap,junk,h2,h3,hj,hc,hm⟩
 · have hx:l=[]:=List.map_eq_nil_iff.1 h1
   subst hx
   rw [h2,h3]
   exact Z97 H R
 · rw [Z1c] at h2
   rw [h2,h3]
   exact Z96 l l.length b cap junk rfl hl H R
theorem Zdk (l:List (Int×Int)) (o:OSl 43 2 (Zz l)) (hl:l.length≤12) (z:Int) (H:Z7) (R:Z4) :
    Fn Tryz.prog 125 [o.fs,.int .i64 0,.int .i64 l.length,.int .i64 z,.func (.func 88) #[] #[]] (o.G++H) R (fun v H' R'=>v = .tuple #[]∧H'=H∧R'=R):=by
 refine Z9 Tryz.func125 rfl Tryz.ntmps125 rfl ?_
 refine sqt 1 rfl (pur 1 rfl (sqt 1 rfl (pur 1 rfl (Z1 ?_))))
 refine Zc (ι:=Unit) (fun _=>⟨[(0,o.fs),(1,.int .i64 0),(2,.int .i64 l.length),(4,.func (.func 88) #[] #[])],o.G++H,R⟩) (fun x=>0) () ?_ (fun x=>?_)
 exact Zf idH
 refine Z1 (sqt 4 rfl (pur 2 rfl (sp rfl (PE.sub rfl rfl (by omega)) rfl (pur 1 rfl (Z0 (sqt 2 rfl (pur 2 rfl ?_)))))))
 refine Z2 rfl ?_ ?_<;>intro hc0
 refine sqt 5 rfl (pur 4 rfl ?_)
 refine cl rfl ZfN rfl rfl (Zdh l o hl _ _) ?_
 rintro _ _ R1 ⟨rfl,rfl,hR1⟩
 obtain rfl:=hR1.symm
 clear hR1
 refine Z5 ?_
 exact Zk (vs:=[]) rfl .nil rfl ⟨rfl,rfl,rfl⟩ idH
 simp only [decide_eq_false_iff_not] at hc0
 omega
theorem Z6g (l:List (Int×Int)) (o:OSl 43 2 (Zz l)) (hl:l.length≤12) (H:Z7) (R:Z4) :
    Fn Tryz.prog 87 [o.fs,.func (.func 88) #[] #[]] (o.G++H) R (fun v H' R'=>v = .tuple #[]∧H'=H∧R'=R):=by
 obtain ⟨a,c,he⟩:∃ a c,o.fs = .slice a l.length c:=by
   rcases o.is with ⟨h1,h2,_⟩ | ⟨b,c,j,h,_⟩
   · exact ⟨none,0,by rw [h2,show l=[] from List.map_eq_nil_iff.1 h1];rfl⟩
   · rw [Z1c] at h;exact ⟨_,_,h⟩
 refine Z9 Tryz.func87 rfl Tryz.ntmps87 rfl ?_
 refine sqt 3 rfl (pur 1 rfl (sp rfl (PE.lenSl Z5L (congrArg some he)) rfl (pur 1 rfl (sqr 7 rfl (pur 3 rfl ?_)))))
 refine sp rfl ((PE.convert us3 Zbj rfl).to (by rw [Z1X (by omega) (by omega)])) rfl ?_
 refine cl rfl Z9h rfl rfl (Zdb l.length hl _ _) ?_
 rintro _ _ R1 ⟨z,rfl,rfl,hR1⟩
 obtain rfl:=hR1.symm
 clear hR1
 refine pur 1 rfl ?_
 refine cl rfl Zfz rfl rfl (Zdk l o hl z _ _) ?_
 rintro _ _ R1 ⟨rfl,rfl,hR1⟩
 obtain rfl:=hR1.symm
 clear hR1
 exact Z0Q (vs:=[]) rfl .nil rfl ⟨rfl,rfl,rfl⟩ idH
def Rb.shI (b:Rb) (i:Nat):Bool:=match b.rods[i]? with | some x=>decide (0<x.s) | none=>false
def Rb.shn (b:Rb) (j:Nat):Nat:=Z3V b.shI j
theorem Rb.shn_step {b:Rb} {j:Nat} {x:Rd} (h:b.rods[j]?=some x):b.shn (j+1)=bif decide (0<x.s) then b.shn j|||1*2 ^ j else b.shn j:=by
 unfold Rb.shn
 rw [Nat.one_mul]
 show (bif b.shI j then _ else _)=_
 rw [show b.shI j=decide (0<x.s) by unfold Rb.shI;rw [h]]
theorem Rb.shn_lt (b:Rb) (j:Nat):b.shn j<2 ^ j:=Z4u _ _
set_option maxHeartbeats 400000 in
theorem Z9e (b:Rb) (a:Option Addr) (c:Nat) (hb:b.ok) (H:Z7) (R:Z4) [hB:MemRows a 4 (rdrows b.rods) R] :
    FnV Tryz.prog 85 [(b.v a c)] H R (.int .i64 ((b.shn b.rods.length:Nat):Int)):=by
 refine Z9 Tryz.func85 rfl Tryz.ntmps85 rfl ?_
 refine sqt 2 rfl (bx rfl rfl rfl (fun b1=>pur 1 rfl (sqt 1 rfl (pur 1 rfl (Z0 (sqt 4 rfl (sp rfl (PE.fA Z0a rfl) rfl (spL rfl rfl (lh Z52 rfl rfl) rfl (sp rfl (PE.lenSl Z3Z rfl) rfl (pur 1 rfl (Z1 ?_)))))))))))
 refine Zc (ι:={j:Nat // j≤b.rods.length}) (fun j=>⟨[(3,.int .i64 ((b.shn j.1:Nat):Int)),(7,.slice a b.rods.length c),(8,.int .i64 b.rods.length),(9,.int .i64 (j.1:Int))],(b1,cel 39 (rbl b a c))::H,R⟩) (fun j=>b.rods.length-j.1) ⟨0,Nat.zero_le _⟩ ?_ (fun j=>?_)
 exact Zf idH
 obtain ⟨j,hj⟩:=j
 dsimp only at hj ⊢
 have hbf:=hb.few
 have hlt:=b.shn_lt j
 have hp8:(2:Nat) ^ j≤2 ^ 8:=Nat.pow_le_pow_right (by decide) (by omega)
 refine sqt 1 rfl (pur 1 rfl (Z0 ?_))
 refine Z2 rfl ?_ ?_<;>intro hc0<;>try simp only [cS] at hc0
 obtain ⟨x,hx⟩:∃ x,b.rods[j]?=some x:=⟨_,List.getElem?_eq_getElem (by omega)⟩
 have hst:=Rb.shn_step hx
 refine Zl (a:=a) (sz:=4) (rows:=rdrows b.rods) (Zag hx) (fun ba oa he=>?_)
 subst he
 refine Z3 (Z0 (Z1 (sqt 6 rfl (pur 1 rfl (sp rfl (PE.indexAddr ZdG rfl rfl (by omega) (by omega)) rfl (spL rfl rfl (lfA ZaH (row:=rdrow x) (Z7y hx) rfl) rfl (alc rfl Z3Q rfl (fun b5=>pur 1 rfl ?_))))))))
 refine Z03 (l':=rdrow x) rfl rfl rfl ZaJ rfl rfl rfl rfl (nl rfl) ?_
 refine sqt 3 rfl (sp rfl (PE.fA Z2H rfl) rfl (spL rfl rfl (lh sc3 rfl rfl) rfl (pur 1 rfl ?_)))
 refine Z2 rfl ?_ ?_<;>intro hc1<;>try simp only [cS] at hc1
 have hs2:b.shn (j+1)=b.shn j|||1*2 ^ j:=by rw [hst,dT (show 0<x.s from hc1)];rfl
 refine sqr 5 rfl (pur 2 rfl (sp rfl (PE.shlN (m:=1) (n:=j) rfl rfl rfl (by omega) (by omega)) rfl (sp rfl (PE.orN (m:=b.shn j) (n:=1*2 ^ j) rfl rfl (by omega) (by omega)) rfl (pur 1 rfl (sqr 2 rfl (sp rfl (PE.add rfl rfl (by omega)) rfl (pur 1 rfl ?_)))))))
 exact Z0e ⟨j+1,by omega⟩ (by dsimp only;omega) (by dsimp only;rw [hs2];exact sbA) (fun w h9=>h9.del b5)
 have hs2:b.shn (j+1)=b.shn j:=by rw [hst,dF (show ¬ 0<x.s from fun h=>by omega)];rfl
 refine Z3 (sqr 2 rfl (sp rfl (PE.add rfl rfl (by omega)) rfl (pur 1 rfl ?_)))
 exact Z0e ⟨j+1,by omega⟩ (by dsimp only;omega) (by dsimp only;rw [hs2];exact sbA) (fun w h9=>h9.del b5)
 obtain rfl:j=b.rods.length:=by omega
 refine Z8 (Za (Za (Zn (sqt 2 rfl (pur 2 rfl (Z5 ?_))))))
 exact rtA rfl rfl rfl ⟨rfl,rfl,rfl⟩ (fun w h=>h.del b1)
theorem Zip:apT Tryz.prog 169=some (68,1,24):=by kernel_rfl
theorem ZgN:cal Tryz.prog 85=true:=by kernel_rfl
theorem ZgO:cal Tryz.prog 86=true:=by kernel_rfl
theorem Zj6:cal Tryz.prog 87=true:=by kernel_rfl
theorem Zji:ZB Tryz.prog 169=some 1:=by kernel_rfl
theorem Z7U:elN Tryz.prog 169=some 1:=by kernel_rfl
theorem Zcy:ZT Tryz.prog 99 0=some 0:=by kernel_rfl
theorem Zhn:Z2n Tryz.prog 169=true:=by kernel_rfl
theorem Z2B:Z0g Tryz.prog 169=true:=by kernel_rfl
theorem Zk1:Zw Tryz.prog 169=some ([.slice none 0 0]):=by kernel_rfl
def thr3:Rb:=⟨4,3,[⟨1,1,2,3⟩,⟨3,0,1,0⟩,⟨0,2,1,4⟩]⟩
theorem Z5b:thr3.ok:=⟨by decide,by decide,by decide,by decide⟩
theorem ZbX:∀ x∈thr3.rods,thr3.feel thr3.top x=x.s:=by decide +kernel
def Z20 (k:Nat):Nat:=[1,1,0,0,1,1,1,0,4,1,1,0].getD k 0
theorem ZbW:∀ k,k<12→thr3.all k=Z20 k:=by decide +kernel
theorem Z7G:thr3.shn thr3.rods.length=5:=by decide
def crT (l:List Nat):List (List Value):=l.map fun k=>[.int .i64 ((k%4:Nat):Int),.int .i64 ((k / 4:Nat):Int)]
theorem Z9w (l:List Nat):(crT l).length=l.length:=List.length_map _
theorem ZgY (l:List Nat):crT l=Zz (l.map fun k=>(((k%4:Nat):Int),((k / 4:Nat):Int))):=by simp [crT,Zz]
def Z6A (s k:Nat):Bool:=(decide (s=1)&&decide (k=0))||(decide (s=4)&&decide (k=8))||(decide (s=5)&&decide (k=0))
def fL1 (s k:Nat):List Nat:=bif decide (1<s)||(decide (s=1)&&decide (0<k)) then [0] else []
def fL4 (s k:Nat):List Nat:=bif decide (4<s)||(decide (s=4)&&decide (8<k)) then [8] else []
def fL5 (s k:Nat):List Nat:=bif decide (5<s)||(decide (s=5)&&decide (0<k)) then [8,0] else []
def isS (s:Nat):Prop:=s=1∨s=4∨s=5
theorem Zcv {s k:Nat} (hs:isS s) (hk:k<12) (h:Z6A s k=false):fL1 s (k+1)=fL1 s k∧fL4 s (k+1)=fL4 s k∧fL5 s (k+1)=fL5 s k:=by
 have key:∀ k,k<12→(Z6A 1 k=false→fL1 1 (k+1)=fL1 1 k∧fL4 1 (k+1)=fL4 1 k∧fL5 1 (k+1)=fL5 1 k)∧(Z6A 4 k=false→fL1 4 (k+1)=fL1 4 k∧fL4 4 (k+1)=fL4 4 k∧fL5 4 (k+1)=fL5 4 k)∧(Z6A 5 k=false→fL1 5 (k+1)=fL1 5 k∧fL4 5 (k+1)=fL4 5 k∧fL5 5 (k+1)=fL5 5 k):=by decide
 rcases hs with rfl | rfl | rfl
 · exact (key k hk).1 h
 · exact (key k hk).2.1 h
 · exact (key k hk).2.2 h
theorem Zhe:∀ s,s<8→fL1 (s+1) 0=fL1 s 12∧fL4 (s+1) 0=fL4 s 12∧fL5 (s+1) 0=fL5 s 12:=by decide
theorem Zhg:∀ s,s<8→(s&&&(18446744073709551615-5)≠0)→fL1 (s+1) 0=fL1 s 0∧fL4 (s+1) 0=fL4 s 0∧fL5 (s+1) 0=fL5 s 0:=by decide
theorem Zjv:∀ s,s<8→1≤s→(s&&&(18446744073709551615-5)=0)→(s=1∨s=4∨s=5):=by decide
theorem Zhf {s k:Nat} (hs:isS s) (hk:k<12) (h:Z20 k&&&s=0):Z6A s k=false:=by
 have key:∀ k,k<12→(Z20 k&&&1=0→Z6A 1 k=false)∧(Z20 k&&&4=0→Z6A 4 k=false)∧(Z20 k&&&5=0→Z6A 5 k=false):=by decide
 rcases hs with rfl | rfl | rfl
 · exact (key k hk).1 h
 · exact (key k hk).2.1 h
 · exact (key k hk).2.2 h
theorem Zjw {s k:Nat} (hs:isS s) (hk:k<12) (h:Z20 k&&&s≠0):((s=1∧s&&&(18446744073709551615-(Z20 k&&&s))=0)∨(s=4∧k=8∧s&&&(18446744073709551615-(Z20 k&&&s))=0)∨(s=5∧s&&&(18446744073709551615-(Z20 k&&&s))=4)∨(s=5∧k=8∧s&&&(18446744073709551615-(Z20 k&&&s))=1))∧s&&&(18446744073709551615-(Z20 k&&&s))<8:=by
 have key:∀ k,k<12→(Z20 k&&&1≠0→1&&&(18446744073709551615-(Z20 k&&&1))=0)∧(Z20 k&&&4≠0→k=8∧4&&&(18446744073709551615-(Z20 k&&&4))=0)∧(Z20 k&&&5≠0→5&&&(18446744073709551615-(Z20 k&&&5))=4∨(k=8∧5&&&(18446744073709551615-(Z20 k&&&5))=1)):=by decide
 rcases hs with rfl | rfl | rfl
 · have:=(key k hk).1 h;exact ⟨.inl ⟨rfl,this⟩,by omega⟩
 · have:=(key k hk).2.1 h;exact ⟨.inr (.inl ⟨rfl,this⟩),by omega⟩
 · rcases (key k hk).2.2 h with h1 | h1
   · exact ⟨.inr (.inr (.inl ⟨rfl,h1⟩)),by omega⟩
   · exact ⟨.inr (.inr (.inr ⟨rfl,h1⟩)),by omega⟩
def ZdO (l:List Nat):Bool:=l.isEmpty
theorem OSl.freezeS {e sz:Nat} {rows:List (List Value)} (o:OSl e sz rows) (h0:rows≠[]):∃ a c,a.isNone=false∧o.fs = .slice a rows.length c∧∀ {H:Z7} {R:Z4} {w:World},St (o.G++H) R w→St H (RowsA a sz rows::R) w:=by
 obtain ⟨fs,G,hl,his⟩:=o
 rcases his with ⟨rfl,rfl,rfl⟩ | ⟨b,cap,junk,rfl,rfl,_,_,_⟩
 · exact absurd rfl h0
 · exact ⟨_,cap,rfl,rfl,fun {H R w} h=>St.rows (rest:=junk) h hl⟩
theorem Zaa (a b c d e f g:Nat×Obj) (G T:Z7):(a::b::c::d::e::f::g::(G++T)).Perm (b::c::d::e::f::g::(G++(a::T))):=by
 have h:=Zy [a] ([b,c,d,e,f,g]++G) T
 rw [List.append_assoc,List.append_assoc] at h
 exact h
theorem Zbw (b c d e f g:Nat×Obj) (G T:Z7):(b::c::d::e::f::g::(G++T)).Perm (G++(b::c::d::e::f::g::T)):=Zy [b,c,d,e,f,g] G T
theorem Z0P {l:List Value} {k i:Nat} {v:Value} (hk:k<l.length) (e:i=k):spl l i [v]=l.set k v:=by
 subst e
 unfold spl
 rw [List.set_eq_take_append_cons_drop,if_pos hk,List.append_assoc];rfl
theorem St.noR {sz:Nat} {H:Z7} {R:Z4} {w:World} (h:St H R w):St H (RowsA none sz []::R) w:=h.also fun w' _ i row hi=>by simp at hi
theorem Z39 (xs:List Nat) (a:Option Addr) (c:Nat) (hl:xs.length≤1000000) (H:Z7) (R:Z4) [hR:MemRows a 2 (crT xs) R] :
    Fn Tryz.prog 86 [.slice a xs.length c] H R (fun v H' R'=>∃ o:OSl 43 2 (crT xs),v=o.fs∧H'=o.G++H∧R'=R):=by
 refine Z9 Tryz.func86 rfl Tryz.ntmps86 rfl ?_
 refine sqt 1 rfl (pur 1 rfl (Z0 (sqt 2 rfl (pur 1 rfl (sp rfl (PE.eqlNil Z5L rfl rfl) rfl ?_)))))
 refine Z2 rfl ?_ ?_<;>intro hc0
 refine Sy.pre (fun w h=>Z2Z (h.now hR.mem) hc0) (fun hnil=>?_)
 obtain rfl:xs=[]:=by simpa [crT] using hnil
 refine sqt 1 rfl (pur 1 rfl (Z5 ?_))
 first
   | exact rtA rfl rfl rfl ⟨o2.cast (by simp),rfl,rfl,rfl⟩ idH
   | exact rtA rfl rfl rfl ⟨OSl.nil _ _,rfl,rfl,rfl⟩ idH
 refine Z3 (sqt 4 rfl ?_)
 refine Zf6 rfl Zih rfl (fun o5 ho5=>?_)
 refine pur 1 rfl ?_
 refine Zi9 (news:=crT xs) o5 rfl Zi8 rfl rfl (ZbD) (by simp [crT]) (by simp [Z0H,crT,Value.oneCell']) ⟨by simp [crT];omega,by simp [crT];omega⟩ rfl ho5 (fun o2 ho2=>?_)
 refine pur 1 rfl (Z5 ?_)
 first
   | exact rtA rfl rfl rfl ⟨o2.cast (by simp),rfl,rfl,rfl⟩ idH
   | exact rtA rfl rfl rfl ⟨OSl.nil _ _,rfl,rfl,rfl⟩ idH
set_option maxHeartbeats 2000000 in
theorem c_FewestT (a:Option Addr) (c:Nat) (H:Z7) (R:Z4) [hB:MemRows a 4 (rdrows thr3.rods) R] :
    Fn Tryz.prog 43 [(thr3.v a c)] H R (fun v H' R'=>∃ ax cx,v = .tuple #[.slice ax 2 cx,.int .i64 0]∧H'=H∧R'=R):=by
 refine Z1G Tryz.func43 rfl Tryz.ntmps43 rfl ?_
 refine sqt 3 rfl (bx rfl rfl rfl (fun b1=>pur 2 rfl (sqt 8 rfl (spL rfl rfl (lhA (rbl thr3 a c) ZG rfl rfl rfl) rfl ?_))))
 refine cl rfl Zdt rfl rfl (Z5s thr3 a c Z5b ZbX _ _) ?_
 rintro _ _ _ ⟨bf,m,kv,hkv,rfl,rfl,rfl⟩
 refine pur 3 rfl (alc rfl Z7I rfl (fun b4=>?_))
 refine sto rfl rfl rfl Z5x rfl rfl rfl rfl ?_
 refine pur 1 rfl (Z0 (sqt 2 rfl (pur 2 rfl ?_)))
 refine Z2 rfl ?_ ?_<;>intro hc0
 exact absurd hc0 (by simp)
 ·
  refine Z3 (sqt 7 rfl (sp rfl (PE.fA Z0a rfl) rfl (spL rfl rfl (lh Z52 rfl rfl) rfl (sp rfl (PE.lenSl Z3Z rfl) rfl (sp rfl (PE.shlN (m:=1) (n:=thr3.rods.length) rfl rfl rfl (by decide) (by decide)) rfl ?_)))))
  refine mkS (l:=8) (c:=8) rfl Zip ZkC rfl rfl (Nat.le_refl _) (by decide) rfl (fun b25=>?_)
  refine alc rfl Zk1 rfl (fun b6=>?_)
  refine sto rfl rfl rfl Zji rfl rfl rfl rfl ?_
  refine Z0 (sqt 2 rfl (alc rfl zl3 rfl (fun b7=>?_)))
  refine sto rfl rfl rfl cn3 rfl rfl rfl rfl ?_
  refine Z1 ?_
  refine Z59 (ι:=(y:{x:Nat×Nat×Option Addr×Nat×Option Addr×Nat×List Nat // 1≤x.1∧x.1≤8∧x.2.2.1.isNone=ZdO (fL1 x.1 0)∧x.2.2.2.2.1.isNone=ZdO (fL4 x.1 0)})×{o:OSl 43 2 (crT (fL5 y.1.1 0)) // fL5 y.1.1 0=[]→o.fs = .slice none 0 0∧o.G=[]}) (fun y=>⟨[(1,.pointer (some ⟨b1,0,none⟩)),(4,.pointer (some ⟨b4,0,none⟩)),(6,.pointer (some ⟨b6,0,none⟩)),(7,.pointer (some ⟨y.1.1.2.1,0,none⟩))],mks y.1.1.2.2.2.2.2.2,(y.1.1.2.1,cel 3 [.int .i64 ((y.1.1.1:Nat):Int)])::(b6,cel 169 [.slice (some ⟨b25,0,none⟩) 8 8])::(b25,cel 68 [.slice none 0 0,.slice y.1.1.2.2.1 (fL1 y.1.1.1 0).length y.1.1.2.2.2.1,.slice none 0 0,.slice none 0 0,.slice y.1.1.2.2.2.2.1 (fL4 y.1.1.1 0).length y.1.1.2.2.2.2.2.1,y.2.1.fs,.slice none 0 0,.slice none 0 0])::(b4,cel 93 [.pointer (some ⟨bf,0,none⟩)])::(m,ZQ true kv)::(b1,cel 39 (rbl thr3 a c))::(y.2.1.G++(mkh y.1.1.2.2.2.2.2.2++H)),RowsA y.1.1.2.2.2.2.1 2 (crT (fL4 y.1.1.1 0))::RowsA y.1.1.2.2.1 2 (crT (fL1 y.1.1.1 0))::RowsA (some ⟨bf,0,none⟩) 29 [fdl thr3 a c m]::R⟩) (fun y=>8-y.1.1.1) ⟨⟨(1,b7,none,0,none,0,[]),Nat.le_refl 1,by dsimp only;omega,rfl,rfl⟩,OSl.nil _ _,fun _=>⟨rfl,rfl⟩⟩ ?_ (fun y=>?_)
  exact Zav sbA rfl (fun w h=>St.noR (St.noR (show St (_::_::_::_::_::_::([]++([]++H))) _ w from ((((h.pull m).pull b4).pull b25).pull b6).pull b7)))
  ·
   obtain ⟨⟨⟨s,bv,a1,c1,a4,c4,mk⟩,hs1,hs8,hn1,hn4⟩,o5,hn5⟩:=y
   dsimp only at hs1 hs8 hn1 hn4 o5 hn5 ⊢
   refine Z0 (sqt 4 rfl (spL rfl rfl (lh (v:=.int .i64 ((s:Nat):Int)) sc3 rfl rfl) rfl (spL rfl rfl (lh Z2B rfl rfl) rfl (sp rfl (PE.lenSl Zhn rfl) rfl (pur 1 rfl ?_)))))
   refine Z2 rfl ?_ ?_<;>intro hc1<;>try simp only [cS] at hc1
   ·
    refine Z3 (Z0 (Z1 (Z0 (Z0 ?_))))
    refine Zd [0,0,2,6,14,30,63,127] (.ld 0 (.ld 1 (.tk 2 (.tk 3 (.ld 4 (.big 5 (.tk 6 (.tk 7 .done)))))))) Zq (by kernel_rfl) ?_
    refine ld rfl rfl (lh (v:=.int .i64 ((s:Nat):Int)) sc3 rfl rfl) rfl (ld rfl rfl (lh ZaM rfl rfl) rfl (tk rfl (PE.nilCheck rfl) rfl (tk rfl (PE.fA Zcy rfl) rfl (ld rfl rfl (Zhu (sz:=29) (rbl thr3 a c) ZG rfl rfl) rfl ?_))))
    refine cl rfl ZgN rfl rfl (Z9e thr3 a c Z5b _ _) ?_
    rintro _ _ R1 ⟨rfl,rfl,hR1⟩
    obtain rfl:=hR1.symm
    clear hR1
    rw [Z7G]
    refine bg (fun w hs=>⟨trivial,trivial,(lh (v:=.int .i64 ((s:Nat):Int)) sc3 rfl rfl) w hs,trivial⟩) ?_
    refine tk rfl (PE.andNotN (m:=s) (n:=5) rfl rfl (by omega) (by decide)) rfl (Zm 1 rfl ?_)
    refine Z2 rfl ?_ ?_<;>intro hc2
    have hpa:=Zhg s (by omega) (fun e=>by rw [e] at hc2;simp at hc2)
    refine Z8 (Za (Zn (Z0 (sqt 1 rfl (spL rfl rfl (lh (v:=.int .i64 ((s:Nat):Int)) sc3 rfl rfl) rfl (sqr 2 rfl (alc rfl zl3 rfl (fun b7=>?_))))))))
    refine sto rfl rfl rfl cn3 rfl rfl rfl rfl ?_
    refine sqr 3 rfl (spL rfl rfl (lh (v:=.int .i64 ((s:Nat):Int)) sc3 rfl rfl) rfl (sp rfl (PE.add rfl rfl (by omega)) rfl ?_))
    refine sto rfl rfl rfl cn3 rfl rfl rfl rfl ?_
    exact Z0J ⟨⟨(s+1,b7,a1,c1,a4,c4,mk),by dsimp only;omega,by dsimp only;omega,by dsimp only;rw [hpa.1];exact hn1,by dsimp only;rw [hpa.2.1];exact hn4⟩,o5.cast (by dsimp only;rw [hpa.2.2]),fun h=>hn5 (by rw [← hpa.2.2];exact h)⟩ (by dsimp only;omega) sbA rfl (fun w h=>by have h2:=h.del bv;rw [← hpa.1,← hpa.2.1] at h2;exact h2)
    ·
     have hiS:=Zjv s (by omega) hs1 (by have h9:=of_decide_eq_false hc2;omega)
     refine Z3 (sqt 2 rfl (spL rfl rfl (lhA (rbl thr3 a c) ZG rfl rfl rfl) rfl ?_))
     refine cl rfl Z9o rfl rfl (Z38 thr3 a c _ _) ?_
     rintro _ _ _ ⟨xb,rfl,rfl,rfl⟩
     refine Sy.heap (fun w h=>(St.sub h:St _ (RowsA a4 2 (crT (fL4 s 0))::RowsA a1 2 (crT (fL1 s 0))::RowsA (some ⟨xb,0,none⟩) 3 [rbl thr3 a c]::RowsA (some ⟨bf,0,none⟩) 29 [fdl thr3 a c m]::R) w)) ?_
     refine Z1 ?_
     refine Z0o rfl Z9p (fun c0 bl0 bd0 hcp0 hca0 hcb0 hck0=>?_)
     refine ⟨fun st pend T R'=>st = .ready∧pend=none∧∃ (a1:Option Addr) (c1:Nat) (a4:Option Addr) (c4:Nat) (o5:OSl 43 2 (crT (fL5 s 12))),(a1.isNone=ZdO (fL1 s 12)∧a4.isNone=ZdO (fL4 s 12)∧(fL5 s 12=[]→o5.fs = .slice none 0 0∧o5.G=[]))∧T=(bd0,.deferred (some []))::(bv,cel 3 [.int .i64 ((s:Nat):Int)])::(b6,cel 169 [.slice (some ⟨b25,0,none⟩) 8 8])::(b25,cel 68 [.slice none 0 0,.slice a1 (fL1 s 12).length c1,.slice none 0 0,.slice none 0 0,.slice a4 (fL4 s 12).length c4,o5.fs,.slice none 0 0,.slice none 0 0])::(b4,cel 93 [.pointer (some ⟨bf,0,none⟩)])::(m,ZQ true kv)::(b1,cel 39 (rbl thr3 a c))::(o5.G++(mkh mk++H))∧R'=RowsA a4 2 (crT (fL4 s 12))::RowsA a1 2 (crT (fL1 s 12))::RowsA (some ⟨xb,0,none⟩) 3 [rbl thr3 a c]::RowsA (some ⟨bf,0,none⟩) 29 [fdl thr3 a c m]::R,
       Fn.mono (Z22 thr3 a c Z5b xb bl0 (fun k H' R'=>∃ (a1:Option Addr) (c1:Nat) (a4:Option Addr) (c4:Nat) (o5:OSl 43 2 (crT (fL5 s k))),(a1.isNone=ZdO (fL1 s k)∧a4.isNone=ZdO (fL4 s k)∧(fL5 s k=[]→o5.fs = .slice none 0 0∧o5.G=[]))∧H'=(bl0,lob c0 .ready none)::(bd0,.deferred (some []))::(bv,cel 3 [.int .i64 ((s:Nat):Int)])::(b6,cel 169 [.slice (some ⟨b25,0,none⟩) 8 8])::(b25,cel 68 [.slice none 0 0,.slice a1 (fL1 s k).length c1,.slice none 0 0,.slice none 0 0,.slice a4 (fL4 s k).length c4,o5.fs,.slice none 0 0,.slice none 0 0])::(b4,cel 93 [.pointer (some ⟨bf,0,none⟩)])::(m,ZQ true kv)::(b1,cel 39 (rbl thr3 a c))::(o5.G++(mkh mk++H))∧R'=RowsA a4 2 (crT (fL4 s k))::RowsA a1 2 (crT (fL1 s k))::RowsA (some ⟨xb,0,none⟩) 3 [rbl thr3 a c]::RowsA (some ⟨bf,0,none⟩) 29 [fdl thr3 a c m]::R) (fun _ _=>False)
         (fun k H' R' h9=>by obtain ⟨_,_,_,_,_,_,_,rfl⟩:=h9;simp)
         (fun k H' R' hk h9=>?_) _ _ ⟨a1,c1,a4,c4,o5,⟨hn1,hn4,hn5⟩,rfl,rfl⟩) (fun v H' R' h9=>?_),?_⟩
     rotate_left
     · rcases h9 with ⟨a1,c1,a4,c4,o5,hnn,rfl,rfl⟩ | h9
       · exact ⟨.ready,none,_,by simp,.refl _,rfl,rfl,a1,c1,a4,c4,o5,hnn,rfl,rfl⟩
       · exact h9.elim
     rotate_left
     obtain ⟨a1,c1,a4,c4,o5,⟨hn1,hn4,hn5⟩,rfl,rfl⟩:=h9
     have hk12:k<12:=hk
     have hak:=ZbW k hk12
     refine Z4m hcp0 hca0 hcb0 hck0 rfl rfl ?_
     refine sqr 2 rfl (alc rfl Z3S rfl (fun b9=>?_))
     refine sto rfl rfl rfl Z9u rfl rfl rfl rfl ?_
     refine ZA ?_
     refine Z1 (Z0 ?_)
     refine Zd [0,1,3,7,0,31,0,127,255] (.ld 0 (.tk 1 (.tk 2 (.ld 3 (.ld 4 (.ld 5 (.ld 6 (.tk 7 (.tk 8 .done))))))))) Zq (by kernel_rfl) ?_
     refine ld rfl rfl (lh ZaM rfl rfl) rfl (tk rfl (PE.nilCheck rfl) rfl (tk rfl (PE.fA Z7m rfl) rfl (ld rfl rfl (lfB (sz:=29) Zig Z4H) rfl (ld rfl rfl (lhA [.int .i64 ((k%4:Nat):Int),.int .i64 ((k / 4:Nat):Int)] Z1Z rfl rfl rfl) rfl ?_))))
     refine ldK rfl rfl rfl (Z0n (b:=true) (v:=.int .i64 ((Z20 k:Nat):Int)) kv (thr3.key k) Z5Q (KeyT.of Z5C Z6J) (Z0q zv3) rfl hkv.len (by rw [← hak];exact hkv.at_ k hk)) rfl ?_
     refine ld rfl rfl (lh (v:=.int .i64 ((s:Nat):Int)) sc3 rfl rfl) rfl (tk rfl (PE.andN (m:=Z20 k) (n:=s) rfl rfl rfl (by have:Z20 k≤4:=(by decide:∀ k,k<12→Z20 k≤4) k hk12;omega) (by omega)) rfl (Zm 1 rfl (Z0 (sqt 2 rfl (pur 2 rfl ?_)))))
     refine Z2 rfl ?_ ?_<;>intro hc3
     have hsm:=Zcv hiS hk12 (Zhf hiS hk12 (by have h9:=of_decide_eq_true hc3;omega))
     refine Z8 (Za (Zn ?_))
     try dsimp only
     rw [hsm.1,hsm.2.1,hsm.2.2]
     exact Zi (.inl ⟨rfl,a1,c1,a4,c4,o5,⟨hn1,hn4,hn5⟩,rfl,rfl⟩) (fun _ h9=>h9.del b9)
     obtain ⟨hcs,hr8⟩:=Zjw hiS hk12 (fun e=>by rw [e] at hc3;simp at hc3)
     obtain ⟨ar,Lr,cr,hbr,hfr,hlr⟩:∃ (ar:Option Addr) (Lr:List Nat) (cr:Nat),([.slice none 0 0,.slice a1 (fL1 s k).length c1,.slice none 0 0,.slice none 0 0,.slice a4 (fL4 s k).length c4,o5.fs,.slice none 0 0,.slice none 0 0]:List Value)[(s&&&(18446744073709551615-(Z20 k&&&s)))]?=some (.slice ar Lr.length cr)∧(∀ H9 w,St H9 (RowsA a4 2 (crT (fL4 s k))::RowsA a1 2 (crT (fL1 s k))::RowsA (some ⟨xb,0,none⟩) 3 [rbl thr3 a c]::RowsA (some ⟨bf,0,none⟩) 29 [fdl thr3 a c m]::R) w→St H9 (RowsA ar 2 (crT Lr)::RowsA a4 2 (crT (fL4 s k))::RowsA a1 2 (crT (fL1 s k))::RowsA (some ⟨xb,0,none⟩) 3 [rbl thr3 a c]::RowsA (some ⟨bf,0,none⟩) 29 [fdl thr3 a c m]::R) w)∧Lr=(bif decide (s=5) then (bif decide ((s&&&(18446744073709551615-(Z20 k&&&s)))=4) then [8] else [0]) else []):=by
       rcases hcs with ⟨rfl,e⟩ | ⟨rfl,rfl,e⟩ | ⟨rfl,e⟩ | ⟨rfl,rfl,e⟩
       · exact ⟨none,[],0,by rw [e];rfl,fun H9 w h=>St.noR h,by rw [e];rfl⟩
       · exact ⟨none,[],0,by rw [e];rfl,fun H9 w h=>St.noR h,by rw [e];rfl⟩
       · exact ⟨a4,[8],c4,by rw [e];rfl,fun H9 w h=>(show St H9 (RowsA a4 2 (crT (fL4 5 k))::_) w from St.sub h),by rw [e];rfl⟩
       · exact ⟨a1,[0],c1,by rw [e];rfl,fun H9 w h=>(show St H9 (RowsA a1 2 (crT (fL1 5 8))::_) w from St.sub h),by rw [e];rfl⟩
     have hlr9:Lr.length≤1:=by
       rw [hlr]
       cases decide (s=5) with
       | false=>exact Nat.zero_le _
       | true =>
         rw [cond_true]
         cases decide ((s&&&(18446744073709551615-(Z20 k&&&s)))=4) with
         | false=>exact Nat.le_refl _
         | true=>exact Nat.le_refl _
     obtain ⟨a9,n9,c9,hb9,hn9,hn9b⟩:∃ (a9:Option Addr) (n9 c9:Nat),([.slice none 0 0,.slice a1 (fL1 s k).length c1,.slice none 0 0,.slice none 0 0,.slice a4 (fL4 s k).length c4,o5.fs,.slice none 0 0,.slice none 0 0]:List Value)[s]?=some (.slice a9 n9 c9)∧a9.isNone=Z6A s k∧n9≤Lr.length+1:=by
       rcases hcs with ⟨rfl,e⟩ | ⟨rfl,rfl,e⟩ | ⟨rfl,e⟩ | ⟨rfl,rfl,e⟩
       · refine ⟨a1,_,c1,rfl,?_,?_⟩
         · rw [hn1];exact (by decide:∀ k,k<12→ZdO (fL1 1 k)=Z6A 1 k) k hk12
         · have:=(by decide:∀ k,k<12→(fL1 1 k).length≤1) k hk12;omega
       · refine ⟨a4,_,c4,rfl,?_,?_⟩
         · rw [hn4];rfl
         · show (fL4 4 8).length≤_;exact Nat.zero_le _
       · by_cases hk0:k=0
         · subst hk0
           rw [(hn5 rfl).1]
           exact ⟨none,0,0,rfl,rfl,Nat.zero_le _⟩
         · have h5:fL5 5 k=[8,0]:=(by decide:∀ k,k<12→k≠0→fL5 5 k=[8,0]) k hk12 hk0
           obtain ⟨ax,cx,hax,he,_⟩:=OSl.freezeS o5 (by rw [h5];simp [crT])
           refine ⟨ax,_,cx,by rw [show ([.slice none 0 0,.slice a1 (fL1 5 k).length c1,.slice none 0 0,.slice none 0 0,.slice a4 (fL4 5 k).length c4,o5.fs,.slice none 0 0,.slice none 0 0]:List Value)[5]?=some o5.fs from rfl,he],?_,?_⟩
           · rw [hax];exact ((by decide:∀ k,k<12→k≠0→Z6A 5 k=false) k hk12 hk0).symm
           · rw [h5,hlr,e];decide
       · obtain ⟨ax,cx,hax,he,_⟩:=OSl.freezeS o5 (by simp [crT,fL5])
         refine ⟨ax,_,cx,by rw [show ([.slice none 0 0,.slice a1 (fL1 5 8).length c1,.slice none 0 0,.slice none 0 0,.slice a4 (fL4 5 8).length c4,o5.fs,.slice none 0 0,.slice none 0 0]:List Value)[5]?=some o5.fs from rfl,he],by rw [hax];rfl,?_⟩
         rw [hlr,e];decide
     refine Z3 (sqt 7 rfl (spL rfl rfl (lh Z2B rfl rfl) rfl (spL rfl rfl (lh (v:=.int .i64 ((s:Nat):Int)) sc3 rfl rfl) rfl (pur 1 rfl (sp rfl (PE.andNotN (m:=s) (n:=(Z20 k&&&s)) rfl rfl (by omega) (by have:=Nat.and_le_right (n:=Z20 k) (m:=s);omega)) rfl (sp rfl (PE.indexAddr Z7U rfl rfl (by omega) (by omega)) rfl (spL rfl rfl (lh (v:=.slice ar Lr.length cr) Zif rfl (by rw [show 0+(((s&&&(18446744073709551615-(Z20 k&&&s))):Nat):Int).toNat*1=(s&&&(18446744073709551615-(Z20 k&&&s))) by omega];exact hbr)) rfl (pur 1 rfl (sqt 16 rfl (spL rfl rfl (lh Z2B rfl rfl) rfl (spL rfl rfl (lh (v:=.int .i64 ((s:Nat):Int)) sc3 rfl rfl) rfl (sp rfl (PE.indexAddr Z7U rfl rfl (by omega) (by omega)) rfl (spL rfl rfl (lh (v:=.slice a9 n9 c9) Zif rfl (by rw [show 0+((s:Nat):Int).toNat*1=s by omega];exact hb9)) rfl (sp rfl (PE.eqlNil Z5L rfl rfl) rfl (pur 1 rfl ?_)))))))))))))))
     refine Zv 65 rfl ?_ ?_<;>intro g65
     try simp only [cS] at g65
     have hf3:Z6A s k=true:=by rw [← hn9];exact g65
     have hup:(s=1∧k=0∧Lr=[])∨(s=4∧k=8∧Lr=[])∨(s=5∧k=0∧Lr=[8]):=by
       rcases hcs with ⟨rfl,e⟩ | ⟨rfl,rfl,e⟩ | ⟨rfl,e⟩ | ⟨rfl,rfl,e⟩
       · exact .inl ⟨rfl,(by decide:∀ k,k<12→Z6A 1 k=true→k=0) k hk12 hf3,by rw [hlr];rfl⟩
       · exact .inr (.inl ⟨rfl,rfl,by rw [hlr];rfl⟩)
       · exact .inr (.inr ⟨rfl,(by decide:∀ k,k<12→Z6A 5 k=true→k=0) k hk12 hf3,by rw [hlr,e];rfl⟩)
       · exact absurd hf3 (by decide)
     refine pur 10 rfl ?_
     refine Z00 rfl ?_
     refine Z2j (ι:=OSl 43 2 (crT Lr++[[.int .i64 ((k%4:Nat):Int),.int .i64 ((k / 4:Nat):Int)]])) (fun y=>⟨[(1,.pointer (some ⟨b1,0,none⟩)),(4,.pointer (some ⟨b4,0,none⟩)),(6,.pointer (some ⟨b6,0,none⟩)),(7,.pointer (some ⟨bv,0,none⟩))],y.G++((b9,cel 43 [.int .i64 ((k%4:Nat):Int),.int .i64 ((k / 4:Nat):Int)])::(bl0,lob c0 .busy none)::(bd0,.deferred (some []))::(bv,cel 3 [.int .i64 ((s:Nat):Int)])::(b6,cel 169 [.slice (some ⟨b25,0,none⟩) 8 8])::(b25,cel 68 (([.slice none 0 0,.slice a1 (fL1 s k).length c1,.slice none 0 0,.slice none 0 0,.slice a4 (fL4 s k).length c4,o5.fs,.slice none 0 0,.slice none 0 0]:List Value).set s y.fs))::(b4,cel 93 [.pointer (some ⟨bf,0,none⟩)])::(m,ZQ true kv)::(b1,cel 39 (rbl thr3 a c))::(o5.G++(mkh mk++H))),RowsA a4 2 (crT (fL4 s k))::RowsA a1 2 (crT (fL1 s k))::RowsA (some ⟨xb,0,none⟩) 3 [rbl thr3 a c]::RowsA (some ⟨bf,0,none⟩) 29 [fdl thr3 a c m]::R⟩) ?_ ?_
     refine Zd [0,0,0,4,0,16,60,127,255] (.ld 0 (.ld 1 (.tk 2 (.ld 4 (.any (.alt 3 (.big 5 (.big 6 (.tk 7 (.big 8 .done)))) (.alt 5 (.big 3 (.big 6 (.tk 7 (.big 8 .done)))) .stop))))))) Zq (by kernel_rfl) ?_
     refine Sy.heap (fun w h=>hfr _ w h) ?_
     have hlr1:Lr.length≤1:=by rcases hup with ⟨_,_,h⟩ | ⟨_,_,h⟩ | ⟨_,_,h⟩<;>rw [h]<;>decide
     refine ld rfl rfl (lh Z2B rfl rfl) rfl (ld rfl rfl (lh (v:=.int .i64 ((s:Nat):Int)) sc3 rfl rfl) rfl (Zm 1 rfl (ld rfl rfl (lhA [.int .i64 ((k%4:Nat):Int),.int .i64 ((k / 4:Nat):Int)] Z1Z rfl rfl rfl) rfl ?_)))
     refine Zs ?_ ?_
     refine cl rfl ZgO rfl rfl (Z39 Lr ar cr (by omega) _ _) ?_
     rintro _ _ R1 ⟨o79,rfl,rfl,hR1⟩
     obtain rfl:=hR1.symm
     clear hR1
     refine bg (fun w hs=>⟨(lhA [.int .i64 ((k%4:Nat):Int),.int .i64 ((k / 4:Nat):Int)] Z1Z rfl rfl rfl) w hs,(lh (v:=.int .i64 ((s:Nat):Int)) sc3 rfl rfl) w hs,(lh Z2B rfl rfl) w hs,trivial⟩) ?_
     refine bsl (out:=[_,_]) rfl Zih Z3S rfl rfl rfl rfl rfl rfl (fun b81=>?_)
     refine bg (fun w hs=>⟨trivial,(lh (v:=.int .i64 ((s:Nat):Int)) sc3 rfl rfl) w hs,(lh Z2B rfl rfl) w hs,trivial⟩) ?_
     refine apO o79 rfl Zi8 rfl rfl (Z2z (row:=[.int .i64 ((k%4:Nat):Int),.int .i64 ((k / 4:Nat):Int)]) rfl) rfl rfl (by rw [Z9w];simp only [List.length_singleton];omega) rfl (fun o82=>?_)
     refine bg (fun w hs=>⟨(lh (v:=.int .i64 ((s:Nat):Int)) sc3 rfl rfl) w hs,(lh Z2B rfl rfl) w hs,trivial⟩) ?_
     refine tk rfl (PE.indexAddr Z7U rfl rfl (by omega) (by omega)) rfl ?_
     refine Z03 (l':=([.slice none 0 0,.slice a1 (fL1 s k).length c1,.slice none 0 0,.slice none 0 0,.slice a4 (fL4 s k).length c4,o5.fs,.slice none 0 0,.slice none 0 0]:List Value).set s o82.fs) rfl rfl rfl Zk9 rfl (by rw [o82.cells.1];rfl) (by rw [o82.cells.1];simp [o82.cells.2]) (by rw [o82.cells.1];exact Z0P (by show s<8;omega) (by omega)) (by rw [o82.cells.1];show 0+((s:Nat):Int).toNat*1+1≤8;omega) ?_
     refine bgT ?_
     exact Zh o82 (fun w h=>St.sub (h.del b81))
     refine Zs ?_ ?_
     refine bsl (out:=[_,_]) rfl Zih Z3S rfl rfl rfl rfl rfl rfl (fun b81=>?_)
     refine bg (fun w hs=>⟨trivial,(lh (v:=.int .i64 ((s:Nat):Int)) sc3 rfl rfl) w hs,(lh Z2B rfl rfl) w hs,trivial⟩) ?_
     refine cl rfl ZgO rfl rfl (Z39 Lr ar cr (by omega) _ _) ?_
     rintro _ _ R1 ⟨o79,rfl,rfl,hR1⟩
     obtain rfl:=hR1.symm
     clear hR1
     refine bg (fun w hs=>⟨(lh (v:=.int .i64 ((s:Nat):Int)) sc3 rfl rfl) w hs,(lh Z2B rfl rfl) w hs,trivial⟩) ?_
     refine apO o79 rfl Zi8 rfl rfl (Z2z (row:=[.int .i64 ((k%4:Nat):Int),.int .i64 ((k / 4:Nat):Int)]) rfl) rfl rfl (by rw [Z9w];simp only [List.length_singleton];omega) rfl (fun o82=>?_)
     refine bg (fun w hs=>⟨(lh (v:=.int .i64 ((s:Nat):Int)) sc3 rfl rfl) w hs,(lh Z2B rfl rfl) w hs,trivial⟩) ?_
     refine tk rfl (PE.indexAddr Z7U rfl rfl (by omega) (by omega)) rfl ?_
     refine Z03 (l':=([.slice none 0 0,.slice a1 (fL1 s k).length c1,.slice none 0 0,.slice none 0 0,.slice a4 (fL4 s k).length c4,o5.fs,.slice none 0 0,.slice none 0 0]:List Value).set s o82.fs) rfl rfl rfl Zk9 rfl (by rw [o82.cells.1];rfl) (by rw [o82.cells.1];simp [o82.cells.2]) (by rw [o82.cells.1];exact Z0P (by show s<8;omega) (by omega)) (by rw [o82.cells.1];show 0+((s:Nat):Int).toNat*1+1≤8;omega) ?_
     refine bgT ?_
     exact Zh o82 (fun w h=>St.sub (h.del b81))
     exact ZO
     rintro o82
     dsimp only
     rcases hup with ⟨rfl,rfl,rfl⟩ | ⟨rfl,rfl,rfl⟩ | ⟨rfl,rfl,rfl⟩
     · obtain ⟨ax,cx,hax,he,hf⟩:=OSl.freezeS o82 (by simp)
       exact Zi (.inl ⟨rfl,ax,cx,a4,c4,o5.cast rfl,⟨hax,hn4,hn5⟩,rfl,rfl⟩) (fun _ h9=>by rw [he] at h9;exact (St.sub (hf (St.del b9 h9)):St _ (RowsA a4 2 (crT (fL4 1 0))::RowsA ax 2 (crT []++[[.int .i64 ((0%4:Nat):Int),.int .i64 ((0 / 4:Nat):Int)]])::RowsA (some ⟨xb,0,none⟩) 3 [rbl thr3 a c]::RowsA (some ⟨bf,0,none⟩) 29 [fdl thr3 a c m]::R) _))
     · obtain ⟨ax,cx,hax,he,hf⟩:=OSl.freezeS o82 (by simp)
       exact Zi (.inl ⟨rfl,a1,c1,ax,cx,o5.cast rfl,⟨hn1,hax,hn5⟩,rfl,rfl⟩) (fun _ h9=>by rw [he] at h9;exact (St.sub (hf (St.del b9 h9)):St _ (RowsA ax 2 (crT []++[[.int .i64 ((8%4:Nat):Int),.int .i64 ((8 / 4:Nat):Int)]])::RowsA a1 2 (crT (fL1 4 8))::RowsA (some ⟨xb,0,none⟩) 3 [rbl thr3 a c]::RowsA (some ⟨bf,0,none⟩) 29 [fdl thr3 a c m]::R) _))
     · exact Zi (.inl ⟨rfl,a1,c1,a4,c4,o82.cast rfl,⟨hn1,hn4,fun h=>by cases h⟩,rfl,rfl⟩) (fun _ h9=>by rw [(hn5 rfl).2] at h9;exact (St.del b9 h9).perm (Zy o82.G [_,_,_,_,_,_,_,_] _))
     try simp only [cS] at g65
     have hf3:Z6A s k=false:=by rw [← hn9];exact g65
     have hsm:=Zcv hiS hk12 hf3
     refine pur 1 rfl ?_
     refine spG rfl rfl rfl rfl (PE.lenSl Z5L rfl) rfl ?_
     refine spG rfl rfl rfl rfl (PE.add rfl rfl (by omega)) rfl ?_
     refine Z1b rfl rfl rfl rfl rfl (lh Z2B rfl rfl) rfl (Z1b rfl rfl rfl rfl rfl (lh (v:=.int .i64 ((s:Nat):Int)) sc3 rfl rfl) rfl ?_)
     refine spG rfl rfl rfl rfl (PE.indexAddr Z7U rfl rfl (by omega) (by omega)) rfl ?_
     refine Z1b rfl rfl rfl rfl rfl (lh (v:=.slice a9 n9 c9) Zif rfl (by rw [show 0+((s:Nat):Int).toNat*1=s by omega];exact hb9)) rfl ?_
     refine spG rfl rfl rfl rfl (PE.lenSl Z5L rfl) rfl ?_
     refine pur 2 rfl ?_
     refine Z2 rfl ?_ ?_<;>intro hc4
     exact absurd hc4 (by simp;omega)
     refine Z3 ?_
     try dsimp only
     rw [hsm.1,hsm.2.1,hsm.2.2]
     exact Zi (.inl ⟨rfl,a1,c1,a4,c4,o5,⟨hn1,hn4,hn5⟩,rfl,rfl⟩) (fun _ h9=>h9.del b9)
     rintro _ _ _ _ ⟨rfl,rfl,a1,c1,a4,c4,o5,⟨hn1,hn4,hn5⟩,rfl,rfl⟩
     have hov:=Zhe s (by omega)
     refine Z40 ?_
     refine Z0 (sqt 1 rfl (spL rfl rfl (lh (v:=.int .i64 ((s:Nat):Int)) sc3 rfl rfl) rfl (sqr 2 rfl (alc rfl zl3 rfl (fun b7=>?_)))))
     refine sto rfl rfl rfl cn3 rfl rfl rfl rfl ?_
     refine sqr 3 rfl (spL rfl rfl (lh (v:=.int .i64 ((s:Nat):Int)) sc3 rfl rfl) rfl (sp rfl (PE.add rfl rfl (by omega)) rfl ?_))
     refine sto rfl rfl rfl cn3 rfl rfl rfl rfl ?_
     exact Z0J ⟨⟨(s+1,b7,a1,c1,a4,c4,bd0::mk),by dsimp only;omega,by dsimp only;omega,by dsimp only;rw [hov.1];exact hn1,by dsimp only;rw [hov.2.1];exact hn4⟩,o5.cast (by dsimp only;rw [hov.2.2]),fun h=>hn5 (by rw [← hov.2.2];exact h)⟩ (by dsimp only;omega) sbA rfl (fun w h=>by have h2:=h.del bv;rw [← hov.1,← hov.2.1] at h2;exact St.sub ((h2.pull bd0).perm (Zaa _ _ _ _ _ _ _ _ _)))
   obtain rfl:s=8:=by omega
   refine Z8 (Za (Za (Zn (Z0 ?_))))
   refine Zd [0,0,2,6,14,30,63,127,255] (.ld 0 (.ld 1 (.tk 2 (.tk 3 (.ld 4 (.big 5 (.tk 6 (.ld 7 (.tk 8 .done))))))))) Zq (by kernel_rfl) ?_
   refine ld rfl rfl (lh Z2B rfl rfl) rfl (ld rfl rfl (lh ZaM rfl rfl) rfl (tk rfl (PE.nilCheck rfl) rfl (tk rfl (PE.fA Zcy rfl) rfl (ld rfl rfl (Zhu (sz:=29) (rbl thr3 a c) ZG rfl rfl) rfl ?_))))
   refine cl rfl ZgN rfl rfl (Z9e thr3 a c Z5b _ _) ?_
   rintro _ _ R1 ⟨rfl,rfl,hR1⟩
   obtain rfl:=hR1.symm
   clear hR1
   rw [Z7G]
   refine bg (fun w hs=>⟨trivial,trivial,(lh Z2B rfl rfl) w hs,trivial⟩) ?_
   refine tk rfl (PE.indexAddr Z7U rfl rfl (by decide) (by decide)) rfl (ld rfl rfl (lh (v:=o5.fs) Zif rfl rfl) rfl (Zm 1 rfl (sqt 2 rfl ?_)))
   obtain ⟨ax,cx,hax,he,_⟩:=OSl.freezeS o5 (by simp [crT,fL5])
   have he2:o5.fs = .slice ax 2 cx:=he
   refine Sy.heap (fun w h=>h.perm (Zbw _ _ _ _ _ _ o5.G _)) ?_
   refine pur 1 rfl ?_
   refine cl rfl Zj6 rfl rfl (Z6g ((fL5 8 0).map fun k=>(((k%4:Nat):Int),((k / 4:Nat):Int))) (o5.cast (ZgY _)) (by decide) _ _) ?_
   rintro _ _ R1 ⟨rfl,rfl,hR1⟩
   obtain rfl:=hR1.symm
   clear hR1
   refine sqt 3 rfl (pur 3 rfl (Z5 ?_))
   exact ZF mk (H:=H) (fun w h=>(((((h.del bv).del b6).del b25).del b4).del m).del b1) rfl (.cons (RV.tmp rfl) (.cons (RV.tmp rfl) .nil)) rfl ⟨ax,cx,by rw [← he2];rfl,rfl,rfl⟩ (fun w h=>St.sub h)
theorem ZiT:cal Tryz.prog 65=true:=by kernel_rfl
theorem ZiU:cal Tryz.prog 66=true:=by kernel_rfl
theorem Zjo:ZB Tryz.prog 37=some 1:=by kernel_rfl
theorem ZaL:ZL Tryz.prog 50=some [(0,2),(2,1),(3,1)]:=by kernel_rfl
theorem ZS {b:Rb} {k:Nat} (hk:k<b.n):(crows b (List.range b.n))[k]?=some [.int .i64 ((k%b.cols:Nat):Int),.int .i64 ((k / b.cols:Nat):Int)]:=by
 unfold crows;rw [List.getElem?_map,List.getElem?_range hk];rfl
theorem ZdB {b:Rb} {j i:Nat} (hi:i<b.cols):crows b (List.range (j*b.cols+i))++[[.int .i64 (i:Int),.int .i64 (j:Int)]]=crows b (List.range (j*b.cols+i+1)):=by
 rw [List.range_succ,← ZgZ,show (j*b.cols+i)%b.cols=i by rw [Nat.mul_comm,Nat.mul_add_mod];exact Nat.mod_eq_of_lt hi,show (j*b.cols+i) / b.cols=j by rw [Nat.mul_comm,Nat.mul_add_div (by omega),Nat.div_eq_of_lt hi];rfl]
theorem rd_snoc (l:List Rd) (x:Rd):rdrows l++[rdrow x]=rdrows (l++[x]):=by simp [rdrows]
set_option maxHeartbeats 400000 in
theorem Zb6 (b:Rb) (a:Option Addr) (c:Nat) (hb:b.ok) (H:Z7) (R:Z4) :
    Fn Tryz.prog 65 [(b.v a c)] H R (fun v H' R'=>∃ al cl,v = .slice al b.n cl∧H'=H∧R'=RowsA al 2 (crows b (List.range b.n))::R):=by
 have h1:=hb.cols
 have h2:=hb.rows
 refine Z9 Tryz.func65 rfl Tryz.ntmps65 rfl ?_
 refine sqt 2 rfl (bx rfl rfl rfl (fun b1=>pur 1 rfl (sqt 1 rfl (pur 1 rfl (Z0 (sqt 3 rfl (sp rfl (PE.fA Z1r rfl) rfl (spL rfl rfl (lh sc3 rfl rfl) rfl (pur 1 rfl (Z1 ?_))))))))))
 refine Zc (ι:=(x:{x:Nat // x≤b.rows})×OSl 43 2 (crows b (List.range (x.1*b.cols)))) (fun x=>⟨[(1,.pointer (some ⟨b1,0,none⟩)),(3,x.2.fs),(7,.int .i64 (b.rows:Int)),(8,.int .i64 (x.1.1:Int))],x.2.G++((b1,cel 39 (rbl b a c))::H),R⟩) (fun x=>b.rows-x.1.1) ⟨⟨0,Nat.zero_le _⟩,(OSl.nil _ _).cast (by rw [Nat.zero_mul];rfl)⟩ ?_ (fun x=>?_)
 exact Zf idH
 obtain ⟨⟨j,hj⟩,o⟩:=x
 dsimp only at hj o ⊢
 refine sqt 1 rfl (pur 1 rfl (Z0 ?_))
 refine Z2 rfl ?_ ?_<;>intro hc0<;>try simp only [cS] at hc0
 refine Z3 (Z0 (Z1 (sqt 2 rfl (pur 2 rfl (sqt 3 rfl (sp rfl (PE.fA Z1q rfl) rfl (spL rfl rfl (lh sc3 rfl rfl) rfl (pur 1 rfl (Z1 ?_)))))))))
 refine Zc (ι:=(x:{x:Nat // x≤b.cols})×OSl 43 2 (crows b (List.range (j*b.cols+x.1)))) (fun x=>⟨[(1,.pointer (some ⟨b1,0,none⟩)),(3,x.2.fs),(4,.int .i64 (j:Int)),(7,.int .i64 (b.rows:Int)),(8,.int .i64 (j:Int)),(12,.int .i64 (b.cols:Int)),(13,.int .i64 (x.1.1:Int))],x.2.G++((b1,cel 39 (rbl b a c))::H),R⟩) (fun x=>b.cols-x.1.1) ⟨⟨0,Nat.zero_le _⟩,o⟩ ?_ (fun x=>?_)
 exact Zf idH
 obtain ⟨⟨i,hi⟩,o2⟩:=x
 dsimp only at hi o2 ⊢
 refine sqt 1 rfl (pur 1 rfl (Z0 ?_))
 refine Z2 rfl ?_ ?_<;>intro hc1<;>try simp only [cS] at hc1
 have hlt:j*b.cols+i<b.n:=by
   unfold Rb.n
   have h5:(j+1)*b.cols≤b.rows*b.cols:=Nat.mul_le_mul_right _ (by omega)
   rw [Nat.add_mul] at h5
   rw [Nat.mul_comm b.cols];omega
 have hnl:=Rb.n_le hb
 refine Z3 (Z0 (Z1 (sqt 2 rfl (pur 2 rfl (sqr 7 rfl (pur 3 rfl (sp rfl (PE.build (out:=[_,_]) Zab Z3S rfl rfl) rfl ?_)))))))
 refine bsl (out:=[_,_]) rfl Zih Z3S rfl rfl rfl rfl rfl rfl (fun b20=>?_)
 refine apO (o2) rfl Zi8 rfl rfl (Z2z (row:=[.int .i64 (i:Int),.int .i64 (j:Int)]) rfl) rfl rfl ((by rw [Z79,List.length_range];simp only [List.length_singleton];omega)) rfl (fun o21=>?_)
 refine pur 1 rfl (sqr 2 rfl (sp rfl (PE.add rfl rfl (by omega)) rfl (pur 1 rfl ?_)))
 exact Zb ⟨⟨i+1,by omega⟩,o21.cast (ZdB (by omega))⟩ (fun w h=>h.del b20)
 obtain rfl:i=b.cols:=by omega
 refine Z8 (Za (Za (Zn (sqr 2 rfl (sp rfl (PE.add rfl rfl (by omega)) rfl (pur 1 rfl ?_))))))
 exact Zb ⟨⟨j+1,by omega⟩,o2.cast (by dsimp only;rw [Nat.add_mul,Nat.one_mul])⟩ idH
 obtain rfl:j=b.rows:=by omega
 refine Z8 (Za (Za (Zn (sqt 2 rfl (pur 2 rfl (Z5 ?_))))))
 obtain ⟨al,cl,he,hf⟩:=(o.cast (by rw [Rb.n,Nat.mul_comm]):OSl 43 2 (crows b (List.range b.n))).freeze
 rw [Z79,List.length_range] at he
 exact rtA rfl rfl rfl ⟨al,cl,he,rfl,rfl⟩ (fun w h=>(hf h).del b1)
theorem Zdj (c1 r1 c2 r2:Int) (h1 : -1000≤c1∧c1≤1000) (h2 : -1000≤r1∧r1≤1000) (h3 : -1000≤c2∧c2≤1000) (h4 : -1000≤r2∧r2≤1000) (H:Z7) (R:Z4) :
    FnV Tryz.prog 66 [.agg #[.int .i64 c1,.int .i64 r1],.agg #[.int .i64 c2,.int .i64 r2]] H R (.int .i64 (dsI c1 r1 c2 r2)):=by
 refine Z9 Tryz.func66 rfl Tryz.ntmps66 rfl ?_
 refine sqt 3 rfl (bx rfl rfl rfl (fun b2=>bx rfl rfl rfl (fun b3=>pur 1 rfl (sqt 24 rfl (sp rfl (PE.fA Z2a rfl) rfl (spL rfl rfl (lh sc3 rfl rfl) rfl (sp rfl (PE.fA Z2a rfl) rfl (spL rfl rfl (lh sc3 rfl rfl) rfl (sp rfl (PE.sub rfl rfl (by omega)) rfl (sp rfl (PE.fA Z2a rfl) rfl (spL rfl rfl (lh sc3 rfl rfl) rfl (sp rfl (PE.fA Z2a rfl) rfl (spL rfl rfl (lh sc3 rfl rfl) rfl (sp rfl (PE.sub rfl rfl (by omega)) rfl (sp rfl (PE.max rfl rfl) rfl ?_)))))))))))))))
 refine sp rfl (PE.fA Z2b rfl) rfl (spL rfl rfl (lh sc3 rfl rfl) rfl (sp rfl (PE.fA Z2b rfl) rfl (spL rfl rfl (lh sc3 rfl rfl) rfl (sp rfl (PE.sub rfl rfl (by omega)) rfl (sp rfl (PE.fA Z2b rfl) rfl (spL rfl rfl (lh sc3 rfl rfl) rfl (sp rfl (PE.fA Z2b rfl) rfl (spL rfl rfl (lh sc3 rfl rfl) rfl (sp rfl (PE.sub rfl rfl (by omega)) rfl (sp rfl (PE.max rfl rfl) rfl (sp rfl (PE.add rfl rfl (by omega)) rfl (pur 1 rfl (Z5 ?_)))))))))))))
 exact rtA rfl rfl rfl ⟨by unfold dsI;rw [show -(c1-c2)=c2-c1 by omega,show -(r1-r2)=r2-r1 by omega];rfl,rfl,rfl⟩ drp
set_option maxHeartbeats 400000 in
theorem c_lfeels (b:Rb) (a:Option Addr) (c:Nat) (hb:b.ok) (l:List Int) (ak:Option Addr) (ck:Nat) (hl:l.length=b.n) (hh:∀ x∈l,0≤x∧x≤9) (x:Rd) (hx:(0≤x.c∧x.c<5)∧0≤x.r∧x.r<5) (H:Z7) (R:Z4) [hL:MemRows ak 1 (irows l) R] :
    FnV Tryz.prog 29 [(b.v a c),.slice ak l.length ck,.agg #[.int .i64 x.c,.int .i64 x.r],.int .i64 x.g] H R (.int .i64 (b.feel (na l) x)):=by
 have hnl:=Rb.n_le hb
 have h1:=hb.cols
 refine Z9 Tryz.func29 rfl Tryz.ntmps29 rfl ?_
 refine sqt 3 rfl (bx rfl rfl rfl (fun b4=>bx rfl rfl rfl (fun b6=>pur 1 rfl (sqt 1 rfl (pur 1 rfl (Z0 (sqt 4 rfl (spL rfl rfl (lhA (rbl b a c) ZG rfl rfl rfl) rfl ?_))))))))
 refine cl rfl ZiT rfl rfl (Zb6 b a c hb _ _) ?_
 rintro _ _ _ ⟨al,cl9,rfl,rfl,rfl⟩
 refine sp rfl (PE.lenSl Z5L rfl) rfl (pur 1 rfl (Z1 ?_))
 refine Zc (ι:={k:Nat // k≤b.n}) (fun k=>⟨[(1,.slice ak l.length ck),(3,.int .i64 x.g),(4,.pointer (some ⟨b4,0,none⟩)),(6,.pointer (some ⟨b6,0,none⟩)),(9,.int .i64 (ZZ (fun k=>b.d k x) x.g (na l) (k.1))),(14,.slice al b.n cl9),(15,.int .i64 b.n),(16,.int .i64 (k.1:Int))],(b6,cel 43 [.int .i64 x.c,.int .i64 x.r])::(b4,cel 39 (rbl b a c))::H,RowsA al 2 (crows b (List.range b.n))::R⟩) (fun k=>b.n-k.1) ⟨0,Nat.zero_le _⟩ ?_ (fun k=>?_)
 exact Zf idH
 obtain ⟨k,hkn⟩:=k
 dsimp only at hkn ⊢
 refine sqt 1 rfl (pur 1 rfl (Z0 ?_))
 refine Z2 rfl ?_ ?_<;>intro hc0<;>try simp only [cS] at hc0
 have hk:k<b.n:=by omega
 have hcg:=ZS hk
 have hdb:=Rb.d_bd hb hk hx
 obtain ⟨u,hu⟩:∃ u:Nat,k%b.cols=u:=⟨_,rfl⟩
 obtain ⟨v,hv⟩:∃ v:Nat,k / b.cols=v:=⟨_,rfl⟩
 obtain ⟨hku,hkv,hk25⟩:=Rb.lt hb hk
 rw [hu] at hku hcg
 rw [hv] at hkv hcg
 have hbc:=hb.cols
 have hbr:=hb.rows
 have hbf:=hb.few
 have hd:=Rb.d_is hu hv x
 have hhk:=hh _ (List.mem_of_getElem? (na_get (l:=l) (k:=k) (by omega)))
 have hfn:=feel_nn (fun k=>b.d k x) x.g (na l) k
 refine Zl (a:=al) (sz:=2) (rows:=crows b (List.range b.n)) (by intro h0;rw [h0] at hcg;simp at hcg) (fun ba oa he=>?_)
 subst he
 refine Zl (a:=ak) (sz:=1) (rows:=irows l) (ne0 (by rw [irl];omega)) (fun bk9 ok9 he=>?_)
 subst he
 refine Z3 (Z0 (Z1 (sqt 6 rfl (pur 1 rfl (sp rfl (PE.indexAddr ZdH rfl rfl (by omega) (by omega)) rfl (spL rfl rfl (lfA Z1Z (row:=[.int .i64 (u:Int),.int .i64 (v:Int)]) hcg rfl) rfl (alc rfl Z3S rfl (fun b11=>pur 1 rfl ?_))))))))
 refine Z03 (l':=[.int .i64 (u:Int),.int .i64 (v:Int)]) rfl rfl rfl Z9u rfl rfl rfl rfl (nl rfl) ?_
 refine sqt 4 rfl (spL rfl rfl (lhA [.int .i64 (u:Int),.int .i64 (v:Int)] Z1Z rfl rfl rfl) rfl (spL rfl rfl (lhA [.int .i64 x.c,.int .i64 x.r] Z1Z rfl rfl rfl) rfl ?_))
 refine cl rfl ZiU rfl rfl (Zdj (u:Int) (v:Int) x.c x.r (by omega) (by omega) (by omega) (by omega) _ _) ?_
 rintro _ _ R1 ⟨rfl,rfl,hR1⟩
 obtain rfl:=hR1.symm
 clear hR1
 rw [← hd]
 refine pur 1 rfl (sqt 3 rfl (pur 3 rfl ?_))
 refine Z2 rfl ?_ ?_<;>intro hc1<;>try simp only [cS] at hc1
 have hst:(ZZ (fun k=>b.d k x) x.g (na l) (k+1))=max (ZZ (fun k=>b.d k x) x.g (na l) (k)) (na l k-b.d k x):=by
   show (bif decide (b.d k x≤x.g) then max _ _ else _)=_
   rw [dT hc1];rfl
 refine sqr 9 rfl (pur 3 rfl (sp rfl (PE.indexAddr Z3R rfl rfl (by omega) (by omega)) rfl (spL rfl rfl (lf0 sc3 (Z1s (na_get (l:=l) (k:=k) (by omega))) rfl) rfl (pur 1 rfl (sp rfl (PE.sub rfl rfl (by omega)) rfl (sp rfl (PE.max rfl rfl) rfl (pur 1 rfl (sqr 2 rfl (sp rfl (PE.add rfl rfl (by omega)) rfl (pur 1 rfl ?_))))))))))
 exact Z0e ⟨k+1,by omega⟩ (by dsimp only;omega) (by dsimp only;rw [hst];exact sbA) (fun w h9=>h9.del b11)
 have hst:(ZZ (fun k=>b.d k x) x.g (na l) (k+1))=(ZZ (fun k=>b.d k x) x.g (na l) (k)):=by
   show (bif decide (b.d k x≤x.g) then max _ _ else _)=_
   rw [dF (by omega)];rfl
 refine Z3 (sqr 2 rfl (sp rfl (PE.add rfl rfl (by omega)) rfl (pur 1 rfl ?_)))
 exact Z0e ⟨k+1,by omega⟩ (by dsimp only;omega) (by dsimp only;rw [hst];exact sbA) (fun w h9=>h9.del b11)
 obtain rfl:k=b.n:=by omega
 refine Z8 (Za (Za (Zn (sqt 2 rfl (pur 2 rfl (Z5 ?_))))))
 exact rtA rfl rfl rfl ⟨rfl,rfl,rfl⟩ (fun w h=>St.sub ((h.del b6).del b4))
set_option maxHeartbeats 400000 in
theorem c_Three (a:Option Addr) (c:Nat) (H:Z7) (R:Z4) [hB:MemRows a 1 (irows [0,1,2]) R] :
    Fn Tryz.prog 44 [.slice a 3 c] H R (fun v H' R'=>∃ ax cx,v=thr3.v ax cx∧H'=H∧R'=RowsA ax 4 (rdrows thr3.rods)::R):=by
 refine Z9 Tryz.func44 rfl Tryz.ntmps44 rfl ?_
 refine sqt 1 rfl (alc rfl Z7H rfl (fun b2=>sqt 10 rfl (sp rfl (PE.build (out:=[_,_]) Zab Z3S rfl rfl) rfl (sp rfl (PE.build (out:=[_,_,_,_]) ZaL Z3Q rfl rfl) rfl (sp rfl (PE.build (out:=[_,_]) Zab Z3S rfl rfl) rfl (sp rfl (PE.build (out:=[_,_,_,_]) ZaL Z3Q rfl rfl) rfl (sp rfl (PE.build (out:=[_,_]) Zab Z3S rfl rfl) rfl (sp rfl (PE.build (out:=[_,_,_,_]) ZaL Z3Q rfl rfl) rfl (sp rfl (PE.build (out:=[_,_]) Zab Z3S rfl rfl) rfl (sp rfl (PE.build (out:=[_,_,_,_]) ZaL Z3Q rfl rfl) rfl ?_))))))))))
 refine bsl (out:=[_,_,_,_,_,_,_,_,_,_,_,_,_,_,_,_]) rfl ZhU Z3Q rfl rfl rfl rfl rfl rfl (fun b15=>?_)
 refine pur 1 rfl (sqt 3 rfl (sp rfl (PE.build (out:=[_,_,_]) ZhH Z7H rfl rfl) rfl (alc rfl Z7H rfl (fun b4=>?_))))
 refine sto rfl rfl rfl Z9t rfl rfl rfl rfl ?_
 refine Z0 (sqt 3 rfl (pur 1 rfl (sp rfl (PE.lenSl Z04 rfl) rfl (pur 1 rfl (Z1 ?_)))))
 refine Zc (ι:=(x:{x:Nat // x≤3})×OSl 50 4 (rdrows (thr3.rods.take x.1))) (fun x=>⟨[(2,.pointer (some ⟨b2,0,none⟩)),(3,.slice (some ⟨b15,0,none⟩) 4 4),(4,.pointer (some ⟨b4,0,none⟩)),(17,.slice a 3 c),(18,.int .i64 3),(19,.int .i64 (x.1.1:Int))],x.2.G++((b4,cel 39 [.int .i64 4,.int .i64 3,x.2.fs])::(b15,cel 50 [.int .i64 1,.int .i64 1,.int .i64 2,.int .i64 3,.int .i64 3,.int .i64 0,.int .i64 1,.int .i64 0,.int .i64 0,.int .i64 2,.int .i64 1,.int .i64 4,.int .i64 0,.int .i64 2,.int .i64 0,.int .i64 0])::(b2,cel 39 [.int .i64 0,.int .i64 0,.slice none 0 0])::H),R⟩) (fun x=>3-x.1.1) ⟨⟨0,Nat.zero_le _⟩,OSl.nil _ _⟩ ?_ (fun x=>?_)
 exact Zf idH
 obtain ⟨⟨k,hk⟩,o⟩:=x
 dsimp only at hk o ⊢
 refine sqt 1 rfl (pur 1 rfl (Z0 ?_))
 refine Z2 rfl ?_ ?_<;>intro hc0<;>try simp only [cS] at hc0
 have hg:(irows [0,1,2])[k]?=some [.int .i64 (k:Int)]:=by rcases (show k=0∨k=1∨k=2 by omega) with rfl | rfl | rfl<;>rfl
 obtain ⟨x,rest,hx,hdr⟩:∃ (x:Rd) (rest:List Value),thr3.rods[k]?=some x∧([.int .i64 1,.int .i64 1,.int .i64 2,.int .i64 3,.int .i64 3,.int .i64 0,.int .i64 1,.int .i64 0,.int .i64 0,.int .i64 2,.int .i64 1,.int .i64 4,.int .i64 0,.int .i64 2,.int .i64 0,.int .i64 0]:List Value).drop (0+((k:Nat):Int).toNat*4)=rdrow x++rest:=by rcases (show k=0∨k=1∨k=2 by omega) with rfl | rfl | rfl<;>exact ⟨_,_,rfl,rfl⟩
 refine Zl (a:=a) (sz:=1) (rows:=irows [0,1,2]) (by simp) (fun ba oa he=>?_)
 subst he
 refine Z3 (Z0 (Z1 (sqt 3 rfl (sp rfl (PE.indexAddr Z3R rfl rfl (by omega) (by omega)) rfl (spL rfl rfl (lf0 sc3 hg rfl) rfl (pur 1 rfl ?_))))))
 refine Zd [0,1,0,0,12,28,60,127,255,511] (.tk 0 (.ld 1 (tks 2 3 (.ld 5 (.big 6 (.big 7 (.tk 8 (.big 9 .done)))))))) Zq (by kernel_rfl) ?_
 refine tk rfl (PE.fA Z0a rfl) rfl (ld rfl rfl (lh (v:=o.fs) Z52 rfl rfl) rfl (Zm 2 rfl (tk rfl (PE.indexAddr ZdG rfl rfl (by omega) (by omega)) rfl (ld rfl rfl (lhA (rest:=rest) (rdrow x) ZaH rfl hdr rfl) rfl ?_))))
 refine bsl (out:=[_,_,_,_]) rfl ZhU Z3Q rfl rfl rfl rfl rfl rfl (fun b29=>?_)
 refine bg (fun w hs=>⟨trivial,(lh (v:=o.fs) Z52 rfl rfl) w hs,trivial⟩) ?_
 refine apO (o) rfl ZeZ rfl rfl (Z2z (row:=rdrow x) rfl) rfl rfl ((by rw [rd_len,List.length_take];simp only [List.length_singleton];omega)) rfl (fun o30=>?_)
 refine bgT (tk rfl (PE.fA Z0a rfl) rfl ?_)
 refine Z03 (l':=[.int .i64 4,.int .i64 3,o30.fs]) rfl rfl rfl Zjo rfl (by rw [o30.cells.1];rfl) (by rw [o30.cells.1];simp [o30.cells.2]) (by rw [o30.cells.1];rfl) (by rw [o30.cells.1];exact Nat.le_of_ble_eq_true rfl) ?_
 refine bgT (sqr 2 rfl (sp rfl (PE.add rfl rfl (by omega)) rfl (pur 1 rfl ?_)))
 exact Zb ⟨⟨k+1,by omega⟩,o30.cast (by rw [List.take_add_one,hx];exact rd_snoc _ _)⟩ (fun w h=>h.del b29)
 obtain rfl:k=3:=by omega
 obtain ⟨ax,cx,he,hf⟩:=(o.cast rfl:OSl 50 4 (rdrows thr3.rods)).freeze
 rw [show o.fs=_ from he]
 refine Sy.heap (fun w h=>hf h) ?_
 refine Z8 (Za (Za (Zn (sqt 2 rfl (spL rfl rfl (lhA (rbl thr3 ax cx) ZG rfl rfl rfl) rfl ?_)))))
 refine Z03 (l':=rbl thr3 ax cx) rfl rfl rfl Z9t rfl rfl rfl rfl (nl rfl) ?_
 refine Z5 ?_
 exact Zk (vs:=[_]) rfl (.cons (RV.cell rfl (lhA (rbl thr3 ax cx) ZG rfl rfl rfl)) .nil) rfl ⟨ax,cx,rfl,rfl,rfl⟩ (fun w h=>((h.del b4).del b15).del b2)
end Go.Proofs.YthijcgkicjljhaaGreat.Ro
namespace Go.Proofs.YthijcgkicjljhaaGreat.Fl
set_option linter.unusedSimpArgs false
set_option linter.unusedVariables false
open Go
theorem Z1h:Z1g Tryz.prog 119=some 4:=by kernel_rfl
theorem ZaO:Z1g Tryz.prog 178=some 2:=by kernel_rfl
theorem ZaP:Z1g Tryz.prog 180=some 3:=by kernel_rfl
theorem ZeX:Z1g Tryz.prog 261=some 2:=by kernel_rfl
theorem Z5t:cal Tryz.prog 110=true:=by kernel_rfl
theorem Z3h:cal Tryz.prog 130=true:=by kernel_rfl
theorem Z5u:cal Tryz.prog 147=true:=by kernel_rfl
theorem Z9l:cal Tryz.prog 182=true:=by kernel_rfl
theorem Zg0:cal Tryz.prog 187=true:=by kernel_rfl
theorem Zcm:cal Tryz.prog 189=true:=by kernel_rfl
theorem Zg6:cal Tryz.prog 194=true:=by kernel_rfl
theorem Zgp:cal Tryz.prog 226=true:=by kernel_rfl
theorem Zgq:cal Tryz.prog 227=true:=by kernel_rfl
theorem Zgr:cal Tryz.prog 228=true:=by kernel_rfl
theorem Zgs:cal Tryz.prog 229=true:=by kernel_rfl
theorem Zgt:cal Tryz.prog 230=true:=by kernel_rfl
theorem Zgu:cal Tryz.prog 231=true:=by kernel_rfl
theorem Zgv:cal Tryz.prog 232=true:=by kernel_rfl
theorem ZgC:cal Tryz.prog 242=true:=by kernel_rfl
theorem ZgD:cal Tryz.prog 243=true:=by kernel_rfl
theorem ZgE:cal Tryz.prog 244=true:=by kernel_rfl
theorem Zbe:elN Tryz.prog 115=some 2:=by kernel_rfl
theorem ZdF:elN Tryz.prog 116=some 3:=by kernel_rfl
theorem Zjr:elN Tryz.prog 117=some 2:=by kernel_rfl
theorem Z3R:elN Tryz.prog 30=some 1:=by kernel_rfl
theorem Z3r:ZT Tryz.prog 119 0=some 0:=by kernel_rfl
theorem Z1o:ZT Tryz.prog 119 1=some 1:=by kernel_rfl
theorem Z1P:ZT Tryz.prog 119 2=some 2:=by kernel_rfl
theorem Z6v:ZT Tryz.prog 178 0=some 0:=by kernel_rfl
theorem Z3t:ZT Tryz.prog 178 1=some 1:=by kernel_rfl
theorem Z4K:ZT Tryz.prog 180 0=some 0:=by kernel_rfl
theorem Z6w:ZT Tryz.prog 180 1=some 1:=by kernel_rfl
theorem Z6x:ZT Tryz.prog 180 2=some 2:=by kernel_rfl
theorem Z5J:Z2n Tryz.prog 115=true:=by kernel_rfl
theorem Z5K:Z2n Tryz.prog 116=true:=by kernel_rfl
theorem Z9U:Z2n Tryz.prog 117=true:=by kernel_rfl
theorem Z04:Z2n Tryz.prog 30=true:=by kernel_rfl
theorem Z61:Z0g Tryz.prog 115=true:=by kernel_rfl
theorem Z6U:Z0g Tryz.prog 116=true:=by kernel_rfl
theorem Z51:Z0g Tryz.prog 131=true:=by kernel_rfl
theorem ZjK:Z0g Tryz.prog 278=true:=by kernel_rfl
theorem ZjL:Z0g Tryz.prog 280=true:=by kernel_rfl
theorem ZjM:Z0g Tryz.prog 282=true:=by kernel_rfl
theorem sc3:Z0g Tryz.prog 3=true:=by kernel_rfl
theorem Z8k:Z0g Tryz.prog 30=true:=by kernel_rfl
@[reducible] def inR (n lo hi : Int) : Bool := decide (lo ≤ n) && decide (n ≤ hi)
def na (l:List Int) (k:Nat):Int:=l.getD k 0
structure Trn where (f t n:Int)
abbrev irows (l:List Int):List (List Value):=l.map fun z=>[.int .i64 z]
def Z0L (x:Int×Nat):List Value:=[.int .i64 x.1,.slice (some ⟨x.2,0,none⟩) 2 2]
abbrev Z0f (l:List (Int×Nat)):List (List Value):=l.map Z0L
def Z0X (x:Trn):List Value:=[.int .i64 x.f,.int .i64 x.t,.int .i64 x.n]
abbrev Z0r (l:List Trn):List (List Value):=l.map Z0X
def Z4X (x:Int×Int):List Value:=[.int .i64 x.1,.int .i64 x.2]
abbrev Z0I (l:List (Int×Int)):List (List Value):=l.map Z4X
def fls (pa pb pc:Nat):List Value:=[.slice (some ⟨pa,0,none⟩) 2 2,.slice (some ⟨pb,0,none⟩) 3 3,.slice (some ⟨pc,0,none⟩) 3 3,.slice none 0 0]
def ZY (pd pe pf:Nat):List (Int×Nat):=[(60,pd),(30,pe),(0,pf)]
def trnF:List Trn:=[⟨0,1,40⟩,⟨1,2,30⟩,⟨-1,0,40⟩]
def shs:Nat→List Int
 | 0=>[4,0]
 | 1=>[2,2]
 | _=>[0,4]
theorem irl (l:List Int):(irows l).length=l.length:=List.length_map _
theorem Z1s {l:List Int} {k:Nat} {x:Int} (h:l[k]?=some x):(irows l)[k]?=some [.int .i64 x]:=by simp [irows,h]
theorem Z6 (l:List Int):(Zj l).length=l.length:=by simp [Zj]
theorem Z0x {l:List Int} {k:Nat} {v:Int} (h:l[k]?=some v):(Zj l)[k]?=some (.int .i64 v):=by simp [Zj,h]
theorem na_get {l:List Int} {k:Nat} (h:k<l.length):l[k]?=some (na l k):=by
 unfold na;rw [List.getD_eq_getElem?_getD,List.getElem?_eq_getElem h];rfl
theorem Z4c {w:List Int} {k i:Nat} (hk:k<w.length) (e:i=k):(Zj w)[i]?=some (.int .i64 (na w k)):=by
 subst e;exact Z0x (na_get hk)
theorem Z6B {n lo hi:Int} (h:lo≤n∧n≤hi):inR n lo hi=true:=by simp [inR,h]
theorem Z5i {pd pe pf:Nat} {x:Int×Nat} (h:x∈ZY pd pe pf):x=(60,pd)∨x=(30,pe)∨x=(0,pf):=by simpa [ZY] using h
theorem Z67 {x:Trn} (h:x∈trnF):(-1≤x.f∧x.f≤1)∧(0≤x.t∧x.t≤2)∧(1≤x.n∧x.n≤40)∧x.f≠x.t:=by
 simp only [trnF,List.mem_cons,List.not_mem_nil,or_false] at h
 rcases h with rfl | rfl | rfl<;>simp
theorem Zr {α:Type} {xs:List α} {p:α→Bool} {k:Nat} {x:α} (hx:xs[k]?=some x) (hn:∀ y∈xs.take k,p y=false) (h:p x=true):xs.findIdx? p=some k:=by
 induction xs generalizing k with
 | nil=>simp at hx
 | cons y ys ih =>
   cases k with
   | zero=>simp only [List.getElem?_cons_zero,Option.some.injEq] at hx;subst hx;simp [List.findIdx?_cons,h]
   | succ k =>
     have hy:=hn y (by simp)
     have:=ih (by simpa using hx) (fun z hz=>hn z (by simp [hz]))
     simp [List.findIdx?_cons,hy,this]
theorem Zp {α:Type} {xs:List α} {p:α→Bool} (hn:∀ y∈xs,p y=false):xs.findIdx? p=none:=by
 rw [List.findIdx?_eq_none_iff];exact hn
theorem ZJ {α:Type} {xs:List α} {p:α→Bool} {k:Nat} {x:α} (hx:xs[k]?=some x) (hn:∀ y∈xs.take k,p y=false) (h:p x=false):∀ y∈xs.take (k+1),p y=false:=by
 intro y hy
 rw [List.take_add_one,hx] at hy
 rcases List.mem_append.1 hy with h1 | h1
 · exact hn y h1
 · simp only [Option.toList_some,List.mem_singleton] at h1;subst h1;exact h
theorem Z0b {α:Type} (xs:List α) (p:α→Bool):Value.bool (decide (0≤(match xs.findIdx? p with | some k=>(k:Int) | none => -1))) = .bool (xs.any p):=by
 congr 1
 cases h:xs.findIdx? p with
 | none =>
   have:=List.findIdx?_eq_none_iff.1 h
   have h2:xs.any p=false:=by simpa using this
   rw [h2];rfl
 | some k =>
   have h2:xs.any p=true:=by
     rw [← Bool.not_eq_false];intro h3
     have:xs.findIdx? p=none:=List.findIdx?_eq_none_iff.2 (by simpa using h3)
     rw [this] at h;cases h
   rw [h2];simp
theorem Zx {α:Type} (xs:List α) (p:α→Bool):Value.bool (!xs.any fun x=>!p x) = .bool (xs.all p):=by
 congr 1
 induction xs with
 | nil=>rfl
 | cons x xs ih=>simp [← ih]
theorem Z6l (n lo hi:Int) (H:Z7) (R:Z4) :
    FnV Tryz.prog 130 [.int .i64 n,.int .i64 lo,.int .i64 hi] H R (.bool (inR n lo hi)):=by
 refine Z9 Tryz.func130 rfl Tryz.ntmps130 rfl ?_
 refine sqt 1 rfl (pur 1 rfl (sqt 9 rfl (pur 4 rfl ?_)))
 refine Zv 10 rfl ?_ ?_<;>intro g10
 refine pur 5 rfl (Z5 ?_)
 exact rtA rfl rfl rfl ⟨by simp_all only [Z08,inR,Bool.true_and,Bool.false_and,cond_true,cond_false],rfl,rfl⟩ drp
 refine pur 5 rfl (Z5 ?_)
 exact rtA rfl rfl rfl ⟨by simp_all only [Z08,inR,Bool.true_and,Bool.false_and,cond_true,cond_false],rfl,rfl⟩ drp
theorem Z0w (n lo hi:Int) (h:lo≤n∧n≤hi) (H:Z7) (R:Z4):FnV Tryz.prog 130 [.int .i64 n,.int .i64 lo,.int .i64 hi] H R (.bool true):=by
 have:=Z6l n lo hi H R
 rwa [Z6B h] at this
theorem Z3f (xs:List (Int×Nat)) (a:Option Addr) (c g:Nat) (fst cap:List Value) (p:(Int×Nat)→Bool) (hg:cal Tryz.prog g=true) (hl:xs.length≤9223372036854775807) (H:Z7) (R:Z4) [hR:MemRows a 2 (Z0f xs) R] (hp:∀ x,x∈xs→FnV Tryz.prog g (fst++[.agg (Z0L x).toArray]++cap) H R (.bool (p x))) :
    FnV Tryz.prog 242 [.slice a xs.length c,.func (.func g) fst.toArray cap.toArray] H R (.int .i64 (match xs.findIdx? p with | some k=>(k:Int) | none => -1)):=by
 refine Z9 Tryz.func242 rfl Tryz.ntmps242 rfl ?_
 refine sqt 1 rfl (pur 1 rfl (Z0 (sqt 3 rfl (pur 1 rfl (sp rfl (PE.lenSl Z5J rfl) rfl (pur 1 rfl (Z1 ?_)))))))
 refine Zc (ι:={k:Nat // k≤xs.length∧∀ x∈xs.take k,p x=false}) (fun k=>⟨[(0,.slice a xs.length c),(1,.func (.func g) fst.toArray cap.toArray),(7,.int .i64 xs.length),(8,.int .i64 k.1)],H,R⟩) (fun k=>xs.length-k.1) ⟨0,by simp⟩ ?_ (fun k=>?_)
 exact Zf idH
 obtain ⟨k,hk,hn⟩:=k
 dsimp only
 refine sqt 1 rfl (pur 1 rfl (Z0 ?_))
 refine Z2 rfl ?_ ?_<;>intro hc0
 simp only [cS] at hc0
 obtain ⟨x,hx⟩:∃ x,xs[k]?=some x:=⟨_,List.getElem?_eq_getElem (by omega)⟩
 have hxm:=List.mem_of_getElem? hx
 refine Zl (a:=a) (sz:=2) (rows:=Z0f xs) (by cases xs<;>simp_all [Z0f]) (fun b off he=>?_)
 subst he
 refine Z3 (Z0 (Z1 (sqt 2 rfl (pur 2 rfl (sqt 6 rfl (pur 3 rfl (sp rfl (PE.indexAddr Zbe rfl rfl (by omega) (by omega)) rfl (spL rfl rfl (lfA ZaO (row:=Z0L x) (by simp [Z0f,hx]) rfl) rfl ?_))))))))
 refine Z2r rfl rfl (hg) rfl rfl (hp x hxm) ?_
 refine Z2 rfl ?_ ?_<;>intro hc1
 refine sqt 2 rfl (pur 2 rfl (Z5 ?_))
 first | (exact rtA rfl rfl rfl ⟨by rw [Zr hx hn hc1];rfl,rfl,rfl⟩ idH) | (exact rtA rfl rfl rfl ⟨by rw [Zp (by simpa using hn)];rfl,rfl,rfl⟩ idH)
 refine Z3 (sqr 2 rfl (sp rfl (PE.add rfl rfl (by omega)) rfl (pur 1 rfl ?_)))
 exact Zb ⟨k+1,by omega,ZJ hx hn hc1⟩ idH
 simp only [cS] at hc0
 obtain rfl:k=xs.length:=by omega
 refine Z8 (Za (Za (Zn (sqt 1 rfl (pur 1 rfl (Z5 ?_))))))
 first | (exact rtA rfl rfl rfl ⟨by rw [Zr hx hn hc1];rfl,rfl,rfl⟩ idH) | (exact rtA rfl rfl rfl ⟨by rw [Zp (by simpa using hn)];rfl,rfl,rfl⟩ idH)
theorem Z3e (xs:List (Int×Nat)) (a:Option Addr) (c g:Nat) (fst cap:List Value) (p:(Int×Nat)→Bool) (hg:cal Tryz.prog g=true) (hl:xs.length≤9223372036854775807) (H:Z7) (R:Z4) [hR:MemRows a 2 (Z0f xs) R] (hp:∀ x,x∈xs→FnV Tryz.prog g (fst++[.agg (Z0L x).toArray]++cap) H R (.bool (p x))) :
    FnV Tryz.prog 226 [.slice a xs.length c,.func (.func g) fst.toArray cap.toArray] H R (.bool (xs.any p)):=by
 refine Z9 Tryz.func226 rfl Tryz.ntmps226 rfl ?_
 refine sqt 1 rfl (pur 1 rfl (sqt 5 rfl (pur 2 rfl ?_)))
 refine clV rfl ZgC rfl rfl (Z3f xs a c g fst cap p hg hl _ _ hp) ?_
 refine pur 2 rfl (Z5 ?_)
 exact rtA rfl rfl rfl ⟨by simp only [Z08];exact Z0b _ _,rfl,rfl⟩ drp
theorem Z3a (x:(Int×Nat)) (g bf:Nat) (fst cap:List Value) (p:Bool) (hg:cal Tryz.prog g=true) (H:Z7) (R:Z4) [hM:Mem1 bf (cel 278 [.func (.func g) fst.toArray cap.toArray]) H] (hp:∀ b,FnV Tryz.prog g (fst++[.agg (Z0L x).toArray]++cap) ((b,cel 178 (Z0L x))::H) R (.bool p)) :
    FnV Tryz.prog 227 [.agg (Z0L x).toArray,.pointer (some ⟨bf,0,none⟩)] H R (.bool !p):=by
 refine Z9 Tryz.func227 rfl Tryz.ntmps227 rfl ?_
 refine sqt 2 rfl (bx rfl rfl rfl (fun b2=>pur 1 rfl (sqt 5 rfl (spL rfl rfl (lh ZjK rfl rfl) rfl (spL rfl rfl (lhA [_,_] ZaO rfl rfl rfl) rfl ?_)))))
 refine Z2r rfl rfl (hg) rfl rfl (hp _) ?_
 refine pur 2 rfl (Z5 ?_)
 exact rtA rfl rfl rfl ⟨rfl,rfl,rfl⟩ drp
theorem Z0h (xs:List (Int×Nat)) (a:Option Addr) (c g:Nat) (fst cap:List Value) (p:(Int×Nat)→Bool) (hg:cal Tryz.prog g=true) (hl:xs.length≤9223372036854775807) (H:Z7) (R:Z4) [hR:MemRows a 2 (Z0f xs) R] (hp:∀ b b2 x,x∈xs→FnV Tryz.prog g (fst++[.agg (Z0L x).toArray]++cap) ((b2,cel 178 (Z0L x))::(b,cel 278 [.func (.func g) fst.toArray cap.toArray])::H) R (.bool (p x))) :
    FnV Tryz.prog 180 [.slice a xs.length c,.func (.func g) fst.toArray cap.toArray] H R (.bool (xs.all p)):=by
 refine Z9 Tryz.func180 rfl Tryz.ntmps180 rfl ?_
 refine sqt 2 rfl (bx rfl rfl rfl (fun b3=>pur 1 rfl (sqt 5 rfl (pur 1 rfl (sp rfl (PE.makeFunc rfl rfl) rfl ?_)))))
 refine clV rfl Zgp rfl rfl (Z3e xs a c 227 [] [_] (fun x=>!p x) Zgq hl _ _ (hp:=fun x hx=>Z3a x g _ fst cap (p x) hg _ _ (hp:=fun b=>hp _ _ x hx))) ?_
 refine pur 2 rfl (Z5 ?_)
 exact rtA rfl rfl rfl ⟨by simp only [Z08];rw [Zx],rfl,rfl⟩ drp
theorem Z95 (xs:List Trn) (a:Option Addr) (c g:Nat) (fst cap:List Value) (p:Trn→Bool) (hg:cal Tryz.prog g=true) (hl:xs.length≤9223372036854775807) (H:Z7) (R:Z4) [hR:MemRows a 3 (Z0r xs) R] (hp:∀ x,x∈xs→FnV Tryz.prog g (fst++[.agg (Z0X x).toArray]++cap) H R (.bool (p x))) :
    FnV Tryz.prog 243 [.slice a xs.length c,.func (.func g) fst.toArray cap.toArray] H R (.int .i64 (match xs.findIdx? p with | some k=>(k:Int) | none => -1)):=by
 refine Z9 Tryz.func243 rfl Tryz.ntmps243 rfl ?_
 refine sqt 1 rfl (pur 1 rfl (Z0 (sqt 3 rfl (pur 1 rfl (sp rfl (PE.lenSl Z5K rfl) rfl (pur 1 rfl (Z1 ?_)))))))
 refine Zc (ι:={k:Nat // k≤xs.length∧∀ x∈xs.take k,p x=false}) (fun k=>⟨[(0,.slice a xs.length c),(1,.func (.func g) fst.toArray cap.toArray),(7,.int .i64 xs.length),(8,.int .i64 k.1)],H,R⟩) (fun k=>xs.length-k.1) ⟨0,by simp⟩ ?_ (fun k=>?_)
 exact Zf idH
 obtain ⟨k,hk,hn⟩:=k
 dsimp only
 refine sqt 1 rfl (pur 1 rfl (Z0 ?_))
 refine Z2 rfl ?_ ?_<;>intro hc0
 simp only [cS] at hc0
 obtain ⟨x,hx⟩:∃ x,xs[k]?=some x:=⟨_,List.getElem?_eq_getElem (by omega)⟩
 have hxm:=List.mem_of_getElem? hx
 refine Zl (a:=a) (sz:=3) (rows:=Z0r xs) (by cases xs<;>simp_all [Z0r]) (fun b off he=>?_)
 subst he
 refine Z3 (Z0 (Z1 (sqt 2 rfl (pur 2 rfl (sqt 6 rfl (pur 3 rfl (sp rfl (PE.indexAddr ZdF rfl rfl (by omega) (by omega)) rfl (spL rfl rfl (lfA ZaP (row:=Z0X x) (by simp [Z0r,hx]) rfl) rfl ?_))))))))
 refine Z2r rfl rfl (hg) rfl rfl (hp x hxm) ?_
 refine Z2 rfl ?_ ?_<;>intro hc1
 refine sqt 2 rfl (pur 2 rfl (Z5 ?_))
 first | (exact rtA rfl rfl rfl ⟨by rw [Zr hx hn hc1];rfl,rfl,rfl⟩ idH) | (exact rtA rfl rfl rfl ⟨by rw [Zp (by simpa using hn)];rfl,rfl,rfl⟩ idH)
 refine Z3 (sqr 2 rfl (sp rfl (PE.add rfl rfl (by omega)) rfl (pur 1 rfl ?_)))
 exact Zb ⟨k+1,by omega,ZJ hx hn hc1⟩ idH
 simp only [cS] at hc0
 obtain rfl:k=xs.length:=by omega
 refine Z8 (Za (Za (Zn (sqt 1 rfl (pur 1 rfl (Z5 ?_))))))
 first | (exact rtA rfl rfl rfl ⟨by rw [Zr hx hn hc1];rfl,rfl,rfl⟩ idH) | (exact rtA rfl rfl rfl ⟨by rw [Zp (by simpa using hn)];rfl,rfl,rfl⟩ idH)
theorem Z8Z (xs:List Trn) (a:Option Addr) (c g:Nat) (fst cap:List Value) (p:Trn→Bool) (hg:cal Tryz.prog g=true) (hl:xs.length≤9223372036854775807) (H:Z7) (R:Z4) [hR:MemRows a 3 (Z0r xs) R] (hp:∀ x,x∈xs→FnV Tryz.prog g (fst++[.agg (Z0X x).toArray]++cap) H R (.bool (p x))) :
    FnV Tryz.prog 229 [.slice a xs.length c,.func (.func g) fst.toArray cap.toArray] H R (.bool (xs.any p)):=by
 refine Z9 Tryz.func229 rfl Tryz.ntmps229 rfl ?_
 refine sqt 1 rfl (pur 1 rfl (sqt 5 rfl (pur 2 rfl ?_)))
 refine clV rfl ZgD rfl rfl (Z95 xs a c g fst cap p hg hl _ _ hp) ?_
 refine pur 2 rfl (Z5 ?_)
 exact rtA rfl rfl rfl ⟨by simp only [Z08];exact Z0b _ _,rfl,rfl⟩ drp
theorem Z8Q (x:Trn) (g bf:Nat) (fst cap:List Value) (p:Bool) (hg:cal Tryz.prog g=true) (H:Z7) (R:Z4) [hM:Mem1 bf (cel 280 [.func (.func g) fst.toArray cap.toArray]) H] (hp:∀ b,FnV Tryz.prog g (fst++[.agg (Z0X x).toArray]++cap) ((b,cel 180 (Z0X x))::H) R (.bool p)) :
    FnV Tryz.prog 230 [.agg (Z0X x).toArray,.pointer (some ⟨bf,0,none⟩)] H R (.bool !p):=by
 refine Z9 Tryz.func230 rfl Tryz.ntmps230 rfl ?_
 refine sqt 2 rfl (bx rfl rfl rfl (fun b2=>pur 1 rfl (sqt 5 rfl (spL rfl rfl (lh ZjL rfl rfl) rfl (spL rfl rfl (lhA [_,_,_] ZaP rfl rfl rfl) rfl ?_)))))
 refine Z2r rfl rfl (hg) rfl rfl (hp _) ?_
 refine pur 2 rfl (Z5 ?_)
 exact rtA rfl rfl rfl ⟨rfl,rfl,rfl⟩ drp
theorem Z1N (xs:List Trn) (a:Option Addr) (c g:Nat) (fst cap:List Value) (p:Trn→Bool) (hg:cal Tryz.prog g=true) (hl:xs.length≤9223372036854775807) (H:Z7) (R:Z4) [hR:MemRows a 3 (Z0r xs) R] (hp:∀ b b2 x,x∈xs→FnV Tryz.prog g (fst++[.agg (Z0X x).toArray]++cap) ((b2,cel 180 (Z0X x))::(b,cel 280 [.func (.func g) fst.toArray cap.toArray])::H) R (.bool (p x))) :
    FnV Tryz.prog 184 [.slice a xs.length c,.func (.func g) fst.toArray cap.toArray] H R (.bool (xs.all p)):=by
 refine Z9 Tryz.func184 rfl Tryz.ntmps184 rfl ?_
 refine sqt 2 rfl (bx rfl rfl rfl (fun b3=>pur 1 rfl (sqt 5 rfl (pur 1 rfl (sp rfl (PE.makeFunc rfl rfl) rfl ?_)))))
 refine clV rfl Zgs rfl rfl (Z8Z xs a c 230 [] [_] (fun x=>!p x) Zgt hl _ _ (hp:=fun x hx=>Z8Q x g _ fst cap (p x) hg _ _ (hp:=fun b=>hp _ _ x hx))) ?_
 refine pur 2 rfl (Z5 ?_)
 exact rtA rfl rfl rfl ⟨by simp only [Z08];rw [Zx],rfl,rfl⟩ drp
theorem Z93 (xs:List (Int×Int)) (a:Option Addr) (c g:Nat) (fst cap:List Value) (p:(Int×Int)→Bool) (hg:cal Tryz.prog g=true) (hl:xs.length≤9223372036854775807) (H:Z7) (R:Z4) [hR:MemRows a 2 (Z0I xs) R] (hp:∀ x,x∈xs→FnV Tryz.prog g (fst++[.agg (Z4X x).toArray]++cap) H R (.bool (p x))) :
    FnV Tryz.prog 244 [.slice a xs.length c,.func (.func g) fst.toArray cap.toArray] H R (.int .i64 (match xs.findIdx? p with | some k=>(k:Int) | none => -1)):=by
 refine Z9 Tryz.func244 rfl Tryz.ntmps244 rfl ?_
 refine sqt 1 rfl (pur 1 rfl (Z0 (sqt 3 rfl (pur 1 rfl (sp rfl (PE.lenSl Z9U rfl) rfl (pur 1 rfl (Z1 ?_)))))))
 refine Zc (ι:={k:Nat // k≤xs.length∧∀ x∈xs.take k,p x=false}) (fun k=>⟨[(0,.slice a xs.length c),(1,.func (.func g) fst.toArray cap.toArray),(7,.int .i64 xs.length),(8,.int .i64 k.1)],H,R⟩) (fun k=>xs.length-k.1) ⟨0,by simp⟩ ?_ (fun k=>?_)
 exact Zf idH
 obtain ⟨k,hk,hn⟩:=k
 dsimp only
 refine sqt 1 rfl (pur 1 rfl (Z0 ?_))
 refine Z2 rfl ?_ ?_<;>intro hc0
 simp only [cS] at hc0
 obtain ⟨x,hx⟩:∃ x,xs[k]?=some x:=⟨_,List.getElem?_eq_getElem (by omega)⟩
 have hxm:=List.mem_of_getElem? hx
 refine Zl (a:=a) (sz:=2) (rows:=Z0I xs) (by cases xs<;>simp_all [Z0I]) (fun b off he=>?_)
 subst he
 refine Z3 (Z0 (Z1 (sqt 2 rfl (pur 2 rfl (sqt 6 rfl (pur 3 rfl (sp rfl (PE.indexAddr Zjr rfl rfl (by omega) (by omega)) rfl (spL rfl rfl (lfA ZeX (row:=Z4X x) (by simp [Z0I,hx]) rfl) rfl ?_))))))))
 refine Z2r rfl rfl (hg) rfl rfl (hp x hxm) ?_
 refine Z2 rfl ?_ ?_<;>intro hc1
 refine sqt 2 rfl (pur 2 rfl (Z5 ?_))
 first | (exact rtA rfl rfl rfl ⟨by rw [Zr hx hn hc1];rfl,rfl,rfl⟩ idH) | (exact rtA rfl rfl rfl ⟨by rw [Zp (by simpa using hn)];rfl,rfl,rfl⟩ idH)
 refine Z3 (sqr 2 rfl (sp rfl (PE.add rfl rfl (by omega)) rfl (pur 1 rfl ?_)))
 exact Zb ⟨k+1,by omega,ZJ hx hn hc1⟩ idH
 simp only [cS] at hc0
 obtain rfl:k=xs.length:=by omega
 refine Z8 (Za (Za (Zn (sqt 1 rfl (pur 1 rfl (Z5 ?_))))))
 first | (exact rtA rfl rfl rfl ⟨by rw [Zr hx hn hc1];rfl,rfl,rfl⟩ idH) | (exact rtA rfl rfl rfl ⟨by rw [Zp (by simpa using hn)];rfl,rfl,rfl⟩ idH)
theorem Z8X (xs:List (Int×Int)) (a:Option Addr) (c g:Nat) (fst cap:List Value) (p:(Int×Int)→Bool) (hg:cal Tryz.prog g=true) (hl:xs.length≤9223372036854775807) (H:Z7) (R:Z4) [hR:MemRows a 2 (Z0I xs) R] (hp:∀ x,x∈xs→FnV Tryz.prog g (fst++[.agg (Z4X x).toArray]++cap) H R (.bool (p x))) :
    FnV Tryz.prog 231 [.slice a xs.length c,.func (.func g) fst.toArray cap.toArray] H R (.bool (xs.any p)):=by
 refine Z9 Tryz.func231 rfl Tryz.ntmps231 rfl ?_
 refine sqt 1 rfl (pur 1 rfl (sqt 5 rfl (pur 2 rfl ?_)))
 refine clV rfl ZgE rfl rfl (Z93 xs a c g fst cap p hg hl _ _ hp) ?_
 refine pur 2 rfl (Z5 ?_)
 exact rtA rfl rfl rfl ⟨by simp only [Z08];exact Z0b _ _,rfl,rfl⟩ drp
theorem Z8O (x:(Int×Int)) (g bf:Nat) (fst cap:List Value) (p:Bool) (hg:cal Tryz.prog g=true) (H:Z7) (R:Z4) [hM:Mem1 bf (cel 282 [.func (.func g) fst.toArray cap.toArray]) H] (hp:∀ b,FnV Tryz.prog g (fst++[.agg (Z4X x).toArray]++cap) ((b,cel 261 (Z4X x))::H) R (.bool p)) :
    FnV Tryz.prog 232 [.agg (Z4X x).toArray,.pointer (some ⟨bf,0,none⟩)] H R (.bool !p):=by
 refine Z9 Tryz.func232 rfl Tryz.ntmps232 rfl ?_
 refine sqt 2 rfl (bx rfl rfl rfl (fun b2=>pur 1 rfl (sqt 5 rfl (spL rfl rfl (lh ZjM rfl rfl) rfl (spL rfl rfl (lhA [_,_] ZeX rfl rfl rfl) rfl ?_)))))
 refine Z2r rfl rfl (hg) rfl rfl (hp _) ?_
 refine pur 2 rfl (Z5 ?_)
 exact rtA rfl rfl rfl ⟨rfl,rfl,rfl⟩ drp
theorem Z6k (xs:List (Int×Int)) (a:Option Addr) (c g:Nat) (fst cap:List Value) (p:(Int×Int)→Bool) (hg:cal Tryz.prog g=true) (hl:xs.length≤9223372036854775807) (H:Z7) (R:Z4) [hR:MemRows a 2 (Z0I xs) R] (hp:∀ b b2 x,x∈xs→FnV Tryz.prog g (fst++[.agg (Z4X x).toArray]++cap) ((b2,cel 261 (Z4X x))::(b,cel 282 [.func (.func g) fst.toArray cap.toArray])::H) R (.bool (p x))) :
    FnV Tryz.prog 190 [.slice a xs.length c,.func (.func g) fst.toArray cap.toArray] H R (.bool (xs.all p)):=by
 refine Z9 Tryz.func190 rfl Tryz.ntmps190 rfl ?_
 refine sqt 2 rfl (bx rfl rfl rfl (fun b3=>pur 1 rfl (sqt 5 rfl (pur 1 rfl (sp rfl (PE.makeFunc rfl rfl) rfl ?_)))))
 refine clV rfl Zgu rfl rfl (Z8X xs a c 232 [] [_] (fun x=>!p x) Zgv hl _ _ (hp:=fun x hx=>Z8O x g _ fst cap (p x) hg _ _ (hp:=fun b=>hp _ _ x hx))) ?_
 refine pur 2 rfl (Z5 ?_)
 exact rtA rfl rfl rfl ⟨by simp only [Z08];rw [Zx],rfl,rfl⟩ drp
theorem Z1m (xs:List Int) (a:Option Addr) (c g:Nat) (fst cap:List Value) (p:Int→Bool) (hg:cal Tryz.prog g=true) (hl:xs.length≤9223372036854775807) (H:Z7) (R:Z4) [hR:MemRows a 1 (irows xs) R] (hp:∀ x,x∈xs→FnV Tryz.prog g (fst++[.int .i64 x]++cap) H R (.bool (p x))) :
    FnV Tryz.prog 147 [.slice a xs.length c,.func (.func g) fst.toArray cap.toArray] H R (.int .i64 (match xs.findIdx? p with | some k=>(k:Int) | none => -1)):=by
 refine Z9 Tryz.func147 rfl Tryz.ntmps147 rfl ?_
 refine sqt 1 rfl (pur 1 rfl (Z0 (sqt 3 rfl (pur 1 rfl (sp rfl (PE.lenSl Z04 rfl) rfl (pur 1 rfl (Z1 ?_)))))))
 refine Zc (ι:={k:Nat // k≤xs.length∧∀ x∈xs.take k,p x=false}) (fun k=>⟨[(0,.slice a xs.length c),(1,.func (.func g) fst.toArray cap.toArray),(7,.int .i64 xs.length),(8,.int .i64 k.1)],H,R⟩) (fun k=>xs.length-k.1) ⟨0,by simp⟩ ?_ (fun k=>?_)
 exact Zf idH
 obtain ⟨k,hk,hn⟩:=k
 dsimp only
 refine sqt 1 rfl (pur 1 rfl (Z0 ?_))
 refine Z2 rfl ?_ ?_<;>intro hc0
 simp only [cS] at hc0
 obtain ⟨x,hx⟩:∃ x,xs[k]?=some x:=⟨_,List.getElem?_eq_getElem (by omega)⟩
 have hxm:=List.mem_of_getElem? hx
 refine Zl (a:=a) (sz:=1) (rows:=irows xs) (by cases xs<;>simp_all [irows]) (fun b off he=>?_)
 subst he
 refine Z3 (Z0 (Z1 (sqt 2 rfl (pur 2 rfl (sqt 6 rfl (pur 3 rfl (sp rfl (PE.indexAddr Z3R rfl rfl (by omega) (by omega)) rfl (spL rfl rfl (lf0 sc3 (by simp [irows,hx];rfl) rfl) rfl ?_))))))))
 refine Z2r rfl rfl (hg) rfl rfl (hp x hxm) ?_
 refine Z2 rfl ?_ ?_<;>intro hc1
 refine sqt 2 rfl (pur 2 rfl (Z5 ?_))
 first | (exact rtA rfl rfl rfl ⟨by rw [Zr hx hn hc1];rfl,rfl,rfl⟩ idH) | (exact rtA rfl rfl rfl ⟨by rw [Zp (by simpa using hn)];rfl,rfl,rfl⟩ idH)
 refine Z3 (sqr 2 rfl (sp rfl (PE.add rfl rfl (by omega)) rfl (pur 1 rfl ?_)))
 exact Zb ⟨k+1,by omega,ZJ hx hn hc1⟩ idH
 simp only [cS] at hc0
 obtain rfl:k=xs.length:=by omega
 refine Z8 (Za (Za (Zn (sqt 1 rfl (pur 1 rfl (Z5 ?_))))))
 first | (exact rtA rfl rfl rfl ⟨by rw [Zr hx hn hc1];rfl,rfl,rfl⟩ idH) | (exact rtA rfl rfl rfl ⟨by rw [Zp (by simpa using hn)];rfl,rfl,rfl⟩ idH)
theorem Z1l (xs:List Int) (a:Option Addr) (c g:Nat) (fst cap:List Value) (p:Int→Bool) (hg:cal Tryz.prog g=true) (hl:xs.length≤9223372036854775807) (H:Z7) (R:Z4) [hR:MemRows a 1 (irows xs) R] (hp:∀ x,x∈xs→FnV Tryz.prog g (fst++[.int .i64 x]++cap) H R (.bool (p x))) :
    FnV Tryz.prog 110 [.slice a xs.length c,.func (.func g) fst.toArray cap.toArray] H R (.bool (xs.any p)):=by
 refine Z9 Tryz.func110 rfl Tryz.ntmps110 rfl ?_
 refine sqt 1 rfl (pur 1 rfl (sqt 5 rfl (pur 2 rfl ?_)))
 refine clV rfl Z5u rfl rfl (Z1m xs a c g fst cap p hg hl _ _ hp) ?_
 refine pur 2 rfl (Z5 ?_)
 exact rtA rfl rfl rfl ⟨by simp only [Z08];exact Z0b _ _,rfl,rfl⟩ drp
theorem Z1k (x:Int) (g bf:Nat) (fst cap:List Value) (p:Bool) (hg:cal Tryz.prog g=true) (H:Z7) (R:Z4) [hM:Mem1 bf (cel 131 [.func (.func g) fst.toArray cap.toArray]) H] (hp:FnV Tryz.prog g (fst++[.int .i64 x]++cap) H R (.bool p)) :
    FnV Tryz.prog 228 [.int .i64 x,.pointer (some ⟨bf,0,none⟩)] H R (.bool !p):=by
 refine Z9 Tryz.func228 rfl Tryz.ntmps228 rfl ?_
 refine sqt 1 rfl (pur 1 rfl (sqt 5 rfl (spL rfl rfl (lh Z51 rfl rfl) rfl (pur 1 rfl ?_))))
 refine Z2r rfl rfl (hg) rfl rfl (hp) ?_
 refine pur 2 rfl (Z5 ?_)
 exact rtA rfl rfl rfl ⟨rfl,rfl,rfl⟩ drp
theorem Z07 (xs:List Int) (a:Option Addr) (c g:Nat) (fst cap:List Value) (p:Int→Bool) (hg:cal Tryz.prog g=true) (hl:xs.length≤9223372036854775807) (H:Z7) (R:Z4) [hR:MemRows a 1 (irows xs) R] (hp:∀ b x,x∈xs→FnV Tryz.prog g (fst++[.int .i64 x]++cap) ((b,cel 131 [.func (.func g) fst.toArray cap.toArray])::H) R (.bool (p x))) :
    FnV Tryz.prog 182 [.slice a xs.length c,.func (.func g) fst.toArray cap.toArray] H R (.bool (xs.all p)):=by
 refine Z9 Tryz.func182 rfl Tryz.ntmps182 rfl ?_
 refine sqt 2 rfl (bx rfl rfl rfl (fun b3=>pur 1 rfl (sqt 5 rfl (pur 1 rfl (sp rfl (PE.makeFunc rfl rfl) rfl ?_)))))
 refine clV rfl Z5t rfl rfl (Z1l xs a c 228 [] [_] (fun x=>!p x) Zgr hl _ _ (hp:=fun x hx=>Z1k x g _ fst cap (p x) hg _ _ (hp:=hp _ x hx))) ?_
 refine pur 2 rfl (Z5 ?_)
 exact rtA rfl rfl rfl ⟨by simp only [Z08];rw [Zx],rfl,rfl⟩ drp
theorem Ziu (pa pb pc:Nat) (q:Int) (hq:0≤q∧q≤1) (H:Z7) (R:Z4) :
    FnV Tryz.prog 90 [(.agg (fls pa pb pc).toArray),.int .i64 q] H R (.bool true):=by
 refine Z9 Tryz.func90 rfl Tryz.ntmps90 rfl ?_
 refine sqt 2 rfl (bx rfl rfl rfl (fun b2=>pur 1 rfl (sqt 7 rfl (pur 1 rfl (sp rfl (PE.fA Z3r rfl) rfl (spL rfl rfl (lh Z8k rfl rfl) rfl (sp rfl (PE.lenSl Z04 rfl) rfl (sp rfl (PE.sub rfl rfl (by omega)) rfl ?_))))))))
 refine clV rfl Z3h rfl rfl (Z0w _ _ _ (by omega) _ _) ?_
 refine pur 1 rfl (Z5 ?_)
 exact rtA rfl rfl rfl ⟨rfl,rfl,rfl⟩ drp
theorem Z9a (pa pb pc:Nat) (q:Int) (hq : -1≤q∧q≤2) (H:Z7) (R:Z4) :
    FnV Tryz.prog 189 [(.agg (fls pa pb pc).toArray),.int .i64 q] H R (.bool true):=by
 refine Z9 Tryz.func189 rfl Tryz.ntmps189 rfl ?_
 refine sqt 2 rfl (bx rfl rfl rfl (fun b2=>pur 1 rfl (sqt 7 rfl (pur 1 rfl (sp rfl (PE.fA Z1o rfl) rfl (spL rfl rfl (lh Z61 rfl rfl) rfl (sp rfl (PE.lenSl Z5J rfl) rfl (sp rfl (PE.sub rfl rfl (by omega)) rfl ?_))))))))
 refine clV rfl Z3h rfl rfl (Z0w _ _ _ (by omega) _ _) ?_
 refine pur 1 rfl (Z5 ?_)
 exact rtA rfl rfl rfl ⟨rfl,rfl,rfl⟩ drp
theorem Ziy (u v:Int) (hu:0≤u∧u≤4) (hv:0≤v∧v≤4) (a:Option Addr) (H:Z7) (R:Z4) [hR:MemRows a 1 (irows [u,v]) R] :
    FnV Tryz.prog 194 [.slice a 2 2] H R (.int .i64 (u+v)):=by
 refine Z9 Tryz.func194 rfl Tryz.ntmps194 rfl ?_
 refine sqt 1 rfl (pur 1 rfl (sqt 1 rfl (pur 1 rfl (Z0 (sqt 3 rfl (pur 1 rfl (sp rfl (PE.lenSl Z04 rfl) rfl (pur 1 rfl (Z1 ?_)))))))))
 refine Zc (ι:={k:Nat // k≤2}) (fun k=>⟨[(3,.int .i64 (([u,v].take k.1).foldl (· + ·) 0)),(6,.slice a 2 2),(7,.int .i64 2),(8,.int .i64 k.1)],H,R⟩) (fun k=>2-k.1) ⟨0,Nat.zero_le _⟩ ?_ (fun k=>?_)
 exact Zf idH
 obtain ⟨k,hk⟩:=k
 dsimp only at hk ⊢
 refine sqt 1 rfl (pur 1 rfl (Z0 ?_))
 refine Z2 rfl ?_ ?_<;>intro hc0<;>try simp only [cS] at hc0
 obtain ⟨x,hx,hxb⟩:∃ x,[u,v][k]?=some x∧0≤x∧x≤4:=by
   obtain rfl | rfl:k=0∨k=1:=by omega
   · exact ⟨u,rfl,hu⟩
   · exact ⟨v,rfl,hv⟩
 have htb:0≤([u,v].take k).foldl (· + ·) 0∧([u,v].take k).foldl (· + ·) 0≤4:=by
   obtain rfl | rfl:k=0∨k=1:=by omega
   · simp
   · simp;omega
 refine Zl (a:=a) (sz:=1) (rows:=irows [u,v]) (by simp) (fun ba oa he=>?_)
 subst he
 refine Z3 (Z0 (Z1 (sqt 3 rfl (sp rfl (PE.indexAddr Z3R rfl rfl (by omega) (by omega)) rfl (spL rfl rfl (lf0 sc3 (Z1s hx) rfl) rfl (pur 1 rfl (sqr 4 rfl (pur 2 rfl (sp rfl (PE.add rfl rfl (by omega)) rfl (pur 1 rfl (sqr 2 rfl (sp rfl (PE.add rfl rfl (by omega)) rfl (pur 1 rfl ?_)))))))))))))
 rw [show ([u,v].take k).foldl (· + ·) 0+x=([u,v].take (k+1)).foldl (· + ·) 0 by rw [List.take_add_one,hx];simp]
 exact Zb ⟨k+1,by omega⟩ idH
 obtain rfl:k=2:=by omega
 refine Z8 (Za (Za (Zn (sqt 2 rfl (pur 2 rfl (Z5 ?_))))))
 exact rtA rfl rfl rfl ⟨by simp [Z08],rfl,rfl⟩ drp
theorem Zkg (pa pb pc b1:Nat) (x:Int×Nat) (H:Z7) (R:Z4) [hM:Mem1 b1 (cel 119 (fls pa pb pc)) H] :
    FnV Tryz.prog 181 [.agg (Z0L x).toArray,.pointer (some ⟨b1,0,none⟩)] H R (.bool true):=by
 refine Z9 Tryz.func181 rfl Tryz.ntmps181 rfl ?_
 refine sqt 2 rfl (bx rfl rfl rfl (fun b2=>pur 1 rfl (sqt 8 rfl (sp rfl (PE.fA Z3t rfl) rfl (spL rfl rfl (lh (v:=.slice (some ⟨x.2,0,none⟩) 2 2) Z8k rfl rfl) rfl (sp rfl (PE.lenSl Z04 rfl) rfl (sp rfl (PE.fA Z3r rfl) rfl (spL rfl rfl (lh Z8k rfl rfl) rfl (sp rfl (PE.lenSl Z04 rfl) rfl (pur 2 rfl (Z5 ?_)))))))))))
 exact rtA rfl rfl rfl ⟨rfl,rfl,rfl⟩ drp
theorem Zkh (x:Int) (hx:0≤x∧x≤4000) (H:Z7) (R:Z4) :
    FnV Tryz.prog 183 [.int .i64 x] H R (.bool true):=by
 refine Z9 Tryz.func183 rfl Tryz.ntmps183 rfl ?_
 refine sqt 1 rfl (pur 1 rfl (sqt 3 rfl (pur 1 rfl ?_)))
 refine clV rfl Z3h rfl rfl (Z0w _ _ _ (by omega) _ _) ?_
 refine pur 1 rfl (Z5 ?_)
 exact rtA rfl rfl rfl ⟨rfl,rfl,rfl⟩ drp
theorem Zki (x:Trn) (hx:x∈trnF) (H:Z7) (R:Z4) :
    FnV Tryz.prog 185 [.agg (Z0X x).toArray] H R (.bool true):=by
 have hxo:=Z67 hx
 refine Z9 Tryz.func185 rfl Tryz.ntmps185 rfl ?_
 refine sqt 2 rfl (bx rfl rfl rfl (fun b1=>pur 1 rfl (sqt 4 rfl (sp rfl (PE.fA Z6x rfl) rfl (spL rfl rfl (lh sc3 rfl rfl) rfl ?_)))))
 refine clV rfl Z3h rfl rfl (Z0w _ _ _ (by omega) _ _) ?_
 refine pur 1 rfl (Z5 ?_)
 exact rtA rfl rfl rfl ⟨rfl,rfl,rfl⟩ drp
theorem Ziw (x:Int) (hx:0≤x∧x≤4) (H:Z7) (R:Z4) :
    FnV Tryz.prog 187 [.int .i64 x] H R (.bool true):=by
 refine Z9 Tryz.func187 rfl Tryz.ntmps187 rfl ?_
 refine sqt 1 rfl (pur 1 rfl (sqt 3 rfl (pur 1 rfl ?_)))
 refine clV rfl Z3h rfl rfl (Z0w _ _ _ (by omega) _ _) ?_
 refine pur 1 rfl (Z5 ?_)
 exact rtA rfl rfl rfl ⟨rfl,rfl,rfl⟩ drp
theorem Ziv (x:Int×Nat) (u v:Int) (hu:0≤u∧u≤4) (hv:0≤v∧v≤4) (hx:0≤x.1∧x.1≤300) (H:Z7) (R:Z4) [hS:MemRows (some ⟨x.2,0,none⟩) 1 (irows [u,v]) R] :
    FnV Tryz.prog 186 [.agg (Z0L x).toArray] H R (.bool true):=by
 refine Z9 Tryz.func186 rfl Tryz.ntmps186 rfl ?_
 refine sqt 2 rfl (bx rfl rfl rfl (fun b1=>pur 1 rfl (sqt 9 rfl (sp rfl (PE.fA Z6v rfl) rfl (spL rfl rfl (lh sc3 rfl rfl) rfl ?_)))))
 refine clV rfl Z3h rfl rfl (Z0w _ _ _ (by omega) _ _) ?_
 refine pur 1 rfl ?_
 refine Zv 6 rfl ?_ ?_<;>intro g6
 refine spG rfl rfl rfl rfl (PE.fA Z3t rfl) rfl ?_
 refine Z1b rfl rfl rfl rfl rfl (lh (v:=.slice (some ⟨x.2,0,none⟩) 2 2) Z8k rfl rfl) rfl ?_
 refine clG rfl rfl rfl rfl Z9l rfl rfl (Z07 [u,v] (some ⟨x.2,0,none⟩) 2 187 [] [] (fun _=>true) Zg0 (by simp) _ _ (fun b3 y hy=>Ziw y (by simp only [List.mem_cons,List.not_mem_nil,or_false] at hy;rcases hy with rfl | rfl<;>assumption) _ _)) ?_
 rintro _ _ R1 ⟨rfl,rfl,hR1⟩
 obtain rfl:=hR1.symm
 clear hR1
 rw [show ([u,v].all fun _=>true)=true from rfl]
 refine pur 2 rfl (Z5 ?_)
 exact rtA rfl rfl rfl ⟨rfl,rfl,rfl⟩ drp
 exact absurd g6 (by simp)
theorem Zkj (pa pb pc b1:Nat) (x:Trn) (hx:x∈trnF) (H:Z7) (R:Z4) [hM:Mem1 b1 (cel 119 (fls pa pb pc)) H] :
    FnV Tryz.prog 188 [.agg (Z0X x).toArray,.pointer (some ⟨b1,0,none⟩)] H R (.bool true):=by
 have hxo:=Z67 hx
 refine Z9 Tryz.func188 rfl Tryz.ntmps188 rfl ?_
 refine sqt 2 rfl (bx rfl rfl rfl (fun b2=>pur 1 rfl (sqt 11 rfl (spL rfl rfl (lhA (fls pa pb pc) Z1h rfl rfl rfl) rfl (sp rfl (PE.fA Z4K rfl) rfl (spL rfl rfl (lh sc3 rfl rfl) rfl ?_))))))
 refine clV rfl Zcm rfl rfl (Z9a pa pb pc x.f (by omega) _ _) ?_
 refine pur 1 rfl ?_
 refine Zv 8 rfl ?_ ?_<;>intro g8
 refine Z1b rfl rfl rfl rfl rfl (lhA (fls pa pb pc) Z1h rfl rfl rfl) rfl ?_
 refine spG rfl rfl rfl rfl (PE.fA Z6w rfl) rfl ?_
 refine Z1b rfl rfl rfl rfl rfl (lh sc3 rfl rfl) rfl ?_
 refine Z4A rfl rfl rfl rfl Zcm rfl rfl (Z9a pa pb pc x.t (by omega) _ _) ?_
 refine pur 2 rfl (Z5 ?_)
 exact rtA rfl rfl rfl ⟨rfl,rfl,rfl⟩ drp
 exact absurd g8 (by simp)
theorem Zkk (x:Trn) (hx:x∈trnF) (H:Z7) (R:Z4) :
    FnV Tryz.prog 192 [.agg (Z0X x).toArray] H R (.bool true):=by
 have hxo:=Z67 hx
 refine Z9 Tryz.func192 rfl Tryz.ntmps192 rfl ?_
 refine sqt 2 rfl (bx rfl rfl rfl (fun b1=>pur 1 rfl (sqt 6 rfl (sp rfl (PE.fA Z4K rfl) rfl (spL rfl rfl (lh sc3 rfl rfl) rfl (sp rfl (PE.fA Z6w rfl) rfl (spL rfl rfl (lh sc3 rfl rfl) rfl (pur 2 rfl (Z5 ?_)))))))))
 exact rtA rfl rfl rfl ⟨by simp only [Z08];congr 1;simpa using hxo.2.2.2,rfl,rfl⟩ drp
theorem Zix (x:Int×Nat) (u v:Int) (hu:0≤u∧u≤4) (hv:0≤v∧v≤4) (h4:u+v=4) (H:Z7) (R:Z4) [hS:MemRows (some ⟨x.2,0,none⟩) 1 (irows [u,v]) R] :
    FnV Tryz.prog 193 [.agg (Z0L x).toArray] H R (.bool true):=by
 refine Z9 Tryz.func193 rfl Tryz.ntmps193 rfl ?_
 refine sqt 2 rfl (bx rfl rfl rfl (fun b1=>pur 1 rfl (sqt 5 rfl (sp rfl (PE.fA Z3t rfl) rfl (spL rfl rfl (lh (v:=.slice (some ⟨x.2,0,none⟩) 2 2) Z8k rfl rfl) rfl ?_)))))
 refine cl rfl Zg6 rfl rfl (Ziy u v hu hv _ _ _) ?_
 rintro _ _ R1 ⟨rfl,rfl,hR1⟩
 obtain rfl:=hR1.symm
 clear hR1
 rw [h4]
 refine pur 2 rfl (Z5 ?_)
 exact rtA rfl rfl rfl ⟨rfl,rfl,rfl⟩ drp
theorem Z8q:Z1g Tryz.prog 215=some 8:=by kernel_rfl
theorem Zf1:arE Tryz.prog 215=some (8,3):=by kernel_rfl
theorem Zch:cal Tryz.prog 128=true:=by kernel_rfl
theorem ZfO:cal Tryz.prog 162=true:=by kernel_rfl
theorem Z9k:cal Tryz.prog 180=true:=by kernel_rfl
theorem ZfW:cal Tryz.prog 181=true:=by kernel_rfl
theorem ZfX:cal Tryz.prog 183=true:=by kernel_rfl
theorem Z9m:cal Tryz.prog 184=true:=by kernel_rfl
theorem ZfY:cal Tryz.prog 185=true:=by kernel_rfl
theorem ZfZ:cal Tryz.prog 186=true:=by kernel_rfl
theorem Zg1:cal Tryz.prog 188=true:=by kernel_rfl
theorem Zg2:cal Tryz.prog 190=true:=by kernel_rfl
theorem Zg3:cal Tryz.prog 191=true:=by kernel_rfl
theorem Zg4:cal Tryz.prog 192=true:=by kernel_rfl
theorem Zg5:cal Tryz.prog 193=true:=by kernel_rfl
theorem Zg7:cal Tryz.prog 195=true:=by kernel_rfl
theorem Zdz:ZB Tryz.prog 131=some 1:=by kernel_rfl
theorem ZgS:ZB Tryz.prog 178=some 2:=by kernel_rfl
theorem ZgT:ZB Tryz.prog 180=some 3:=by kernel_rfl
theorem ZgU:ZB Tryz.prog 215=some 8:=by kernel_rfl
theorem Zha:eqB Tryz.prog 10000 215=some (true,8):=by kernel_rfl
theorem Zks:eqB Tryz.prog 10000 3=some (false,1):=by kernel_rfl
theorem Zhb:Tryz.prog.eqGuardType Tryz.prog.depth 215=false:=by kernel_rfl
theorem Z6s:ZT Tryz.prog 119 3=some 3:=by kernel_rfl
theorem Zei:Z0g Tryz.prog 117=true:=by kernel_rfl
theorem ZeE:Zw Tryz.prog 131=some ([.nilFunc]):=by kernel_rfl
theorem Z8f:Zw Tryz.prog 178=some ([.int .i64 0,.slice none 0 0]):=by kernel_rfl
theorem Z8g:Zw Tryz.prog 180=some ([.int .i64 0,.int .i64 0,.int .i64 0]):=by kernel_rfl
theorem ZeF:Zw Tryz.prog 215=some ([.int .i64 0,.int .i64 0,.int .i64 0,.int .i64 0,.int .i64 0,.int .i64 0,.int .i64 0,.int .i64 0]):=by kernel_rfl
def tkq (q:Int) (k:Nat):Int:=(trnF.take k).foldl (fun s x=>bif decide (x.f=q) then s+x.n else s) 0
theorem Zex {q:Int} {k:Nat} {x:Trn} (h:trnF[k]?=some x):tkq q (k+1)=bif decide (x.f=q) then tkq q k+x.n else tkq q k:=by
 unfold tkq;rw [List.take_add_one,h];simp [List.foldl_append]
theorem ZjX {q:Nat} (hq:q<3) {k:Nat} (hk:k≤3):0≤tkq q k∧tkq q k≤200:=(by decide:∀ q:Nat,q<3→∀ k:Nat,k<4→0≤tkq q k∧tkq q k≤200) q hq k (by omega)
theorem Zf3 {pd pe pf:Nat} {k:Nat} {x:Int×Nat} (h:(ZY pd pe pf)[k]?=some x):tkq (k:Int) 3≤x.1:=by
 match k,h with
 | 0,h=>cases h;exact (by decide:tkq 0 3≤60)
 | 1,h=>cases h;exact (by decide:tkq 1 3≤30)
 | 2,h=>cases h;exact (by decide:tkq 2 3≤0)
 | k+3,h=>cases h
theorem ZjZ {k:Nat} (h:k<8):mkv false ((([0,0,0,0,0,0,0,0]:List Int).drop (k*1)).take 1) = .int .i64 0:=by
 obtain rfl | rfl | rfl | rfl | rfl | rfl | rfl | rfl:k=0∨k=1∨k=2∨k=3∨k=4∨k=5∨k=6∨k=7:=by omega
 all_goals rfl
def shv (q:Int) (k:Nat):Int:=bif decide (q = -1) then 0 else na (shs q.toNat) k
theorem ZhS (q k:Nat):0≤na (shs q) k∧na (shs q) k≤4:=by
 match q with
 | 0=>match k with
   | 0=>decide
   | 1=>decide
   | k+2=>exact (by decide:(0:Int)≤0∧(0:Int)≤4)
 | 1=>match k with
   | 0=>decide
   | 1=>decide
   | k+2=>exact (by decide:(0:Int)≤0∧(0:Int)≤4)
 | q+2=>match k with
   | 0=>exact (by decide:(0:Int)≤0∧(0:Int)≤4)
   | 1=>exact (by decide:(0:Int)≤4∧(4:Int)≤4)
   | k+2=>exact (by decide:(0:Int)≤0∧(0:Int)≤4)
theorem ZcQ (q:Int) (k:Nat):0≤shv q k∧shv q k≤4:=by
 unfold shv
 cases decide (q = -1) with
 | true=>exact (by decide:(0:Int)≤0∧(0:Int)≤4)
 | false=>exact ZhS _ _
theorem Zar (q:Nat) {k:Nat} (h:k<2):(shs q)[k]?=some (na (shs q) k):=by
 apply na_get
 match q with
 | 0=>exact h
 | 1=>exact h
 | q+2=>exact h
theorem Zdq (pa pb pc pd pe pf:Nat) (q:Nat) (hq:q<3) (H:Z7) (R:Z4) [hA:MemRows (some ⟨pa,0,none⟩) 1 (irows [400,300]) R] [hB:MemRows (some ⟨pb,0,none⟩) 2 (Z0f (ZY pd pe pf)) R] [hC:MemRows (some ⟨pc,0,none⟩) 3 (Z0r trnF) R] [hD:MemRows (some ⟨pd,0,none⟩) 1 (irows (shs 0)) R] [hE:MemRows (some ⟨pe,0,none⟩) 1 (irows (shs 1)) R] [hF:MemRows (some ⟨pf,0,none⟩) 1 (irows (shs 2)) R] [hG:MemRows none 2 (Z0I []) R] :
    FnV Tryz.prog 195 [(.agg (fls pa pb pc).toArray),.int .i64 (q:Nat)] H R (.int .i64 (tkq (q:Int) 3)):=by
 refine Z9 Tryz.func195 rfl Tryz.ntmps195 rfl ?_
 refine sqt 2 rfl (bx rfl rfl rfl (fun b2=>pur 1 rfl (sqt 1 rfl (pur 1 rfl (Z0 (sqt 4 rfl (sp rfl (PE.fA Z1P rfl) rfl (spL rfl rfl (lh Z6U rfl rfl) rfl (sp rfl (PE.lenSl Z5K rfl) rfl (pur 1 rfl (Z1 ?_)))))))))))
 refine Zc (ι:={k:Nat // k≤3}) (fun k=>⟨[(1,.int .i64 (q:Nat)),(5,.int .i64 (tkq (q:Int) k.1)),(9,.slice (some ⟨pc,0,none⟩) 3 3),(10,.int .i64 3),(11,.int .i64 (k.1:Int))],(b2,cel 119 (fls pa pb pc))::H,R⟩) (fun k=>3-k.1) ⟨0,Nat.zero_le _⟩ ?_ (fun k=>?_)
 exact Zf idH
 obtain ⟨k,hk⟩:=k
 dsimp only at hk ⊢
 refine sqt 1 rfl (pur 1 rfl (Z0 ?_))
 refine Z2 rfl ?_ ?_<;>intro hc0<;>try simp only [cS] at hc0
 obtain ⟨x,hx⟩:∃ x,trnF[k]?=some x:=⟨_,List.getElem?_eq_getElem (show k<trnF.length from by show k<3;omega)⟩
 have htb:=ZjX hq hk
 have hxo:=Z67 (List.mem_of_getElem? hx)
 have hst:=Zex (q:=(q:Int)) hx
 refine Zl (a:=some ⟨pc,0,none⟩) (sz:=3) (rows:=Z0r trnF) (by simp [trnF]) (fun ba oa he=>?_)
 obtain ⟨rfl,rfl⟩:pc=ba∧0=oa:=by injection he with he;injection he with h1 h2;exact ⟨h1,h2⟩
 clear he
 refine Z3 (Z0 (Z1 (sqt 4 rfl (sp rfl (PE.indexAddr ZdF rfl rfl (by omega) (by omega)) rfl (spL rfl rfl (lfA ZaP (row:=Z0X x) (by simp [hx]) rfl) rfl (alc rfl Z8g rfl (fun b7=>?_)))))))
 refine sto rfl rfl rfl ZgT rfl rfl rfl rfl ?_
 refine sqt 4 rfl (sp rfl (PE.fA Z4K rfl) rfl (spL rfl rfl (lh (v:=.int .i64 x.f) sc3 rfl rfl) rfl (pur 2 rfl ?_)))
 refine Z2 rfl ?_ ?_<;>intro hc1<;>try simp only [cS] at hc1
 rw [show decide (x.f=(q:Int))=true by simpa using hc1,cond_true] at hst
 refine sqr 5 rfl (pur 1 rfl (sp rfl (PE.fA Z6x rfl) rfl (spL rfl rfl (lh (v:=.int .i64 x.n) sc3 rfl rfl) rfl (sp rfl (PE.add rfl rfl (by omega)) rfl (pur 1 rfl (sqr 2 rfl (sp rfl (PE.add rfl rfl (by omega)) rfl (pur 1 rfl ?_))))))))
 rw [← hst]
 exact Zb ⟨k+1,by omega⟩ (fun w h=>h.del b7)
 rw [show decide (x.f=(q:Int))=false by simpa using hc1,cond_false] at hst
 refine Z3 (sqr 2 rfl (sp rfl (PE.add rfl rfl (by omega)) rfl (pur 1 rfl ?_)))
 rw [← hst]
 exact Zb ⟨k+1,by omega⟩ (fun w h=>h.del b7)
 obtain rfl:k=3:=by omega
 refine Z8 (Za (Za (Zn (sqt 2 rfl (pur 2 rfl (Z5 ?_))))))
 exact rtA rfl rfl rfl ⟨rfl,rfl,rfl⟩ (fun w h=>h.del b2)
theorem Z4w (pa pb pc pd pe pf:Nat) (q k:Nat) (hk:k<2) (x:Int×Nat) (hx:(ZY pd pe pf)[q]?=some x) (H:Z7) (R:Z4) [hB:MemRows (some ⟨pb,0,none⟩) 2 (Z0f (ZY pd pe pf)) R] [hS:MemRows (some ⟨x.2,0,none⟩) 1 (irows (shs q)) R] :
    FnV Tryz.prog 129 [(.agg (fls pa pb pc).toArray),.int .i64 (q:Nat),.int .i64 (k:Nat)] H R (.int .i64 (na (shs q) k)):=by
 refine Z9 Tryz.func129 rfl Tryz.ntmps129 rfl ?_
 refine sqt 2 rfl (bx rfl rfl rfl (fun b3=>pur 1 rfl (Z0 (sqt 2 rfl (pur 2 rfl ?_)))))
 refine Z2 rfl ?_ ?_<;>intro hc0
 exact absurd hc0 (by simp)
 try simp only [cS] at hc0
 have hq3:q<3:=(List.getElem?_eq_some_iff.1 hx).1
 refine Z3 (sqt 10 rfl (sp rfl (PE.fA Z1o rfl) rfl (spL rfl rfl (lh Z61 rfl rfl) rfl (pur 1 rfl (sp rfl (PE.indexAddr Zbe rfl rfl (by omega) (by omega)) rfl (sp rfl (PE.fA Z3t rfl) rfl (spL rfl rfl (lf Z8k (row:=Z0L x) (x:=.slice (some ⟨x.2,0,none⟩) 2 2) (by simp [hx]) rfl) rfl (pur 1 rfl (sp rfl (PE.indexAddr Z3R rfl rfl (by omega) (by omega)) rfl (spL rfl rfl (lf0 sc3 (Z1s (Zar q hk)) rfl) rfl (pur 1 rfl (Z5 ?_))))))))))))
 exact rtA rfl rfl rfl ⟨rfl,rfl,rfl⟩ drp
theorem Zb7 (pa pb pc pd pe pf:Nat) (k:Nat) (H:Z7) (R:Z4) :
    FnV Tryz.prog 129 [(.agg (fls pa pb pc).toArray),.int .i64 (-1),.int .i64 (k:Nat)] H R (.int .i64 0):=by
 refine Z9 Tryz.func129 rfl Tryz.ntmps129 rfl ?_
 refine sqt 2 rfl (bx rfl rfl rfl (fun b3=>pur 1 rfl (Z0 (sqt 2 rfl (pur 2 rfl ?_)))))
 refine Z2 rfl ?_ ?_<;>intro hc0
 try simp only [cS] at hc0
 refine sqt 1 rfl (pur 1 rfl (Z5 ?_))
 exact rtA rfl rfl rfl ⟨rfl,rfl,rfl⟩ drp
 exact absurd hc0 (by simp)
theorem Z9d (pa pb pc pd pe pf:Nat) (q:Int) (hq : -1≤q∧q≤2) (k:Nat) (hk:k<2) (H:Z7) (R:Z4) [hA:MemRows (some ⟨pa,0,none⟩) 1 (irows [400,300]) R] [hB:MemRows (some ⟨pb,0,none⟩) 2 (Z0f (ZY pd pe pf)) R] [hC:MemRows (some ⟨pc,0,none⟩) 3 (Z0r trnF) R] [hD:MemRows (some ⟨pd,0,none⟩) 1 (irows (shs 0)) R] [hE:MemRows (some ⟨pe,0,none⟩) 1 (irows (shs 1)) R] [hF:MemRows (some ⟨pf,0,none⟩) 1 (irows (shs 2)) R] [hG:MemRows none 2 (Z0I []) R]:FnV Tryz.prog 129 [(.agg (fls pa pb pc).toArray),.int .i64 q,.int .i64 (k:Nat)] H R (.int .i64 (shv q k)):=by
 obtain rfl | rfl | rfl | rfl:q = -1∨q=0∨q=1∨q=2:=by omega
 · exact Zb7 pa pb pc pd pe pf k H R
 · exact Z4w pa pb pc pd pe pf 0 k hk (60,pd) rfl H R
 · exact Z4w pa pb pc pd pe pf 1 k hk (30,pe) rfl H R
 · exact Z4w pa pb pc pd pe pf 2 k hk (0,pf) rfl H R
set_option maxHeartbeats 600000 in
theorem Zdm (pa pb pc pd pe pf:Nat) (H:Z7) (R:Z4) [hA:MemRows (some ⟨pa,0,none⟩) 1 (irows [400,300]) R] [hB:MemRows (some ⟨pb,0,none⟩) 2 (Z0f (ZY pd pe pf)) R] [hC:MemRows (some ⟨pc,0,none⟩) 3 (Z0r trnF) R] [hD:MemRows (some ⟨pd,0,none⟩) 1 (irows (shs 0)) R] [hE:MemRows (some ⟨pe,0,none⟩) 1 (irows (shs 1)) R] [hF:MemRows (some ⟨pf,0,none⟩) 1 (irows (shs 2)) R] [hG:MemRows none 2 (Z0I []) R] :
    FnV Tryz.prog 162 [(.agg (fls pa pb pc).toArray)] H R (.int .i64 0):=by
 refine Z9 Tryz.func162 rfl Tryz.ntmps162 rfl ?_
 refine sqt 2 rfl (bx rfl rfl rfl (fun b1=>pur 1 rfl (sqt 4 rfl (spL rfl rfl (lhA (fls pa pb pc) Z1h rfl rfl rfl) rfl (sp rfl (PE.makeFunc rfl rfl) rfl (alc rfl ZeE rfl (fun b3=>?_)))))))
 refine sto rfl rfl rfl Zdz rfl rfl rfl rfl ?_
 refine Z0 (Z1 (sqt 31 rfl (sp rfl (PE.fA Z3r rfl) rfl (spL rfl rfl (lh Z8k rfl rfl) rfl (sp rfl (PE.lenSl Z04 rfl) rfl ?_)))))
 refine clV rfl Z3h rfl rfl (Z0w _ _ _ (by decide) _ _) ?_
 refine pur 2 rfl ?_
 refine Zv 14 rfl ?_ ?_<;>intro g14
 exact absurd g14 (by simp)
 refine spG rfl rfl rfl rfl (PE.fA Z1o rfl) rfl ?_
 refine Z1b rfl rfl rfl rfl rfl (lh Z61 rfl rfl) rfl ?_
 refine spG rfl rfl rfl rfl (PE.lenSl Z5J rfl) rfl ?_
 refine pur 3 rfl ?_
 refine Zv 20 rfl ?_ ?_<;>intro g20
 exact absurd g20 (by simp)
 refine spG rfl rfl rfl rfl (PE.fA Z1P rfl) rfl ?_
 refine Z1b rfl rfl rfl rfl rfl (lh Z6U rfl rfl) rfl ?_
 refine spG rfl rfl rfl rfl (PE.lenSl Z5K rfl) rfl ?_
 refine pur 3 rfl ?_
 refine Zv 26 rfl ?_ ?_<;>intro g26
 exact absurd g26 (by simp)
 refine spG rfl rfl rfl rfl (PE.fA Z6s rfl) rfl ?_
 refine Z1b rfl rfl rfl rfl rfl (lh Zei rfl rfl) rfl ?_
 refine spG rfl rfl rfl rfl (PE.lenSl Z9U rfl) rfl ?_
 refine pur 3 rfl ?_
 refine Zv 32 rfl ?_ ?_<;>intro g32
 exact absurd g32 (by simp)
 refine spG rfl rfl rfl rfl (PE.fA Z1o rfl) rfl ?_
 refine Z1b rfl rfl rfl rfl rfl (lh Z61 rfl rfl) rfl ?_
 refine spG rfl rfl rfl rfl (PE.makeFunc rfl rfl) rfl ?_
 refine clG rfl rfl rfl rfl Z9k rfl rfl (Z0h (ZY pd pe pf) (some ⟨pb,0,none⟩) 3 181 [] [.pointer (some ⟨b1,0,none⟩)] (fun _=>true) ZfW (by simp [ZY]) _ _ (fun b3 b2 x hx=>Zkg pa pb pc b1 x _ _)) ?_
 rintro _ _ R1 ⟨rfl,rfl,hR1⟩
 obtain rfl:=hR1.symm
 clear hR1
 rw [show ((ZY pd pe pf).all fun _=>true)=true from rfl]
 refine pur 3 rfl ?_
 refine Z2 rfl ?_ ?_<;>intro hc0
 exact absurd hc0 (by simp)
 refine sqt 11 rfl (sp rfl (PE.fA Z3r rfl) rfl (spL rfl rfl (lh Z8k rfl rfl) rfl ?_))
 refine cl rfl Z9l rfl rfl (Z07 ([400,300]:List Int) (some ⟨pa,0,none⟩) 2 183 [] [] (fun _=>true) ZfX (by simp [List.length]) _ _ (fun b3 y hy=>Zkh y (by simp only [List.mem_cons,List.not_mem_nil,or_false] at hy;rcases hy with rfl | rfl<;>decide) _ _)) ?_
 rintro _ _ R1 ⟨rfl,rfl,hR1⟩
 obtain rfl:=hR1.symm
 clear hR1
 rw [show (([400,300]:List Int).all fun _=>true)=true from rfl]
 refine pur 2 rfl ?_
 refine Zv 44 rfl ?_ ?_<;>intro g44
 exact absurd g44 (by simp)
 refine spG rfl rfl rfl rfl (PE.fA Z1P rfl) rfl ?_
 refine Z1b rfl rfl rfl rfl rfl (lh Z6U rfl rfl) rfl ?_
 refine clG rfl rfl rfl rfl Z9m rfl rfl (Z1N (trnF) (some ⟨pc,0,none⟩) 3 185 [] [] (fun _=>true) ZfY (by simp [trnF]) _ _ (fun b3 b2 x hx=>Zki x hx _ _)) ?_
 rintro _ _ R1 ⟨rfl,rfl,hR1⟩
 obtain rfl:=hR1.symm
 clear hR1
 rw [show ((trnF).all fun _=>true)=true from rfl]
 refine pur 3 rfl ?_
 refine Z2 rfl ?_ ?_<;>intro hc1
 exact absurd hc1 (by simp)
 refine sqt 5 rfl (sp rfl (PE.fA Z1o rfl) rfl (spL rfl rfl (lh Z61 rfl rfl) rfl ?_))
 refine cl rfl Z9k rfl rfl (Z0h (ZY pd pe pf) (some ⟨pb,0,none⟩) 3 186 [] [] (fun _=>true) ZfZ (by simp [ZY]) _ _ (fun b3 b2 x hx=>by
     rcases Z5i hx with rfl | rfl | rfl
     · exact Ziv _ 4 0 (by decide) (by decide) (by decide:(0:Int)≤60∧(60:Int)≤300) _ _
     · exact Ziv _ 2 2 (by decide) (by decide) (by decide:(0:Int)≤30∧(30:Int)≤300) _ _
     · exact Ziv _ 0 4 (by decide) (by decide) (by decide:(0:Int)≤0∧(0:Int)≤300) _ _)) ?_
 rintro _ _ R1 ⟨rfl,rfl,hR1⟩
 obtain rfl:=hR1.symm
 clear hR1
 rw [show ((ZY pd pe pf).all fun _=>true)=true from rfl]
 refine pur 2 rfl ?_
 refine Z2 rfl ?_ ?_<;>intro hc2
 exact absurd hc2 (by simp)
 refine sqt 13 rfl (sp rfl (PE.fA Z1P rfl) rfl (spL rfl rfl (lh Z6U rfl rfl) rfl (sp rfl (PE.makeFunc rfl rfl) rfl ?_)))
 refine cl rfl Z9m rfl rfl (Z1N (trnF) (some ⟨pc,0,none⟩) 3 188 [] [.pointer (some ⟨b1,0,none⟩)] (fun _=>true) Zg1 (by simp [trnF]) _ _ (fun b3 b2 x hx=>Zkj pa pb pc b1 x hx _ _)) ?_
 rintro _ _ R1 ⟨rfl,rfl,hR1⟩
 obtain rfl:=hR1.symm
 clear hR1
 rw [show ((trnF).all fun _=>true)=true from rfl]
 refine pur 2 rfl ?_
 refine Zv 61 rfl ?_ ?_<;>intro g61
 exact absurd g61 (by simp)
 refine spG rfl rfl rfl rfl (PE.fA Z6s rfl) rfl ?_
 refine Z1b rfl rfl rfl rfl rfl (lh Zei rfl rfl) rfl ?_
 refine spG rfl rfl rfl rfl (PE.makeFunc rfl rfl) rfl ?_
 refine clG rfl rfl rfl rfl Zg2 rfl rfl (Z6k ([]) (none) 0 191 [] [.pointer (some ⟨b3,0,none⟩)] (fun _=>true) Zg3 (by simp [List.length]) _ _ (fun b2 b4 x hx=>by cases hx)) ?_
 rintro _ _ R1 ⟨rfl,rfl,hR1⟩
 obtain rfl:=hR1.symm
 clear hR1
 rw [show (([]).all fun _=>true)=true from rfl]
 refine pur 3 rfl ?_
 refine Z2 rfl ?_ ?_<;>intro hc3
 exact absurd hc3 (by simp)
 refine sqt 5 rfl (sp rfl (PE.fA Z1P rfl) rfl (spL rfl rfl (lh Z6U rfl rfl) rfl ?_))
 refine cl rfl Z9m rfl rfl (Z1N (trnF) (some ⟨pc,0,none⟩) 3 192 [] [] (fun _=>true) Zg4 (by simp [trnF]) _ _ (fun b3 b2 x hx=>Zkk x hx _ _)) ?_
 rintro _ _ R1 ⟨rfl,rfl,hR1⟩
 obtain rfl:=hR1.symm
 clear hR1
 rw [show ((trnF).all fun _=>true)=true from rfl]
 refine pur 2 rfl ?_
 refine Z2 rfl ?_ ?_<;>intro hc4
 exact absurd hc4 (by simp)
 refine sqt 5 rfl (sp rfl (PE.fA Z1o rfl) rfl (spL rfl rfl (lh Z61 rfl rfl) rfl ?_))
 refine cl rfl Z9k rfl rfl (Z0h (ZY pd pe pf) (some ⟨pb,0,none⟩) 3 193 [] [] (fun _=>true) Zg5 (by simp [ZY]) _ _ (fun b3 b2 x hx=>by
     rcases Z5i hx with rfl | rfl | rfl
     · exact Zix _ 4 0 (by decide) (by decide) rfl _ _
     · exact Zix _ 2 2 (by decide) (by decide) rfl _ _
     · exact Zix _ 0 4 (by decide) (by decide) rfl _ _)) ?_
 rintro _ _ R1 ⟨rfl,rfl,hR1⟩
 obtain rfl:=hR1.symm
 clear hR1
 rw [show ((ZY pd pe pf).all fun _=>true)=true from rfl]
 refine pur 2 rfl ?_
 refine Z2 rfl ?_ ?_<;>intro hc5
 exact absurd hc5 (by simp)
 refine Z3 (Z0 (sqt 4 rfl (sp rfl (PE.fA Z1o rfl) rfl (spL rfl rfl (lh Z61 rfl rfl) rfl (sp rfl (PE.lenSl Z5J rfl) rfl (pur 1 rfl (Z1 ?_)))))))
 refine Zc (ι:={k:Nat // k≤3}) (fun k=>⟨[(1,.pointer (some ⟨b1,0,none⟩)),(79,.slice (some ⟨pb,0,none⟩) 3 3),(80,.int .i64 3),(81,.int .i64 (k.1:Int))],(b1,cel 119 (fls pa pb pc))::H,R⟩) (fun k=>3-k.1) ⟨0,Nat.zero_le _⟩ ?_ (fun k=>?_)
 exact Zf (fun w h=>h.del b3)
 obtain ⟨k,hk⟩:=k
 dsimp only at hk ⊢
 refine sqt 1 rfl (pur 1 rfl (Z0 ?_))
 refine Z2 rfl ?_ ?_<;>intro hc6<;>try simp only [cS] at hc6
 obtain ⟨x,hx⟩:∃ x,(ZY pd pe pf)[k]?=some x:=⟨_,List.getElem?_eq_getElem (show k<(ZY pd pe pf).length from by show k<3;omega)⟩
 have hxo:=Zf3 hx
 refine Zl (a:=some ⟨pb,0,none⟩) (sz:=2) (rows:=Z0f (ZY pd pe pf)) (by simp [ZY]) (fun ba oa he=>?_)
 obtain ⟨rfl,rfl⟩:pb=ba∧0=oa:=by injection he with he;injection he with h1 h2;exact ⟨h1,h2⟩
 clear he
 refine Z3 (Z0 (Z1 (sqt 6 rfl (pur 1 rfl (sp rfl (PE.indexAddr Zbe rfl rfl (by omega) (by omega)) rfl (spL rfl rfl (lfA ZaO (row:=Z0L x) (by simp [hx]) rfl) rfl (alc rfl Z8f rfl (fun b5=>pur 1 rfl ?_))))))))
 refine sto rfl rfl rfl ZgS rfl rfl rfl rfl ?_
 refine Z0 ?_
 refine Zd [0,0,3,0,8,31] (.ld 0 (.tk 1 (.tk 3 (.ld 4 (.big 2 (.tk 5 .done)))))) Zq (by kernel_rfl) ?_
 refine ld rfl rfl (lhA (fls pa pb pc) Z1h rfl rfl rfl) rfl (Zm 1 rfl (tk rfl (PE.fA Z6v rfl) rfl (ld rfl rfl (lh (v:=.int .i64 x.1) sc3 rfl rfl) rfl ?_)))
 refine clV rfl Zg7 rfl rfl (Zdq pa pb pc pd pe pf k (by omega) _ _) ?_
 refine bg (fun w hs=>⟨(lh (v:=.int .i64 x.1) sc3 rfl rfl) w hs,trivial,trivial⟩) ?_
 refine Zm 1 rfl ?_
 refine Z2 rfl ?_ ?_<;>intro hc7
 exact absurd hc7 (by simp;omega)
 refine Z3 (sqr 2 rfl (sp rfl (PE.add rfl rfl (by omega)) rfl (pur 1 rfl ?_)))
 exact Zb ⟨k+1,by omega⟩ (fun w h=>h.del b5)
 refine Z8 (Za (Za (Zn (sqt 1 rfl (pur 1 rfl (Z5 ?_))))))
 exact rtA rfl rfl rfl ⟨rfl,rfl,rfl⟩ (fun w h=>h.del b1)
theorem Z8E (pa pb pc:Nat) (H:Z7) (R:Z4) :
    FnV Tryz.prog 128 [(.agg (fls pa pb pc).toArray)] H R (.agg (Zj [0,0,0,0,0,0,0,0]).toArray):=by
 refine Z9 Tryz.func128 rfl Tryz.ntmps128 rfl ?_
 refine sqt 2 rfl (bx rfl rfl rfl (fun b1=>alc rfl ZeF rfl (fun b2=>sqt 1 rfl (alc rfl ZeF rfl (fun b3=>Z1 ?_)))))
 refine Zc (ι:=Unit) (fun _=>⟨[(1,.pointer (some ⟨b1,0,none⟩)),(2,.pointer (some ⟨b2,0,none⟩)),(3,.pointer (some ⟨b3,0,none⟩))],(b3,cel 215 (Zj [0,0,0,0,0,0,0,0]))::(b2,cel 215 (Zj [0,0,0,0,0,0,0,0]))::(b1,cel 119 (fls pa pb pc))::H,R⟩) (fun _=>0) () ?_ (fun _=>?_)
 exact Zf idH
 refine Z1 (sqt 3 rfl (spL rfl rfl (lhA (Zj [0,0,0,0,0,0,0,0]) Z8q rfl rfl rfl) rfl (alc rfl ZeF rfl (fun b4=>?_))))
 refine sto rfl rfl rfl ZgU rfl rfl rfl rfl ?_
 refine Z0 (sqt 4 rfl (sp rfl (PE.fA Z6s rfl) rfl (spL rfl rfl (lh Zei rfl rfl) rfl (sp rfl (PE.lenSl Z9U rfl) rfl (pur 1 rfl (Z1 ?_))))))
 refine Zc (ι:=Unit) (fun _=>⟨[(1,.pointer (some ⟨b1,0,none⟩)),(2,.pointer (some ⟨b2,0,none⟩)),(3,.pointer (some ⟨b3,0,none⟩)),(4,.pointer (some ⟨b4,0,none⟩)),(9,.slice none 0 0),(10,.int .i64 0),(11,.int .i64 0)],(b4,cel 215 (Zj [0,0,0,0,0,0,0,0]))::(b3,cel 215 (Zj [0,0,0,0,0,0,0,0]))::(b2,cel 215 (Zj [0,0,0,0,0,0,0,0]))::(b1,cel 119 (fls pa pb pc))::H,R⟩) (fun _=>0) () ?_ (fun _=>?_)
 exact Zf idH
 refine sqt 1 rfl (pur 1 rfl (Z0 ?_))
 refine Z2 rfl ?_ ?_<;>intro hc0
 exact absurd hc0 (by simp)
 try simp only [cS] at hc0
 refine Z8 (Za (Za (Zn (sqt 3 rfl (spL rfl rfl (lhA (Zj [0,0,0,0,0,0,0,0]) Z8q rfl rfl rfl) rfl (spL rfl rfl (lhA (Zj [0,0,0,0,0,0,0,0]) Z8q rfl rfl rfl) rfl (sp rfl (PE.eqlAgg [0,0,0,0,0,0,0,0] [0,0,0,0,0,0,0,0] (Z25 10000 215 true 8 Zha) Zhb rfl rfl rfl rfl) rfl ?_)))))))
 refine Z2 rfl ?_ ?_<;>intro hc1
 try simp only [cS] at hc1
 refine sqt 2 rfl (spL rfl rfl (lhA (Zj [0,0,0,0,0,0,0,0]) Z8q rfl rfl rfl) rfl ?_)
 refine sto rfl rfl rfl ZgU rfl rfl rfl rfl ?_
 refine Z5 ?_
 exact Zk (vs:=[_]) rfl (.cons (RV.cell rfl (lhA (Zj [0,0,0,0,0,0,0,0]) Z8q rfl rfl rfl)) .nil) rfl ⟨rfl,rfl,rfl⟩ (fun w h=>(((h.del b4).del b3).del b2).del b1)
 exact absurd hc1 (by simp)
theorem Z0M (pa pb pc pd pe pf:Nat) (H:Z7) (R:Z4) [hA:MemRows (some ⟨pa,0,none⟩) 1 (irows [400,300]) R] [hB:MemRows (some ⟨pb,0,none⟩) 2 (Z0f (ZY pd pe pf)) R] [hC:MemRows (some ⟨pc,0,none⟩) 3 (Z0r trnF) R] [hD:MemRows (some ⟨pd,0,none⟩) 1 (irows (shs 0)) R] [hE:MemRows (some ⟨pe,0,none⟩) 1 (irows (shs 1)) R] [hF:MemRows (some ⟨pf,0,none⟩) 1 (irows (shs 2)) R] [hG:MemRows none 2 (Z0I []) R] :
    FnV Tryz.prog 127 [(.agg (fls pa pb pc).toArray)] H R (.int .i64 0):=by
 refine Z9 Tryz.func127 rfl Tryz.ntmps127 rfl ?_
 refine sqt 2 rfl (bx rfl rfl rfl (fun b1=>pur 1 rfl (Z0 (sqt 3 rfl (spL rfl rfl (lhA (fls pa pb pc) Z1h rfl rfl rfl) rfl ?_)))))
 refine clV rfl ZfO rfl rfl (Zdm pa pb pc pd pe pf _ _) ?_
 refine pur 1 rfl (sqt 2 rfl (pur 2 rfl ?_))
 refine Z2 rfl ?_ ?_<;>intro hc0
 exact absurd hc0 (by simp)
 refine Z3 (Z0 (sqt 3 rfl (spL rfl rfl (lhA (fls pa pb pc) Z1h rfl rfl rfl) rfl ?_)))
 refine clV rfl Zch rfl rfl (Z8E pa pb pc _ _) ?_
 refine pur 1 rfl (Z1 ?_)
 refine Zc (ι:={k:Nat // k≤8}) (fun k=>⟨[(12,(.agg (Zj [0,0,0,0,0,0,0,0]).toArray)),(13,.int .i64 (k.1:Int))],(b1,cel 119 (fls pa pb pc))::H,R⟩) (fun k=>8-k.1) ⟨0,Nat.zero_le _⟩ ?_ (fun k=>?_)
 exact Zf idH
 obtain ⟨k,hk⟩:=k
 dsimp only at hk ⊢
 refine sqt 1 rfl (pur 1 rfl (Z0 ?_))
 refine Z2 rfl ?_ ?_<;>intro hc1<;>try simp only [cS] at hc1
 refine Z3 (Z0 (Z1 (sqt 4 rfl (pur 1 rfl ?_))))
 refine sp rfl ((PE.indexI (l:=[0,0,0,0,0,0,0,0]) (i:=k) Zf1 (Z25 10000 3 false 1 Zks) (fun _=>rfl) rfl rfl (by omega) (by simp only [List.length_cons,List.length_nil];omega)).to (ZjZ (by omega))) rfl ?_
 refine pur 2 rfl (sqt 5 rfl (pur 2 rfl (sp rfl (PE.shrN (m:=0) (n:=k) rfl rfl (by omega)) rfl (sp rfl (PE.andN (m:=0>>>k) (n:=1) rfl rfl rfl (by rw [Nat.zero_shiftRight];decide) (by decide)) rfl (pur 1 rfl ?_)))))
 refine Z2 rfl ?_ ?_<;>intro hc2
 exact absurd hc2 (by simp)
 refine Z3 (sqr 2 rfl (sp rfl (PE.add rfl rfl (by omega)) rfl (pur 1 rfl ?_)))
 exact Zb ⟨k+1,by omega⟩ idH
 refine Z8 (Za (Za (Zn (sqt 1 rfl (pur 1 rfl (Z5 ?_))))))
 exact rtA rfl rfl rfl ⟨rfl,rfl,rfl⟩ (fun w h=>h.del b1)
theorem Zc5:apT Tryz.prog 30=some (3,1,8):=by kernel_rfl
theorem Z4p:arN Tryz.prog 217=some (4,1):=by kernel_rfl
theorem Zf0:arN Tryz.prog 218=some (8,4):=by kernel_rfl
theorem ZfA:cal Tryz.prog 127=true:=by kernel_rfl
theorem Zci:cal Tryz.prog 129=true:=by kernel_rfl
theorem cn3:ZB Tryz.prog 3=some 1:=by kernel_rfl
theorem Z9P:ZT Tryz.prog 220 2=some 12:=by kernel_rfl
theorem Z4M:ZT Tryz.prog 220 3=some 44:=by kernel_rfl
theorem ZjE:ZL Tryz.prog 220=some [(0,4),(4,8),(12,32),(44,4)]:=by kernel_rfl
theorem Z6a:slE Tryz.prog 30=some (3,1):=by kernel_rfl
theorem Zk3:Zw Tryz.prog 220=some (List.replicate 4 (.slice none 0 0)++List.replicate 44 (.int .i64 0)):=by kernel_rfl
theorem zl3:Zw Tryz.prog 3=some ([.int .i64 0]):=by kernel_rfl
def ZkF:List Int:=[0,0,0,0,0,0,0,0,0,0,0,0,0,0,0,0,0,0,0,0,0,0,0,0,0,0,0,0,0,0,0,0,0,0,0,0]
def ZcA:Nat→Int
 | 0=>60
 | 1=>30
 | _=>0
def Z2E (i:Nat):Trn:=trnF.getD i ⟨0,0,0⟩
theorem Zi0 {i:Nat} (h:i<3):trnF[i]?=some (Z2E i):=by
 obtain rfl | rfl | rfl:i=0∨i=1∨i=2:=by omega
 all_goals rfl
def st1 (k:Nat) (L:List Int):Nat→List Int
 | 0=>L
 | j+1=>(st1 k L j).set (32+k) (na (st1 k L j) (32+k)+ZcA j*na (shs j) k)
def st2 (k:Nat) (L:List Int):Nat→List Int
 | 0=>L
 | i+1=>(st2 k L i).set (i*4+k) ((Z2E i).n*(shv (Z2E i).t k-shv (Z2E i).f k))
def st0:Nat→List Int
 | 0=>ZkF
 | k+1=>st2 k (st1 k (st0 k) 3) 3
theorem Z55 {k:Nat} {L:List Int} (h:L.length=36):∀ j,(st1 k L j).length=36
 | 0=>h
 | j+1=>by unfold st1;rw [List.length_set];exact Z55 h j
theorem Z6Z {k:Nat} {L:List Int} (h:L.length=36):∀ j,(st2 k L j).length=36
 | 0=>h
 | j+1=>by unfold st2;rw [List.length_set];exact Z6Z h j
theorem Z6Y:∀ k,(st0 k).length=36
 | 0=>rfl
 | k+1=>by unfold st0;exact Z6Z (Z55 (Z6Y k) 3) 3
theorem ZhW {k j:Nat} (hk:k<2) (hj:j<3):(0≤na (st1 k (st0 k) j) (32+k)∧na (st1 k (st0 k) j) (32+k)≤10000)∧0≤ZcA j*na (shs j) k∧ZcA j*na (shs j) k≤10000 :=
 (by decide:∀ k:Nat,k<2→∀ j:Nat,j<3→(0≤na (st1 k (st0 k) j) (32+k)∧na (st1 k (st0 k) j) (32+k)≤10000)∧0≤ZcA j*na (shs j) k∧ZcA j*na (shs j) k≤10000) k hk j hj
theorem ZhX {k i:Nat} (hk:k<2) (hi:i<3) : -10000≤(Z2E i).n*(shv (Z2E i).t k-shv (Z2E i).f k)∧(Z2E i).n*(shv (Z2E i).t k-shv (Z2E i).f k)≤10000 :=
 (by decide:∀ k:Nat,k<2→∀ i:Nat,i<3 → -10000≤(Z2E i).n*(shv (Z2E i).t k-shv (Z2E i).f k)∧(Z2E i).n*(shv (Z2E i).t k-shv (Z2E i).f k)≤10000) k hk i hi
def bdl (pa pb pc:Nat) (L:List Int):List Value:=fls pa pb pc++(Zj [0,0,0,0,0,0,0,0]++Zj L)
theorem Zc6 {pa pb pc:Nat} {L:List Int} {q i:Nat} (hq:q<L.length) (e:i=12+q):(bdl pa pb pc L)[i]?=some (.int .i64 (na L q)):=by
 subst e
 unfold bdl
 rw [List.getElem?_append_right (by simp [fls];omega),List.getElem?_append_right (by simp [fls,Zj];omega)]
 rw [show 12+q-(fls pa pb pc).length-(Zj [0,0,0,0,0,0,0,0]).length=q by simp [fls,Zj];omega]
 exact Z0x (na_get hq)
theorem Zd5 {pa pb pc:Nat} {L:List Int} {q:Nat} {v:Int} (hq:q<L.length):(bdl pa pb pc L).set (12+q) (.int .i64 v)=bdl pa pb pc (L.set q v):=by
 unfold bdl
 rw [List.set_append_right _ _ (by simp [fls];omega),List.set_append_right _ _ (by simp [fls,Zj];omega)]
 rw [show 12+q-(fls pa pb pc).length-(Zj [0,0,0,0,0,0,0,0]).length=q by simp [fls,Zj];omega]
 unfold Zj
 rw [List.map_set]
theorem Z4q (pa pb pc:Nat) (L:List Int):(bdl pa pb pc L).length=12+L.length:=by simp [bdl,fls,Zj];omega
theorem Z0P {l:List Value} {k:Nat} {v:Value} (h:k<l.length):spl l k [v]=l.set k v:=by
 simp only [spl,List.length_singleton,List.append_assoc,List.singleton_append]
 rw [List.set_eq_take_append_cons_drop,if_pos h]
theorem Z8v {pa pb pc:Nat} {L:List Int} {q i:Nat} {v:Int} (hq:q<L.length) (e:i=12+q):spl (bdl pa pb pc L) i [.int .i64 v]=bdl pa pb pc (L.set q v):=by
 subst e
 rw [Z0P (by rw [Z4q];omega),Zd5 hq]
def ZcG (s n:Nat):List Int:=((List.range n).filter fun i=>s.testBit i).map fun (i:Nat)=>(i:Int)
abbrev Z14 (s:Nat):List Int:=ZcG s 3
theorem Z6H:∀ s:Nat,s<8→∀ i:Nat,i<4→(ZcG s i).length≤3∧(s>>>i=0→ZcG s i=Z14 s):=by decide
theorem Zbq:∀ s:Nat,s<8→∀ i:Nat,i<3→(((s>>>i)&&&1)=1→ZcG s (i+1)=ZcG s i++[(i:Int)])∧(((s>>>i)&&&1)≠1→ZcG s (i+1)=ZcG s i):=by decide
theorem ZcH:∀ s:Nat,s<8→∀ x∈Z14 s,0≤x∧x≤2:=by decide
theorem sh3:∀ s:Nat,s<8→s>>>3=0:=by decide
set_option maxHeartbeats 1000000 in
theorem Z23 (pa pb pc pd pe pf:Nat) (H:Z7) (R:Z4) [hA:MemRows (some ⟨pa,0,none⟩) 1 (irows [400,300]) R] [hB:MemRows (some ⟨pb,0,none⟩) 2 (Z0f (ZY pd pe pf)) R] [hC:MemRows (some ⟨pc,0,none⟩) 3 (Z0r trnF) R] [hD:MemRows (some ⟨pd,0,none⟩) 1 (irows (shs 0)) R] [hE:MemRows (some ⟨pe,0,none⟩) 1 (irows (shs 1)) R] [hF:MemRows (some ⟨pf,0,none⟩) 1 (irows (shs 2)) R] [hG:MemRows none 2 (Z0I []) R] :
    Fn Tryz.prog 89 [(.agg (fls pa pb pc).toArray),.bool false] H R (fun v H' R'=>∃ bd,v = .tuple #[.pointer (some ⟨bd,0,none⟩),.int .i64 0]∧H'=H∧R'=RowsA (some ⟨bd,0,none⟩) 48 [bdl pa pb pc (st0 2)]::R):=by
 refine Z9 Tryz.func89 rfl Tryz.ntmps89 rfl ?_
 refine sqt 3 rfl (bx rfl rfl rfl (fun b2=>pur 2 rfl (Z0 (sqt 3 rfl (spL rfl rfl (lhA (fls pa pb pc) Z1h rfl rfl rfl) rfl ?_)))))
 refine clV rfl ZfA rfl rfl (Z0M pa pb pc pd pe pf _ _) ?_
 refine pur 1 rfl (sqt 2 rfl (pur 2 rfl ?_))
 refine Z2 rfl ?_ ?_<;>intro hc0
 exact absurd hc0 (by simp)
 refine Z3 (Z0 (sqt 1 rfl (pur 1 rfl ?_)))
 refine Z2 rfl ?_ ?_<;>intro hc1
 exact absurd hc1 (by simp)
 refine Z3 (Z0 ?_)
 refine Zd [0,0,2,7,15,31] (.ld 0 (.ld 1 (.big 2 (.tk 3 (.big 4 (.tk 5 .done)))))) Zq (by kernel_rfl) ?_
 refine ld rfl rfl (lhA (fls pa pb pc) Z1h rfl rfl rfl) rfl (ld rfl rfl (lhA (fls pa pb pc) Z1h rfl rfl rfl) rfl ?_)
 refine clV rfl Zch rfl rfl (Z8E pa pb pc _ _) ?_
 refine bg (fun w hs=>⟨trivial,(lhA (fls pa pb pc) Z1h rfl rfl rfl) w hs,trivial⟩) ?_
 refine tk rfl (PE.build (out:=[_,_,_,_,_,_,_,_,_,_,_,_,_,_,_,_,_,_,_,_,_,_,_,_,_,_,_,_,_,_,_,_,_,_,_,_,_,_,_,_,_,_,_,_,_,_,_,_]) ZjE Zk3 rfl rfl) rfl (bx rfl rfl rfl (fun b23=>bgT (Zm 1 rfl (Z0 (sqt 4 rfl (sp rfl (PE.fA Z3r rfl) rfl (spL rfl rfl (lh Z8k rfl rfl) rfl (sp rfl (PE.lenSl Z04 rfl) rfl (pur 1 rfl (Z1 ?_))))))))))
 refine Zc (ι:={k:Nat // k≤2}) (fun k=>⟨[(2,.pointer (some ⟨b2,0,none⟩)),(7,.pointer (some ⟨b23,0,none⟩)),(26,.int .i64 2),(27,.int .i64 (k.1:Int))],(b23,cel 220 (bdl pa pb pc (st0 k.1)))::(b2,cel 119 (fls pa pb pc))::H,R⟩) (fun k=>2-k.1) ⟨0,Nat.zero_le _⟩ ?_ (fun k=>?_)
 exact Zf idH
 obtain ⟨k,hk⟩:=k
 dsimp only at hk ⊢
 refine sqt 1 rfl (pur 1 rfl (Z0 ?_))
 refine Z2 rfl ?_ ?_<;>intro hc2<;>try simp only [cS] at hc2
 have hk2:k<2:=by omega
 have hl0:=Z6Y k
 refine Z3 (Z0 (Z1 (sqt 2 rfl (pur 2 rfl (Z0 (sqt 4 rfl (sp rfl (PE.fA Z1o rfl) rfl (spL rfl rfl (lh Z61 rfl rfl) rfl (sp rfl (PE.lenSl Z5J rfl) rfl (pur 1 rfl (Z1 ?_)))))))))))
 refine Zc (ι:={j:Nat // j≤3}) (fun j=>⟨[(2,.pointer (some ⟨b2,0,none⟩)),(7,.pointer (some ⟨b23,0,none⟩)),(8,.int .i64 (k:Int)),(26,.int .i64 2),(27,.int .i64 (k:Int)),(31,.slice (some ⟨pb,0,none⟩) 3 3),(32,.int .i64 3),(33,.int .i64 (j.1:Int))],(b23,cel 220 (bdl pa pb pc (st1 k (st0 k) j.1)))::(b2,cel 119 (fls pa pb pc))::H,R⟩) (fun j=>3-j.1) ⟨0,Nat.zero_le _⟩ ?_ (fun j=>?_)
 exact Zf idH
 obtain ⟨j,hj⟩:=j
 dsimp only at hj ⊢
 refine sqt 1 rfl (pur 1 rfl (Z0 ?_))
 refine Z2 rfl ?_ ?_<;>intro hc3<;>try simp only [cS] at hc3
 have hj3:j<3:=by omega
 obtain ⟨y,hy,hyM⟩:∃ y,(ZY pd pe pf)[j]?=some (ZcA j,y)∧MemRows (some ⟨y,0,none⟩) 1 (irows (shs j)) R:=by
   obtain rfl | rfl | rfl:j=0∨j=1∨j=2:=by omega
   · exact ⟨pd,rfl,inferInstance⟩
   · exact ⟨pe,rfl,inferInstance⟩
   · exact ⟨pf,rfl,inferInstance⟩
 have hl1:=Z55 (k:=k) hl0 j
 have hbd:=ZhW hk2 hj3
 refine Zl (a:=some ⟨pb,0,none⟩) (sz:=2) (rows:=Z0f (ZY pd pe pf)) (by simp [ZY]) (fun ba oa he=>?_)
 obtain ⟨rfl,rfl⟩:pb=ba∧0=oa:=by injection he with he;injection he with h1 h2;exact ⟨h1,h2⟩
 clear he
 refine Z3 (Z0 (Z1 (sqt 4 rfl (sp rfl (PE.indexAddr Zbe rfl rfl (by omega) (by omega)) rfl (spL rfl rfl (lfA ZaO (row:=Z0L (ZcA j,y)) (by simp [hy]) rfl) rfl (alc rfl Z8f rfl (fun b10=>?_)))))))
 refine sto rfl rfl rfl ZgS rfl rfl rfl rfl ?_
 refine Zd [0,0,1,5,15,31,0,64,0,256,0,1792,3840,8128,16383,1,32769,131071,262143] (tks 0 5 (.ld 5 (.tk 6 (.ld 7 (.tk 8 (.ld 9 (.tk 10 (.tk 11 (.ld 12 (tks 13 5 (.big 18 .done))))))))))) Zq (by kernel_rfl) ?_
 refine Zm 2 rfl (tk rfl (PE.nilCheck rfl) rfl (tk rfl (PE.fA Z4M rfl) rfl (tk rfl (PE.indexArr Z4p rfl rfl (by omega) (by omega)) rfl (ld rfl rfl (lh (v:=.int .i64 (na (st1 k (st0 k) j) (32+k))) sc3 rfl (Zc6 (by omega) (by show 0+44+((k:Nat):Int).toNat*1=_;omega))) rfl (tk rfl (PE.fA Z6v rfl) rfl (ld rfl rfl (lh (v:=.int .i64 (ZcA j)) sc3 rfl rfl) rfl (tk rfl (PE.fA Z3t rfl) rfl (ld rfl rfl (lh (v:=.slice (some ⟨y,0,none⟩) 2 2) Z8k rfl rfl) rfl (Zm 1 rfl (tk rfl (PE.indexAddr Z3R rfl rfl (by omega) (by omega)) rfl (ld rfl rfl (lf0 (x:=.int .i64 (na (shs j) k)) sc3 (Z1s (Zar j hk2)) rfl) rfl (tk rfl (PE.mul rfl rfl (by omega)) rfl (tk rfl (PE.add rfl rfl (by omega)) rfl (tk rfl (PE.nilCheck rfl) rfl (tk rfl (PE.fA Z4M rfl) rfl ?_)))))))))))))))
 refine tk rfl (PE.indexArr Z4p rfl rfl (by omega) (by omega)) rfl ?_
 refine Z03 (l':=bdl pa pb pc (st1 k (st0 k) (j+1))) rfl rfl rfl cn3 rfl rfl rfl (Z8v (L:=st1 k (st0 k) j) (q:=32+k) (by omega) (by show 0+44+((k:Nat):Int).toNat*1=_;omega)) (by rw [Z4q,hl1];show 0+44+((k:Nat):Int).toNat*1+1≤48;omega) ?_
 refine bgT (sqr 2 rfl (sp rfl (PE.add rfl rfl (by omega)) rfl (pur 1 rfl ?_)))
 exact Zb ⟨j+1,by omega⟩ (fun w h=>h.del b10)
 obtain rfl:j=3:=by omega
 have hl3:=Z55 (k:=k) hl0 3
 refine Z8 (Za (Za (Zn (sqt 4 rfl (sp rfl (PE.fA Z1P rfl) rfl (spL rfl rfl (lh Z6U rfl rfl) rfl (sp rfl (PE.lenSl Z5K rfl) rfl (pur 1 rfl (Z1 ?_)))))))))
 refine Zc (ι:={i:Nat // i≤3}) (fun i=>⟨[(2,.pointer (some ⟨b2,0,none⟩)),(7,.pointer (some ⟨b23,0,none⟩)),(8,.int .i64 (k:Int)),(26,.int .i64 2),(27,.int .i64 (k:Int)),(57,.slice (some ⟨pc,0,none⟩) 3 3),(58,.int .i64 3),(59,.int .i64 (i.1:Int))],(b23,cel 220 (bdl pa pb pc (st2 k (st1 k (st0 k) 3) i.1)))::(b2,cel 119 (fls pa pb pc))::H,R⟩) (fun i=>3-i.1) ⟨0,Nat.zero_le _⟩ ?_ (fun i=>?_)
 exact Zf idH
 obtain ⟨i,hi⟩:=i
 dsimp only at hi ⊢
 refine sqt 1 rfl (pur 1 rfl (Z0 ?_))
 refine Z2 rfl ?_ ?_<;>intro hc4<;>try simp only [cS] at hc4
 have hi3:i<3:=by omega
 have hx:=Zi0 hi3
 have hxo:=Z67 (List.mem_of_getElem? hx)
 have hl2:=Z6Z (k:=k) hl3 i
 have hbd:=ZhX hk2 hi3
 have hb1:=ZcQ (Z2E i).t k
 have hb2:=ZcQ (Z2E i).f k
 refine Zl (a:=some ⟨pc,0,none⟩) (sz:=3) (rows:=Z0r trnF) (by simp [trnF]) (fun ba oa he=>?_)
 obtain ⟨rfl,rfl⟩:pc=ba∧0=oa:=by injection he with he;injection he with h1 h2;exact ⟨h1,h2⟩
 clear he
 refine Z3 (Z0 (Z1 (sqt 6 rfl (pur 1 rfl (sp rfl (PE.indexAddr ZdF rfl rfl (by omega) (by omega)) rfl (spL rfl rfl (lfA ZaP (row:=Z0X (Z2E i)) (by simp [hx]) rfl) rfl (alc rfl Z8g rfl (fun b12=>pur 1 rfl ?_))))))))
 refine sto rfl rfl rfl ZgT rfl rfl rfl rfl ?_
 refine Zd [0,0,0,0,8,0,0,64,0,480,0,0,2048,0,16352,32736,65528,1,131073,393219,1048575,2097151] (tks 0 4 (.ld 4 (.ld 5 (.tk 6 (.ld 7 (.tk 8 (.ld 10 (.tk 11 (.ld 12 (.tk 13 (tks 17 3 (.big 9 (.big 14 (.tk 15 (.tk 16 (.tk 20 (.big 21 .done))))))))))))))))) Zq (by kernel_rfl) ?_
 refine Zm 3 rfl (tk rfl (PE.fA Z6x rfl) rfl (ld rfl rfl (lh (v:=.int .i64 (Z2E i).n) sc3 rfl rfl) rfl (ld rfl rfl (lhA (fls pa pb pc) Z1h rfl rfl rfl) rfl (tk rfl (PE.fA Z6w rfl) rfl (ld rfl rfl (lh (v:=.int .i64 (Z2E i).t) sc3 rfl rfl) rfl (Zm 1 rfl (ld rfl rfl (lhA (fls pa pb pc) Z1h rfl rfl rfl) rfl (tk rfl (PE.fA Z4K rfl) rfl (ld rfl rfl (lh (v:=.int .i64 (Z2E i).f) sc3 rfl rfl) rfl (Zm 1 rfl (tk rfl (PE.nilCheck rfl) rfl (tk rfl (PE.fA Z9P rfl) rfl (tk rfl (PE.indexArr Zf0 rfl rfl (by omega) (by omega)) rfl ?_)))))))))))))
 refine clV rfl Zci rfl rfl (Z9d pa pb pc pd pe pf (Z2E i).t (by omega) k hk2 _ _) ?_
 refine bg (fun w hs=>⟨(lh (v:=.int .i64 (Z2E i).f) sc3 rfl rfl) w hs,(lhA (fls pa pb pc) Z1h rfl rfl rfl) w hs,trivial,trivial,(lh (v:=.int .i64 (Z2E i).n) sc3 rfl rfl) w hs,trivial⟩) ?_
 refine clV rfl Zci rfl rfl (Z9d pa pb pc pd pe pf (Z2E i).f (by omega) k hk2 _ _) ?_
 refine bg (fun w hs=>⟨trivial,trivial,(lh (v:=.int .i64 (Z2E i).n) sc3 rfl rfl) w hs,trivial⟩) ?_
 refine tk rfl (PE.sub rfl rfl (by omega)) rfl (tk rfl (PE.mul rfl rfl (by omega)) rfl (tk rfl (PE.indexArr Z4p rfl rfl (by omega) (by omega)) rfl ?_))
 refine Z03 (l':=bdl pa pb pc (st2 k (st1 k (st0 k) 3) (i+1))) rfl rfl rfl cn3 rfl rfl rfl (Z8v (L:=st2 k (st1 k (st0 k) 3) i) (q:=i*4+k) (by omega) (by show 0+12+((i:Nat):Int).toNat*4+((k:Nat):Int).toNat*1=_;omega)) (by rw [Z4q,hl2];show 0+12+((i:Nat):Int).toNat*4+((k:Nat):Int).toNat*1+1≤48;omega) ?_
 refine bgT (sqr 2 rfl (sp rfl (PE.add rfl rfl (by omega)) rfl (pur 1 rfl ?_)))
 exact Zb ⟨i+1,by omega⟩ (fun w h=>h.del b12)
 obtain rfl:i=3:=by omega
 refine Z8 (Za (Za (Zn (sqr 2 rfl (sp rfl (PE.add rfl rfl (by omega)) rfl (pur 1 rfl ?_))))))
 exact Zb ⟨k+1,by omega⟩ idH
 obtain rfl:k=2:=by omega
 refine Z8 (Za (Za (Zn (sqt 3 rfl (pur 3 rfl (Z5 ?_))))))
 exact rtB rfl rfl rfl rfl ⟨b23,rfl,rfl,rfl⟩ (fun w h=>St.rows (b:=b23) (e:=220) (sz:=48) (rows:=[bdl pa pb pc (st0 2)]) (rest:=[]) (by simp only [List.flatten_cons,List.flatten_nil,List.append_nil];exact (h.del b2).pull b23) (by simp [Z4q,Z6Y]))
theorem Z5r (s:Nat) (hs:s<8) (H:Z7) (R:Z4) :
    Fn Tryz.prog 196 [.int .i64 (s:Nat)] H R (fun v H' R'=>∃ a9 c9,v = .slice a9 (Z14 s).length c9∧H'=H∧R'=RowsA a9 1 (irows (Z14 s))::R):=by
 refine Z9 Tryz.func196 rfl Tryz.ntmps196 rfl ?_
 refine sqt 1 rfl (pur 1 rfl (sqt 1 rfl (pur 1 rfl (Z0 (sqt 1 rfl (pur 1 rfl (Z1 ?_)))))))
 refine Zc (ι:=(x:{x:Nat // x<4})×OSl 3 1 (irows (ZcG s x.1))) (fun x=>⟨[(0,.int .i64 (s:Nat)),(3,x.2.fs),(4,.int .i64 (x.1.1:Int))],x.2.G++H,R⟩) (fun x=>4-x.1.1) ⟨⟨0,by omega⟩,OSl.nil _ _⟩ ?_ (fun x=>?_)
 exact Zf idH
 obtain ⟨⟨i,hi⟩,o⟩:=x
 dsimp only at hi o ⊢
 have hmf:=Z6H s hs i hi
 have hsb:s>>>i≤8:=(by decide:∀ s:Nat,s<8→∀ i:Nat,i<4→s>>>i≤8) s hs i hi
 refine Z0 (sqt 4 rfl (pur 2 rfl (sp rfl (PE.shrN (m:=s) (n:=i) rfl rfl (by omega)) rfl (pur 1 rfl ?_))))
 refine Z2 rfl ?_ ?_<;>intro hc0<;>try simp only [cS] at hc0
 have hi3:i<3:=by
   rcases Nat.lt_or_ge i 3 with e | e
   · exact e
   · obtain rfl:i=3:=by omega
     rw [sh3 s hs] at hc0;simp at hc0
 have hst:=Zbq s hs i hi3
 refine Z3 (Z0 (Z1 (sqt 5 rfl (pur 2 rfl (sp rfl (PE.shrN (m:=s) (n:=i) rfl rfl (by omega)) rfl (sp rfl (PE.andN (m:=s>>>i) (n:=1) rfl rfl rfl (by omega) (by decide)) rfl (pur 1 rfl ?_)))))))
 refine Z2 rfl ?_ ?_<;>intro hc1<;>try simp only [cS] at hc1
 generalize hz:(s>>>i)&&&1=z at hc1 hst
 refine sqr 5 rfl (pur 2 rfl ?_)
 refine bsl (out:=[_]) rfl Z6a zl3 rfl rfl rfl rfl rfl rfl (fun b18=>?_)
 refine apO (o) rfl Zc5 rfl rfl (Z2z (row:=[.int .i64 (i:Int)]) rfl) rfl rfl ((by simp only [irows,List.length_map,List.length_singleton];omega)) rfl (fun o19=>?_)
 refine pur 1 rfl (sqr 3 rfl (pur 1 rfl (sp rfl (PE.add rfl rfl (by omega)) rfl (pur 1 rfl ?_))))
 exact Zb ⟨⟨i+1,by omega⟩,o19.cast (by rw [hst.1 (by omega)];simp [irows])⟩ (fun w h=>h.del b18)
 generalize hz:(s>>>i)&&&1=z at hc1 hst
 refine Z3 (sqr 3 rfl (pur 1 rfl (sp rfl (PE.add rfl rfl (by omega)) rfl (pur 1 rfl ?_))))
 exact Zb ⟨⟨i+1,by omega⟩,o.cast (by rw [hst.2 (by omega)])⟩ idH
 generalize hz:s>>>i=z at hc0 hmf
 have hme:=hmf.2 (by simp at hc0;omega)
 refine Z8 (Za (Za (Zn (sqt 2 rfl (pur 2 rfl (Z5 ?_))))))
 obtain ⟨a9,c9,hfe,hff⟩:=OSl.freeze (o.cast (rows':=irows (Z14 s)) (by rw [hme]))
 rw [List.length_map] at hfe
 exact rtA rfl rfl rfl ⟨a9,c9,hfe,rfl,rfl⟩ (fun w h=>hff h)
theorem Zd3:Z1g Tryz.prog 217=some 4:=by kernel_rfl
theorem Zit:arN Tryz.prog 215=some (8,1):=by kernel_rfl
theorem ZfB:cal Tryz.prog 131=true:=by kernel_rfl
theorem ZfP:cal Tryz.prog 163=true:=by kernel_rfl
theorem ZfQ:cal Tryz.prog 164=true:=by kernel_rfl
theorem ZfR:cal Tryz.prog 165=true:=by kernel_rfl
theorem Zcn:cal Tryz.prog 196=true:=by kernel_rfl
theorem Zg8:cal Tryz.prog 197=true:=by kernel_rfl
theorem Zj8:cal Tryz.prog 89=true:=by kernel_rfl
theorem Zj9:cal Tryz.prog 90=true:=by kernel_rfl
theorem Zja:cal Tryz.prog 91=true:=by kernel_rfl
theorem Zjf:ZB Tryz.prog 119=some 4:=by kernel_rfl
theorem ZdA:ZB Tryz.prog 217=some 4:=by kernel_rfl
theorem ZdJ:ZT Tryz.prog 220 0=some 0:=by kernel_rfl
theorem ZdK:ZT Tryz.prog 220 1=some 4:=by kernel_rfl
theorem ZjB:ZL Tryz.prog 119=some [(0,1),(1,1),(2,1),(3,1)]:=by kernel_rfl
theorem Ze8:ZL Tryz.prog 178=some [(0,1),(1,1)]:=by kernel_rfl
theorem Ze9:ZL Tryz.prog 180=some [(0,1),(1,1),(2,1)]:=by kernel_rfl
theorem ZbK:Z0g Tryz.prog 172=true:=by kernel_rfl
theorem ZjQ:slE Tryz.prog 115=some (178,2):=by kernel_rfl
theorem ZjR:slE Tryz.prog 116=some (180,3):=by kernel_rfl
theorem Zi5:Zw Tryz.prog 119=some ([.slice none 0 0,.slice none 0 0,.slice none 0 0,.slice none 0 0]):=by kernel_rfl
theorem ZeG:Zw Tryz.prog 217=some ([.int .i64 0,.int .i64 0,.int .i64 0,.int .i64 0]):=by kernel_rfl
def Z5D:List Int:=[-80,80,0,0,-60,60,0,0,160,0,0,0,0,0,0,0,0,0,0,0,0,0,0,0,0,0,0,0,0,0,0,0,300,60,0,0]
theorem Zhh:st0 2=Z5D:=by decide
theorem Zkp {P:Program} {ops:Array Oper} {n:Nat} {L:Zo} {D:List Deferred} {H:Z7} {R:Z4} {K:Act→World→Prop} {i d:Nat} {ty:TypeId} {pos:String} {af:Array Edge} {l:Nat} {c:Operand} {xs:List Operand} {vs:List Value} {ts:Array TypeId} {Q:Value→Z7→Z4→Prop} {j t:Nat} {b:Bool} {oj:Oper}
   (ho:ops[i]?=some ⟨some d,.call { callee:=.value c,args:=xs.toArray,argTypes:=ts },ty,pos,af,some (j,b)⟩) (hj:ops[j]?=some oj) (ht:oj.dst=some t) (hb:lk L t=some (.bool b)) (hcv:ev L c=some (yv l)) (hd:Nat.blt d n=true) (hx:evs L xs=some vs)
   (hc:Yd P l vs H R Q) (h:∀ v H' R',Q v H' R'→Sy n ((d,v)::L) D H' R' K):Sy n L D H R (stp P none ops i K):=fun a w ha hD hs=>by
 obtain ⟨f,tm,asg,bo,h1,h2⟩:=hc w hs
 have hw:Region.wanted ⟨some d,.call { callee:=.value c,args:=xs.toArray,argTypes:=ts },ty,pos,af,some (j,b)⟩ (yielded ops a.tmps)=true:=by simp [Region.wanted,ZP ha hj ht hb]
 unfold stp
 rw [ho]
 simp only [hw,if_true,Oper.wpIn,Z1z,Z0d (Z2P ha.reads hcv hx h1) (by simp),Oper.uponIn]
 refine ⟨fun _ _=>Z2p _ _,by simp [Z2U],RoundIn.mono h2 fun e w' he=>?_⟩
 obtain ⟨v,H',R',q,rfl,hs'⟩:=he
 exact h v H' R' q _ _ (ha.put (by simpa using hd) v) hD hs'
theorem ZaT {pa pb pc:Nat} {L:List Int} {q i:Nat} (hq:q<8) (e:i=4+q):(bdl pa pb pc L)[i]?=some (.int .i64 0):=by
 subst e
 obtain rfl | rfl | rfl | rfl | rfl | rfl | rfl | rfl:q=0∨q=1∨q=2∨q=3∨q=4∨q=5∨q=6∨q=7:=by omega
 all_goals rfl
theorem Z8u {pa pb pc:Nat}:(bdl pa pb pc Z5D).drop (0+44)=Zj [300,60,0,0]++[]:=rfl
def ld1 (m:Nat) (F:List Int):Nat→List Int
 | 0=>F
 | k+1=>(ld1 m F k).set k (na (ld1 m F k) k+na Z5D (m*4+k))
def ld0 (s:Nat):Nat→List Int
 | 0=>[300,60,0,0]
 | i+1=>ld1 (na (Z14 s) i).toNat (ld0 s i) 4
theorem Z6E {m:Nat} {F:List Int} (h:F.length=4):∀ k,(ld1 m F k).length=4
 | 0=>h
 | k+1=>by unfold ld1;rw [List.length_set];exact Z6E h k
theorem Z4R (s:Nat):∀ i,(ld0 s i).length=4
 | 0=>rfl
 | i+1=>by unfold ld0;exact Z6E (Z4R s i) 4
theorem Zjz {s i k:Nat} (hs:s<8) (hi:i<3) (hk:k<4):(-10000≤na (ld1 (na (Z14 s) i).toNat (ld0 s i) k) k∧na (ld1 (na (Z14 s) i).toNat (ld0 s i) k) k≤10000) ∧ -10000≤na Z5D ((na (Z14 s) i).toNat*4+k)∧na Z5D ((na (Z14 s) i).toNat*4+k)≤10000 :=
 (by decide:∀ s:Nat,s<8→∀ i:Nat,i<3→∀ k:Nat,k<4→(-10000≤na (ld1 (na (Z14 s) i).toNat (ld0 s i) k) k∧na (ld1 (na (Z14 s) i).toNat (ld0 s i) k) k≤10000) ∧ -10000≤na Z5D ((na (Z14 s) i).toNat*4+k)∧na Z5D ((na (Z14 s) i).toNat*4+k)≤10000) s hs i hi k hk
def ldF (s:Nat):List Int:=ld0 s (Z14 s).length
theorem Zbk {l:List Int} {i k:Nat} {v:Int} (hk:k<l.length) (e:i=k):spl (Zj l) i [.int .i64 v]=Zj (l.set k v):=by
 subst e
 rw [Z0P (by rw [Z6];exact hk)]
 unfold Zj
 rw [List.map_set]
theorem Zas {l vs:List Value} (h:l.length=vs.length):spl l 0 vs=vs:=by unfold spl;rw [List.take_zero,List.nil_append,List.drop_eq_nil_of_le (by omega),List.append_nil]
def hv:Nat→Nat×Int
 | 0=>(0,300)
 | s+1=>bif decide ((hv s).2<na (ldF s) 0) then (s,na (ldF s) 0) else hv s
theorem Zhj:hv 8=(4,460):=by decide
theorem St.noR {sz:Nat} {H:Z7} {R:Z4} {w:World} (h:St H R w):St H (RowsA none sz []::R) w:=h.also fun w' _ i row hi=>by simp at hi
theorem Z9b (pa pb pc pd pe pf:Nat) (H:Z7) (R:Z4) [hA:MemRows (some ⟨pa,0,none⟩) 1 (irows [400,300]) R] [hB:MemRows (some ⟨pb,0,none⟩) 2 (Z0f (ZY pd pe pf)) R] [hC:MemRows (some ⟨pc,0,none⟩) 3 (Z0r trnF) R] [hD:MemRows (some ⟨pd,0,none⟩) 1 (irows (shs 0)) R] [hE:MemRows (some ⟨pe,0,none⟩) 1 (irows (shs 1)) R] [hF:MemRows (some ⟨pf,0,none⟩) 1 (irows (shs 2)) R] [hG:MemRows none 2 (Z0I []) R]:Fn Tryz.prog 89 [(.agg (fls pa pb pc).toArray),.bool false] H R (fun v H' R'=>∃ xq,v = .tuple #[.pointer (some ⟨xq,0,none⟩),.int .i64 0]∧H'=H∧R'=RowsA (some ⟨xq,0,none⟩) 48 [bdl pa pb pc Z5D]::R):=by
 have h:=Z23 pa pb pc pd pe pf H R
 rwa [Zhh] at h
theorem Ziz (pa pb pc xq:Nat) (b2 b3 s:Nat) (x:Int) (hx:0≤x∧x≤2) (hs:s<8) (H:Z7) (R:Z4) [hK:MemRows (some ⟨xq,0,none⟩) 48 [bdl pa pb pc Z5D] R] [hM:Mem1 b2 (cel 172 [.pointer (some ⟨xq,0,none⟩)]) H] [hN:Mem1 b3 (cel 3 [.int .i64 (s:Nat)]) H] :
    FnV Tryz.prog 197 [.int .i64 x,.pointer (some ⟨b2,0,none⟩),.pointer (some ⟨b3,0,none⟩)] H R (.bool true):=by
 refine Z9 Tryz.func197 rfl Tryz.ntmps197 rfl ?_
 refine sqt 1 rfl (pur 1 rfl (Z0 ?_))
 refine Zd [0,0,1,5,15,31,0,127,255,511] (.ld 0 (tks 1 4 (.ld 5 (.ld 6 (tks 7 3 .done))))) Zq (by kernel_rfl) ?_
 refine ld rfl rfl (lh ZbK rfl rfl) rfl (Zm 1 rfl (tk rfl (PE.nilCheck rfl) rfl (tk rfl (PE.fA ZdK rfl) rfl (tk rfl (PE.indexArr Zit rfl rfl (by omega) (by omega)) rfl (ld rfl rfl (lfB (sz:=48) (x:=.int .i64 0) sc3 (ZaT (q:=x.toNat) (by omega) (by omega))) rfl (ld rfl rfl (lh sc3 rfl rfl) rfl (tk rfl (PE.andNotN (m:=0) (n:=s) rfl rfl (by decide) (by omega)) rfl (Zm 2 rfl (Z5 ?_)))))))))
 exact rtA rfl rfl rfl ⟨by simp [Z08],rfl,rfl⟩ drp
theorem Zdr (pa pb pc xq:Nat) (s:Nat) (hs:s<8) (H:Z7) (R:Z4) [hK:MemRows (some ⟨xq,0,none⟩) 48 [bdl pa pb pc Z5D] R] :
    FnV Tryz.prog 164 [.pointer (some ⟨xq,0,none⟩),.int .i64 (s:Nat)] H R (.bool true):=by
 refine Z9 Tryz.func164 rfl Tryz.ntmps164 rfl ?_
 refine sqt 3 rfl (bx rfl rfl rfl (fun b2=>bx rfl rfl rfl (fun b3=>pur 1 rfl (sqt 5 rfl (spL rfl rfl (lh sc3 rfl rfl) rfl ?_)))))
 refine cl rfl Zcn rfl rfl (Z5r s hs _ _) ?_
 rintro _ _ _ ⟨a9,c9,rfl,rfl,rfl⟩
 refine sp rfl (PE.makeFunc rfl rfl) rfl ?_
 refine cl rfl Z9l rfl rfl (Z07 (Z14 s) a9 c9 197 [] [.pointer (some ⟨b2,0,none⟩),.pointer (some ⟨b3,0,none⟩)] (fun _=>true) Zg8 (by have:=Z6H s hs 3 (by decide);have h9:(Z14 s).length≤3:=this.1;omega) _ _ (fun b4 y hy=>Ziz pa pb pc xq b2 b3 s y (ZcH s hs y hy) hs _ _)) ?_
 rintro _ _ R1 ⟨rfl,rfl,hR1⟩
 obtain rfl:=hR1.symm
 clear hR1
 rw [show ((Z14 s).all fun _=>true)=true by simp]
 refine pur 1 rfl (Z5 ?_)
 exact rtA rfl rfl rfl ⟨rfl,rfl,rfl⟩ (fun w h=>St.sub ((h.del b3).del b2))
set_option maxHeartbeats 600000 in
theorem Zfj (pa pb pc xq:Nat) (s:Nat) (hs:s<8) (H:Z7) (R:Z4) [hK:MemRows (some ⟨xq,0,none⟩) 48 [bdl pa pb pc Z5D] R] :
    FnV Tryz.prog 165 [.pointer (some ⟨xq,0,none⟩),.int .i64 (s:Nat)] H R (.agg (Zj (ldF s)).toArray):=by
 refine Z9 Tryz.func165 rfl Tryz.ntmps165 rfl ?_
 refine sqt 1 rfl (alc rfl ZeG rfl (fun b4=>sqt 6 rfl (pur 1 rfl (sp rfl (PE.nilCheck rfl) rfl (sp rfl (PE.fA Z4M rfl) rfl (spL rfl rfl (Zhu (sz:=48) (row:=bdl pa pb pc Z5D) (rest:=[]) (Zj [300,60,0,0]) Zd3 Z8u rfl) rfl (alc rfl ZeG rfl (fun b5=>?_))))))))
 refine sto rfl rfl rfl ZdA rfl rfl rfl rfl ?_
 refine Z0 (sqt 4 rfl (pur 1 rfl ?_))
 refine cl rfl Zcn rfl rfl (Z5r s hs _ _) ?_
 rintro _ _ _ ⟨a9,c9,rfl,rfl,rfl⟩
 have hm3:(Z14 s).length≤3:=(Z6H s hs 3 (by decide)).1
 refine sp rfl (PE.lenSl Z04 rfl) rfl (pur 1 rfl (Z1 ?_))
 refine Zc (ι:={i:Nat // i≤(Z14 s).length}) (fun i=>⟨[(0,.pointer (some ⟨xq,0,none⟩)),(4,.pointer (some ⟨b4,0,none⟩)),(5,.pointer (some ⟨b5,0,none⟩)),(14,.slice a9 (Z14 s).length c9),(15,.int .i64 ((Z14 s).length:Nat)),(16,.int .i64 (i.1:Int))],(b5,cel 217 (Zj (ld0 s i.1)))::(b4,cel 217 (Zj [0,0,0,0]))::H,RowsA a9 1 (irows (Z14 s))::R⟩) (fun i=>(Z14 s).length-i.1) ⟨0,Nat.zero_le _⟩ ?_ (fun i=>?_)
 exact Zf idH
 obtain ⟨i,hi⟩:=i
 dsimp only at hi ⊢
 refine sqt 1 rfl (pur 1 rfl (Z0 ?_))
 refine Z2 rfl ?_ ?_<;>intro hc0<;>try simp only [cS] at hc0
 have hi3:i<(Z14 s).length:=by omega
 have hl0:=Z4R s i
 have hx:=na_get hi3
 have hxo:=ZcH s hs _ (List.mem_of_getElem? hx)
 refine Zl (a:=a9) (sz:=1) (rows:=irows (Z14 s)) (ne0 (by rw [irl];omega)) (fun ba oa he=>?_)
 subst he
 refine Z3 (Z0 (Z1 (sqt 3 rfl (sp rfl (PE.indexAddr Z3R rfl rfl (by omega) (by omega)) rfl (spL rfl rfl (lf0 sc3 (Z1s hx) rfl) rfl (pur 1 rfl (sqt 1 rfl (pur 1 rfl (Z1 ?_)))))))))
 refine Zc (ι:={k:Nat // k≤4}) (fun k=>⟨[(0,.pointer (some ⟨xq,0,none⟩)),(4,.pointer (some ⟨b4,0,none⟩)),(5,.pointer (some ⟨b5,0,none⟩)),(7,.int .i64 (na (Z14 s) i)),(14,.slice (some ⟨ba,oa,none⟩) (Z14 s).length c9),(15,.int .i64 ((Z14 s).length:Nat)),(16,.int .i64 (i:Int)),(20,.int .i64 (k.1:Int))],(b5,cel 217 (Zj (ld1 (na (Z14 s) i).toNat (ld0 s i) k.1)))::(b4,cel 217 (Zj [0,0,0,0]))::H,RowsA (some ⟨ba,oa,none⟩) 1 (irows (Z14 s))::R⟩) (fun k=>4-k.1) ⟨0,Nat.zero_le _⟩ ?_ (fun k=>?_)
 exact Zf idH
 obtain ⟨k,hk⟩:=k
 dsimp only at hk ⊢
 refine sqt 1 rfl (pur 1 rfl (Z0 ?_))
 refine Z2 rfl ?_ ?_<;>intro hc1<;>try simp only [cS] at hc1
 have hk4:k<4:=by omega
 have hl1:=Z6E (m:=(na (Z14 s) i).toNat) hl0 k
 have hbd:=Zjz hs (show i<3 by omega) hk4
 refine Z3 (Z0 (Z1 (sqt 2 rfl (pur 2 rfl ?_))))
 refine Zd [0,1,3,0,0,0,8,72,216,504,1016,2047,4095,8191] (.tk 0 (.tk 1 (.ld 2 (tks 3 7 (.ld 10 (.tk 11 (.tk 12 (.big 13 .done)))))))) Zq (by kernel_rfl) ?_
 refine Zm 1 rfl (tk rfl (PE.indexArr Z4p rfl rfl (by omega) (by omega)) rfl (ld rfl rfl (lh (v:=.int .i64 (na (ld1 (na (Z14 s) i).toNat (ld0 s i) k) k)) sc3 rfl (Z4c (by omega) (by show 0+((k:Nat):Int).toNat*1=k;omega))) rfl (Zm 3 rfl (tk rfl (PE.nilCheck rfl) rfl (tk rfl (PE.fA Z9P rfl) rfl (tk rfl (PE.indexArr Zf0 rfl rfl (by omega) (by omega)) rfl (tk rfl (PE.indexArr Z4p rfl rfl (by omega) (by omega)) rfl (ld rfl rfl (lfB (sz:=48) (x:=.int .i64 (na Z5D ((na (Z14 s) i).toNat*4+k))) sc3 (Zc6 (by show _<36;omega) (by show 0+12+(na (Z14 s) i).toNat*4+((k:Nat):Int).toNat*1=_;omega))) rfl (tk rfl (PE.add rfl rfl (by omega)) rfl (tk rfl (PE.indexArr Z4p rfl rfl (by omega) (by omega)) rfl ?_))))))))))
 refine Z03 (l':=Zj (ld1 (na (Z14 s) i).toNat (ld0 s i) (k+1))) rfl rfl rfl cn3 rfl rfl rfl (Zbk (l:=ld1 (na (Z14 s) i).toNat (ld0 s i) k) (by omega) (by show 0+((k:Nat):Int).toNat*1=k;omega)) (by rw [Z6,hl1];show 0+((k:Nat):Int).toNat*1+1≤4;omega) ?_
 refine bgT (sqr 2 rfl (sp rfl (PE.add rfl rfl (by omega)) rfl (pur 1 rfl ?_)))
 exact Zb ⟨k+1,by omega⟩ idH
 obtain rfl:k=4:=by omega
 refine Z8 (Za (Za (Zn (sqr 2 rfl (sp rfl (PE.add rfl rfl (by omega)) rfl (pur 1 rfl ?_))))))
 exact Zb ⟨i+1,by omega⟩ idH
 obtain rfl:i=(Z14 s).length:=by omega
 have hl0:=Z4R s (Z14 s).length
 refine Z8 (Za (Za (Zn (sqt 2 rfl (spL rfl rfl (lhA (Zj (ldF s)) Zd3 rfl (by unfold ldF;simp;rfl) (by rw [Z6];exact hl0)) rfl ?_)))))
 refine Z03 (l':=Zj (ldF s)) rfl rfl rfl ZdA rfl (by show (Zj (ldF s)).length=4;rw [Z6];exact hl0) (Z06 _) (Zas (by show 4=(Zj (ldF s)).length;rw [Z6];exact hl0.symm)) (by show 0+(Zj (ldF s)).length≤4;rw [Z6,show (ldF s).length=4 from hl0];decide) ?_
 refine Z5 ?_
 exact Zk (vs:=[_]) rfl (.cons (RV.cell rfl (lhA (Zj (ldF s)) Zd3 rfl (by unfold ldF;simp;rfl) (by rw [Z6];exact hl0))) .nil) rfl ⟨rfl,rfl,rfl⟩ (fun w h=>St.sub ((h.del b5).del b4))
theorem Zfl (xq:Nat) (H:Z7) (R:Z4) :
    Fn Tryz.prog 131 [.pointer (some ⟨xq,0,none⟩)] H R (fun v H' R'=>∃ xb,v = .func (.func 163) #[] #[.pointer (some ⟨xb,0,none⟩)]∧H'=H∧R'=RowsA (some ⟨xb,0,none⟩) 1 [[.pointer (some ⟨xq,0,none⟩)]]::R):=by
 refine Z9 Tryz.func131 rfl Tryz.ntmps131 rfl ?_
 refine sqt 2 rfl (bx rfl rfl rfl (fun b1=>pur 1 rfl (sqt 2 rfl (sp rfl (PE.makeFunc rfl rfl) rfl (pur 1 rfl (Z5 ?_))))))
 refine Sy.heap (fun w h=>St.rows (sz:=1) (rows:=[[.pointer (some ⟨xq,0,none⟩)]]) (rest:=[]) (h.pull b1) (by simp)) ?_
 exact rtA rfl rfl rfl ⟨b1,rfl,rfl,rfl⟩ idH
set_option maxHeartbeats 400000 in
theorem Zdn (pa pb pc xq:Nat) (xb lp:Nat) (I:Nat→Z7→Z4→Prop) (hI:∀ k H R,I k H R→RowsA (some ⟨xb,0,none⟩) 1 [[.pointer (some ⟨xq,0,none⟩)]]∈R∧RowsA (some ⟨xq,0,none⟩) 48 [bdl pa pb pc Z5D]∈R)
    (hy:∀ s H R,s<8→I s H R→Yd Tryz.prog lp [.int .i64 (s:Int),(.agg (Zj (ldF s)).toArray)] H R (fun v H' R'=>v = .bool true∧I (s+1) H' R')) (H:Z7) (R:Z4) (h0:I 0 H R) :
    Fn Tryz.prog 163 [yv lp,.pointer (some ⟨xb,0,none⟩)] H R (fun _ H' R'=>I 8 H' R'):=by
 haveI:MemRows (some ⟨xb,0,none⟩) 1 [[.pointer (some ⟨xq,0,none⟩)]] R:=⟨(hI _ _ _ h0).1⟩
 haveI:MemRows (some ⟨xq,0,none⟩) 48 [bdl pa pb pc Z5D] R:=⟨(hI _ _ _ h0).2⟩
 refine Z9 Tryz.func163 rfl Tryz.ntmps163 rfl ?_
 refine sqt 8 rfl (spL rfl rfl (lfB (sz:=1) ZbK rfl) rfl (sp rfl (PE.nilCheck rfl) rfl (sp rfl (PE.fA ZdJ rfl) rfl (sp rfl (PE.fA Z1P rfl) rfl (spL rfl rfl (lfB (sz:=48) Z6U rfl) rfl (sp rfl (PE.lenSl Z5K rfl) rfl ?_))))))
 refine sp rfl ((PE.shlN (m:=1) (n:=3) rfl rfl rfl (by decide) (by decide)).to (show Value.int .i64 ((1*2 ^ 3:Nat):Int) = .int .i64 8 from rfl)) rfl ?_
 refine pur 1 rfl (Z1 ?_)
 refine Zc (ι:={x:Nat×Z7×Z4 // x.1≤8∧I x.1 x.2.1 x.2.2}) (fun x=>⟨[(0,yv lp),(1,.pointer (some ⟨xb,0,none⟩)),(10,.int .i64 8),(11,.int .i64 (x.1.1:Int))],x.1.2.1,x.1.2.2⟩) (fun x=>8-x.1.1) ⟨(0,H,R),Nat.zero_le _,h0⟩ ?_ (fun x=>?_)
 exact Zf idH
 obtain ⟨⟨s,H0,Q0⟩,hj,hI0⟩:=x
 dsimp only at hj hI0 ⊢
 haveI:MemRows (some ⟨xb,0,none⟩) 1 [[.pointer (some ⟨xq,0,none⟩)]] Q0:=⟨(hI _ _ _ hI0).1⟩
 haveI:MemRows (some ⟨xq,0,none⟩) 48 [bdl pa pb pc Z5D] Q0:=⟨(hI _ _ _ hI0).2⟩
 refine sqt 1 rfl (pur 1 rfl (Z0 ?_))
 refine Z2 rfl ?_ ?_<;>intro hc0<;>try simp only [cS] at hc0
 have hs:s<8:=by omega
 have hyy:=hy _ _ _ hs hI0
 refine Z3 (Z0 (Z1 (sqt 2 rfl (pur 2 rfl (sqt 12 rfl (spL rfl rfl (lfB (sz:=1) ZbK rfl) rfl (pur 1 rfl ?_)))))))
 refine clV rfl ZfQ rfl rfl (Zdr pa pb pc xq s hs _ _) ?_
 refine pur 1 rfl ?_
 refine Zv 17 rfl ?_ ?_<;>intro g17
 refine pur 2 rfl (Z1b rfl rfl rfl rfl rfl (lfB (sz:=1) ZbK rfl) rfl (pur 1 rfl ?_))
 refine Z4A rfl rfl rfl rfl ZfR rfl rfl (Zfj pa pb pc xq s hs _ _) ?_
 refine Zkp rfl rfl rfl rfl rfl rfl rfl (hyy) ?_
 rintro v H3 R3 ⟨rfl,hI3⟩
 refine pur 2 rfl ?_
 refine ZD rfl ?_
 refine Z3 (sqr 2 rfl (sp rfl (PE.add rfl rfl (by omega)) rfl (pur 1 rfl ?_)))
 exact Zb ⟨(s+1,H3,R3),by dsimp only;omega,hI3⟩ idH
 exact absurd g17 (by simp)
 obtain rfl:s=8:=by omega
 refine Z8 (Za (Za (Zn ?_)))
 exact Z0Q (vs:=[]) rfl .nil rfl hI0 idH
set_option maxHeartbeats 600000 in
theorem Z7O (pa pb pc xq:Nat) (H:Z7) (R:Z4) [hK:MemRows (some ⟨xq,0,none⟩) 48 [bdl pa pb pc Z5D] R] :
    FnV Tryz.prog 91 [.pointer (some ⟨xq,0,none⟩),.int .i64 0] H R (.tuple #[.int .i64 4,.int .i64 460]):=by
 refine Z1G Tryz.func91 rfl Tryz.ntmps91 rfl ?_
 refine sqt 3 rfl (bx rfl rfl rfl (fun b3=>pur 2 rfl (Z0 ?_)))
 refine Z2j (ι:=Nat×Nat) (fun y=>⟨[(0,.pointer (some ⟨xq,0,none⟩)),(3,.pointer (some ⟨b3,0,none⟩)),(6,.pointer (some ⟨y.1,0,none⟩)),(7,.pointer (some ⟨y.2,0,none⟩))],(y.1,cel 3 [.int .i64 ((hv 0).1:Nat)])::(y.2,cel 3 [.int .i64 (hv 0).2])::(b3,cel 3 [.int .i64 0])::H,R⟩) ?_ ?_
 refine Zd [0,0,1,5,15,31,0,0,192,511] (.tk 0 (.ld 1 (tks 2 3 (.ld 5 (.any (.alt 6 (.big 7 (.big 8 (.big 9 .done))) (.alt 7 (.big 6 (.big 8 (.big 9 .done))) .stop))))))) Zq (by kernel_rfl) ?_
 refine Zm 1 rfl (ld rfl rfl (lh sc3 rfl rfl) rfl (tk rfl (PE.nilCheck rfl) rfl (tk rfl (PE.fA Z4M rfl) rfl (tk rfl (PE.indexArr Z4p rfl rfl (by omega) (by omega)) rfl (ld rfl rfl (lfB (sz:=48) (x:=.int .i64 300) sc3 rfl) rfl ?_)))))
 refine Zs ?_ ?_
 refine alc rfl zl3 rfl (fun b6=>?_)
 refine bg (fun w hs=>⟨(lfB (sz:=48) (x:=.int .i64 300) sc3 rfl) w hs,(lh sc3 rfl rfl) w hs,trivial⟩) ?_
 refine alc rfl zl3 rfl (fun b7=>?_)
 refine bg (fun w hs=>⟨(lfB (sz:=48) (x:=.int .i64 300) sc3 rfl) w hs,(lh sc3 rfl rfl) w hs,trivial⟩) ?_
 refine sto rfl rfl rfl cn3 rfl rfl rfl rfl ?_
 refine bg (fun w hs=>⟨(lfB (sz:=48) (x:=.int .i64 300) sc3 rfl) w hs,(lh sc3 rfl rfl) w hs,trivial⟩) ?_
 refine sto rfl rfl rfl cn3 rfl rfl rfl rfl ?_
 refine bgT ?_
 exact Zh (b6,b7) (fun w h=>(h.pull b7).pull b6)
 refine Zs ?_ ?_
 refine alc rfl zl3 rfl (fun b7=>?_)
 refine bg (fun w hs=>⟨(lfB (sz:=48) (x:=.int .i64 300) sc3 rfl) w hs,(lh sc3 rfl rfl) w hs,trivial⟩) ?_
 refine alc rfl zl3 rfl (fun b6=>?_)
 refine bg (fun w hs=>⟨(lfB (sz:=48) (x:=.int .i64 300) sc3 rfl) w hs,(lh sc3 rfl rfl) w hs,trivial⟩) ?_
 refine sto rfl rfl rfl cn3 rfl rfl rfl rfl ?_
 refine bg (fun w hs=>⟨(lfB (sz:=48) (x:=.int .i64 300) sc3 rfl) w hs,(lh sc3 rfl rfl) w hs,trivial⟩) ?_
 refine sto rfl rfl rfl cn3 rfl rfl rfl rfl ?_
 refine bgT ?_
 exact Zh (b6,b7) (fun w h=>(h.pull b7).pull b6)
 exact ZO
 ·
  rintro ⟨b6,b7⟩
  dsimp only
  refine Z0 (sqt 2 rfl (pur 1 rfl ?_))
  refine cl rfl ZfB rfl rfl (Zfl xq _ _) ?_
  rintro _ _ _ ⟨xb,rfl,rfl,rfl⟩
  refine Z1 ?_
  refine Z0o rfl ZfP (fun c0 bl0 bd0 hcp0 hca0 hcb0 hck0=>?_)
  refine ⟨fun st pend T R'=>st = .ready∧pend=none∧T=(bd0,.deferred (some []))::(b6,cel 3 [.int .i64 ((hv (8)).1:Nat)])::(b7,cel 3 [.int .i64 (hv (8)).2])::(b3,cel 3 [.int .i64 0])::H∧R'=RowsA (some ⟨xb,0,none⟩) 1 [[.pointer (some ⟨xq,0,none⟩)]]::R,
    Fn.mono (Zdn pa pb pc xq xb bl0 (fun s H' R'=>H'=(bl0,lob c0 .ready none)::(bd0,.deferred (some []))::(b6,cel 3 [.int .i64 ((hv (s)).1:Nat)])::(b7,cel 3 [.int .i64 (hv (s)).2])::(b3,cel 3 [.int .i64 0])::H∧R'=RowsA (some ⟨xb,0,none⟩) 1 [[.pointer (some ⟨xq,0,none⟩)]]::R)
      (fun s H' R' h9=>by obtain ⟨_,rfl⟩:=h9;exact ⟨by simp,List.mem_cons_of_mem _ hK.mem⟩)
      (fun s H' R' hs h9=>?_) _ _ ⟨rfl,rfl⟩) (fun v H' R' h9=>?_),?_⟩
  rotate_left
  · obtain ⟨rfl,rfl⟩:=h9
    exact ⟨.ready,none,_,by simp,.refl _,rfl,rfl,rfl,rfl⟩
  rotate_left
  obtain ⟨rfl,rfl⟩:=h9
  have hlf:(ldF s).length=4:=Z4R s _
  refine Z4m hcp0 hca0 hcb0 hck0 rfl rfl ?_
  refine sqt 1 rfl (pur 1 rfl (sqr 2 rfl (alc rfl ZeG rfl (fun b9=>?_))))
  refine Z03 (l':=Zj (ldF s)) rfl rfl rfl ZdA rfl (by show (Zj (ldF s)).length=4;rw [Z6];exact hlf) (Z06 _) (Zas (by show _=(Zj (ldF s)).length;rw [Z6];exact hlf.symm)) (by show 0+(Zj (ldF s)).length≤4;rw [Z6,hlf];decide) ?_
  refine ZA ?_
  refine Z1 (Z0 ?_)
  refine Zd [0,1,3,0,15] (.ld 0 (.tk 1 (.ld 2 (.ld 3 (.tk 4 .done))))) Zq (by kernel_rfl) ?_
  refine ld rfl rfl (lh sc3 rfl rfl) rfl (tk rfl (PE.indexArr Z4p rfl rfl (by omega) (by omega)) rfl (ld rfl rfl (lh (v:=.int .i64 (na (ldF s) 0)) sc3 rfl (Z4c (by omega) rfl)) rfl (ld rfl rfl (lh sc3 rfl rfl) rfl (Zm 1 rfl ?_))))
  refine Z2 rfl ?_ ?_<;>intro hc0<;>try simp only [cS] at hc0
  have hst:hv (s+1)=(s,na (ldF s) 0):=by
    show (bif decide ((hv s).2<na (ldF s) 0) then _ else _)=_
    rw [dT (by omega)];rfl
  refine Zd [0,0,2,6,1,31] (.tk 0 (.ld 1 (.tk 2 (.ld 3 (.big 4 (.big 5 .done)))))) Zq (by kernel_rfl) ?_
  refine Zm 1 rfl (ld rfl rfl (lh sc3 rfl rfl) rfl (tk rfl (PE.indexArr Z4p rfl rfl (by omega) (by omega)) rfl (ld rfl rfl (lh (v:=.int .i64 (na (ldF s) 0)) sc3 rfl (Z4c (by omega) rfl)) rfl ?_)))
  refine sto rfl rfl rfl cn3 rfl rfl rfl rfl ?_
  refine bg (fun w hs=>⟨(lh (v:=.int .i64 (na (ldF s) 0)) sc3 rfl (Z4c (by omega) rfl)) w hs,(lh sc3 rfl rfl) w hs,trivial⟩) ?_
  refine sto rfl rfl rfl cn3 rfl rfl rfl rfl ?_
  refine bgT ?_
  exact Zi ⟨rfl,rfl,rfl⟩ (fun _ h9=>by rw [hst];exact h9.del b9)
  have hst:hv (s+1)=hv s:=by
    show (bif decide ((hv s).2<na (ldF s) 0) then _ else _)=_
    rw [dF (by omega)];rfl
  refine Z3 ?_
  exact Zi ⟨rfl,rfl,rfl⟩ (fun _ h9=>by rw [hst];exact h9.del b9)
  rintro _ _ _ _ ⟨rfl,rfl,rfl,rfl⟩
  rw [Zhj]
  refine Z40 ?_
  refine Z0 ?_
  refine Zd [0,0,1,7] (.ld 0 (.ld 1 (.tk 2 (.tk 3 .done)))) Zq (by kernel_rfl) ?_
  refine ld rfl rfl (lh sc3 rfl rfl) rfl (ld rfl rfl (lh sc3 rfl rfl) rfl (Zm 2 rfl (Z5 ?_)))
  exact ZF [bd0] (H:=H) (fun w h=>((h.del b7).del b6).del b3) rfl (.cons (RV.tmp rfl) (.cons (RV.tmp rfl) .nil)) rfl ⟨rfl,rfl,rfl⟩ (fun w h=>h.ftail)
theorem c_MostT (pa pb pc pd pe pf:Nat) (H:Z7) (R:Z4) [hA:MemRows (some ⟨pa,0,none⟩) 1 (irows [400,300]) R] [hB:MemRows (some ⟨pb,0,none⟩) 2 (Z0f (ZY pd pe pf)) R] [hC:MemRows (some ⟨pc,0,none⟩) 3 (Z0r trnF) R] [hD:MemRows (some ⟨pd,0,none⟩) 1 (irows (shs 0)) R] [hE:MemRows (some ⟨pe,0,none⟩) 1 (irows (shs 1)) R] [hF:MemRows (some ⟨pf,0,none⟩) 1 (irows (shs 2)) R] [hG:MemRows none 2 (Z0I []) R] :
    FnV Tryz.prog 45 [(.agg (fls pa pb pc).toArray),.int .i64 0] H R (.tuple #[.int .i64 460,.int .i64 0]):=by
 refine Z9 Tryz.func45 rfl Tryz.ntmps45 rfl ?_
 refine sqt 3 rfl (bx rfl rfl rfl (fun b2=>pur 2 rfl (Z0 ?_)))
 refine Zd [0,0,0,6,14,31,63,127,127,255,1023] (.ld 0 (.ld 1 (.tk 2 (.big 3 (.tk 4 (.big 5 (tks 6 5 .done))))))) Zq (by kernel_rfl) ?_
 refine ld rfl rfl (lhA (fls pa pb pc) Z1h rfl rfl rfl) rfl (ld rfl rfl (lhA (fls pa pb pc) Z1h rfl rfl rfl) rfl (Zm 1 rfl ?_))
 refine clV rfl Zj9 rfl rfl (Ziu pa pb pc 0 (by decide) _ _) ?_
 refine bg (fun w hs=>⟨trivial,(lhA (fls pa pb pc) Z1h rfl rfl rfl) w hs,trivial⟩) ?_
 refine Zm 1 rfl ?_
 refine cl rfl Zj8 rfl rfl (Z9b pa pb pc pd pe pf _ _) ?_
 rintro _ _ _ ⟨xq,rfl,rfl,rfl⟩
 refine bgT (Zm 5 rfl (Z0 (sqt 2 rfl (pur 2 rfl ?_))))
 refine Z2 rfl ?_ ?_<;>intro hc0
 exact absurd hc0 (by simp)
 refine Z3 (sqt 8 rfl (pur 2 rfl ?_))
 refine clV rfl Zja rfl rfl (Z7O pa pb pc xq _ _) ?_
 refine pur 5 rfl (sqt 3 rfl (pur 3 rfl (Z5 ?_)))
 exact rtB rfl rfl rfl rfl ⟨rfl,rfl,rfl⟩ (fun w h=>(h.del b2).ftail)
set_option maxHeartbeats 400000 in
theorem c_Two (H:Z7) (R:Z4) :
    Fn Tryz.prog 46 [.slice none 0 0] H R (fun v H' R'=>∃ pa pb pc pd pe pf,v=(.agg (fls pa pb pc).toArray)∧H'=H∧R'=RowsA none 2 (Z0I [])::RowsA (some ⟨pf,0,none⟩) 1 (irows (shs 2))::RowsA (some ⟨pe,0,none⟩) 1 (irows (shs 1))::RowsA (some ⟨pd,0,none⟩) 1 (irows (shs 0))::RowsA (some ⟨pc,0,none⟩) 3 (Z0r trnF)::RowsA (some ⟨pb,0,none⟩) 2 (Z0f (ZY pd pe pf))::RowsA (some ⟨pa,0,none⟩) 1 (irows [400,300])::R):=by
 refine Z9 Tryz.func46 rfl Tryz.ntmps46 rfl ?_
 refine sqt 1 rfl (alc rfl Zi5 rfl (fun b2=>sqt 15 rfl ?_))
 refine bsl (out:=[_,_]) rfl Z6a zl3 rfl rfl rfl rfl rfl rfl (fun b3=>?_)
 refine bsl (out:=[_,_]) rfl Z6a zl3 rfl rfl rfl rfl rfl rfl (fun b4=>?_)
 refine sp rfl (PE.build (out:=[_,_]) Ze8 Z8f rfl rfl) rfl ?_
 refine bsl (out:=[_,_]) rfl Z6a zl3 rfl rfl rfl rfl rfl rfl (fun b6=>?_)
 refine sp rfl (PE.build (out:=[_,_]) Ze8 Z8f rfl rfl) rfl ?_
 refine bsl (out:=[_,_]) rfl Z6a zl3 rfl rfl rfl rfl rfl rfl (fun b8=>?_)
 refine sp rfl (PE.build (out:=[_,_]) Ze8 Z8f rfl rfl) rfl ?_
 refine bsl (out:=[_,_,_,_,_,_]) rfl ZjQ Z8f rfl rfl rfl rfl rfl rfl (fun b10=>?_)
 refine sp rfl (PE.build (out:=[_,_,_]) Ze9 Z8g rfl rfl) rfl (sp rfl (PE.build (out:=[_,_,_]) Ze9 Z8g rfl rfl) rfl (sp rfl (PE.build (out:=[_,_,_]) Ze9 Z8g rfl rfl) rfl ?_))
 refine bsl (out:=[_,_,_,_,_,_,_,_,_]) rfl ZjR Z8g rfl rfl rfl rfl rfl rfl (fun b14=>?_)
 refine pur 1 rfl (sp rfl (PE.build (out:=[_,_,_,_]) ZjB Zi5 rfl rfl) rfl ?_)
 refine sto rfl rfl rfl Zjf rfl rfl rfl rfl ?_
 refine Z5 ?_
 refine Sy.heap (fun w h=>St.noR (sz:=2) (St.rows (b:=b8) (sz:=1) (rows:=irows (shs 2)) (rest:=[]) ((St.rows (b:=b6) (sz:=1) (rows:=irows (shs 1)) (rest:=[]) ((St.rows (b:=b4) (sz:=1) (rows:=irows (shs 0)) (rest:=[]) ((St.rows (b:=b14) (sz:=3) (rows:=Z0r trnF) (rest:=[]) ((St.rows (b:=b10) (sz:=2) (rows:=Z0f (ZY b4 b6 b8)) (rest:=[]) ((St.rows (b:=b3) (sz:=1) (rows:=irows [400,300]) (rest:=[]) ((h).pull b3) (by simp [Z0L,Z0X,ZY,trnF])).pull b10) (by simp [Z0L,Z0X,ZY,trnF])).pull b14) (by simp [Z0L,Z0X,ZY,trnF])).pull b4) (by simp [Z0L,Z0X,ZY,trnF])).pull b6) (by simp [Z0L,Z0X,ZY,trnF])).pull b8) (by simp [Z0L,Z0X,ZY,trnF]))) ?_
 exact Zk (vs:=[_]) rfl (.cons (RV.cell rfl (lhA (fls b3 b10 b14) Z1h rfl rfl rfl)) .nil) rfl ⟨b3,b10,b14,b4,b6,b8,rfl,rfl,rfl⟩ (fun w h=>h.del b2)
end Go.Proofs.YthijcgkicjljhaaGreat.Fl
