/- Walks of the functions of the program, and the laws that join them: what the last theorem of this claim needs, in order. -/
import Derived.Test.YtcfdanhklbklkaaGreatTd8
namespace Go.Proofs.YtcfdanhklbklkaaGreat.Sk
set_option linter.unusedSimpArgs false
set_option linter.unusedVariables false
open Go
theorem ZlI:cal Tryz.prog 199=true:=by kernel_rfl
theorem ZgW:cal Tryz.prog 203=true:=by kernel_rfl
theorem Z3j:cal Tryz.prog 224=true:=by kernel_rfl
theorem Zmh:cal Tryz.prog 252=true:=by kernel_rfl
theorem Zmi:cal Tryz.prog 253=true:=by kernel_rfl
theorem Zmj:cal Tryz.prog 254=true:=by kernel_rfl
theorem Zmk:cal Tryz.prog 255=true:=by kernel_rfl
theorem Zml:cal Tryz.prog 256=true:=by kernel_rfl
theorem Z9O:cal Tryz.prog 257=true:=by kernel_rfl
theorem ZgB {y:Yrd} (hy:y.ok) {A:List Int} (hl:A.length=y.flows.length) (hb:∀ i f,y.flows[i]?=some f→f.lo≤na A i∧na A i≤f.hi):AOk y.flows A:=⟨hl,fun i=>by
 by_cases h:i<y.flows.length
 · have h1:=hb i _ (Z4h h)
   have h2:=Z6J hy _ (List.mem_of_getElem? (Z4h h))
   omega
 · rw [ZdL (by omega)];omega⟩
theorem Feas.aok {y:Yrd} (hy:y.ok) {n:Nat} {A:List Int} (h:Feas n y.flows A):AOk y.flows A:=ZgB hy h.len h.bnd
def Znb (F:List Fl) (A:List Int) (n:Nat):Int:=match (Z04 F A n).findIdx? (fun v=>decide (0<v)) with | some k=>(k:Int) | none => -1
theorem Z8d {F:List Fl} {A:List Int} {n c:Nat} (h:c<n):(Z04 F A n)[c]?=some (ovr F A c):=by unfold Z04;rw [List.getElem?_map,List.getElem?_range h];rfl
theorem Zb7 (F:List Fl) (A:List Int) (n:Nat):(Znb F A n = -1∧∀ c,c<n→ovr F A c≤0)∨∃ c:Nat,Znb F A n=(c:Int)∧c<n∧0<ovr F A c:=by
 unfold Znb
 cases h:(Z04 F A n).findIdx? (fun v=>decide (0<v)) with
 | none =>
   refine .inl ⟨rfl,fun c hc=>?_⟩
   have h1:=List.findIdx?_eq_none_iff.1 h (ovr F A c) (List.mem_map.2 ⟨c,List.mem_range.2 hc,rfl⟩)
   have:=of_decide_eq_false h1
   omega
 | some k =>
   obtain ⟨hk,h1,_⟩:=List.findIdx?_eq_some_iff_getElem.1 h
   refine .inr ⟨k,rfl,by rw [ZP] at hk;exact hk,?_⟩
   have h2:=of_decide_eq_true h1
   rw [ZP] at hk
   have h3:=Z8d (F:=F) (A:=A) hk
   rw [List.getElem?_eq_getElem (by rw [ZP];exact hk),Option.some.injEq] at h3
   rwa [h3] at h2
theorem Zko {n:Nat} {F:List Fl} {A:List Int} {f c:Nat} {R:List Wy} (h:Tr n F A f R) {w:Wy} (hw:w∈R) (e:w.to F=c):byR F R c=some w:=by
 cases hb:byR F R c with
 | none=>exact absurd e (Z9E hb w hw)
 | some v =>
   obtain ⟨h1,h2⟩:=Z9F hb
   rw [Tr.uniq h h1 hw (h2.trans e.symm)]
theorem ZeB {n:Nat} {F:List Fl} {A:List Int} {f:Nat} {R:List Wy} (h:Tr n F A f R):Z0R F R f=[]:=by
 have:∀ {R:List Wy} {c:Nat},(∀ w∈R,w.to F≠c)→Z0R F R c=[]:=fun {R}=>by
   induction R with
   | nil=>intro c _;rfl
   | cons w R ih=>intro c hc;rw [Z3F (hc w (by simp))];exact ih (fun v hv=>hc v (by simp [hv]))
 refine this (fun w hw e=>?_)
 have hn:=ZcH h
 unfold dom at hn
 rw [List.nodup_append] at hn
 exact hn.2.2 _ (List.mem_map.2 ⟨w,hw,rfl⟩) _ (List.mem_singleton.2 rfl) e
theorem Z0s (xs:List Int) (a:Option Addr) (c g:Nat) (fst cap:List Value) (p:Int→Bool) (hg:cal Tryz.prog g=true) (hl:xs.length≤9223372036854775807) (H:Z6) (R:Z5) [hR:MemRows a 1 (irows xs) R] (hp:∀ x,x∈xs→FnV Tryz.prog g (fst++[.int .i64 x]++cap) H R (.bool (p x))) :
    FnV Tryz.prog 224 [.slice a xs.length c,.func (.func g) fst.toArray cap.toArray] H R (.int .i64 (match xs.findIdx? p with | some k=>(k:Int) | none => -1)):=by
 refine Zc Tryz.func224 rfl Tryz.ntmps224 rfl ?_
 refine sqt 1 rfl (pur 1 rfl (Z0 (sqt 3 rfl (pur 1 rfl (sp rfl (PE.lenSl ZO rfl) rfl (pur 1 rfl (Z2 ?_)))))))
 refine Zd (ι:={k:Nat // k≤xs.length∧∀ x∈xs.take k,p x=false}) (fun k=>⟨[(0,.slice a xs.length c),(1,.func (.func g) fst.toArray cap.toArray),(7,.int .i64 xs.length),(8,.int .i64 k.1)],H,R⟩) (fun k=>xs.length-k.1) ⟨0,by simp⟩ ?_ (fun k=>?_)
 exact Zf idH
 obtain ⟨k,hk,hn⟩:=k
 dsimp only
 refine sqt 1 rfl (pur 1 rfl (Z0 ?_))
 refine Z1 rfl ?_ ?_<;>intro hc0
 simp only [cS] at hc0
 obtain ⟨x,hx⟩:∃ x,xs[k]?=some x:=⟨_,List.getElem?_eq_getElem (by omega)⟩
 have hxm:=List.mem_of_getElem? hx
 refine Zj (a:=a) (sz:=1) (rows:=irows xs) (by cases xs<;>simp_all [irows]) (fun b off he=>?_)
 subst he
 refine Z3 (Z0 (Z2 (sqt 2 rfl (pur 2 rfl (sqt 6 rfl (pur 3 rfl (sp rfl (PE.indexAddr Z0D rfl rfl (by omega) (by omega)) rfl (spL rfl rfl (lf0 sc3 (by simp [irows,hx];rfl) rfl) rfl ?_))))))))
 refine Z2c rfl rfl (hg) rfl rfl (hp x hxm) ?_
 refine Z1 rfl ?_ ?_<;>intro hc1
 refine sqt 2 rfl (pur 2 rfl (Z4 ?_))
 first | (exact rtA rfl rfl rfl ⟨by rw [Zo hx hn hc1];rfl,rfl,rfl⟩ idH) | (exact rtA rfl rfl rfl ⟨by rw [Zm (by simpa using hn)];rfl,rfl,rfl⟩ idH)
 refine Z3 (sqr 2 rfl (sp rfl (PE.add rfl rfl (by omega)) rfl (pur 1 rfl ?_)))
 exact Zb ⟨k+1,by omega,ZB hx hn hc1⟩ idH
 simp only [cS] at hc0
 obtain rfl:k=xs.length:=by omega
 refine Z7 (Z8 (Z8 (Zi (sqt 1 rfl (pur 1 rfl (Z4 ?_))))))
 first | (exact rtA rfl rfl rfl ⟨by rw [Zo hx hn hc1];rfl,rfl,rfl⟩ idH) | (exact rtA rfl rfl rfl ⟨by rw [Zm (by simpa using hn)];rfl,rfl,rfl⟩ idH)
theorem Zfm (x:Fl) (H:Z6) (R:Z5) :
    FnV Tryz.prog 253 [.agg (Z0d x).toArray] H R (.bool (decide (x.lo≤x.hi))):=by
 refine Zc Tryz.func253 rfl Tryz.ntmps253 rfl ?_
 refine sqt 2 rfl (bx rfl rfl rfl (fun b1=>pur 1 rfl (sqt 6 rfl (sp rfl (PE.fA Z35 rfl) rfl (spL rfl rfl (lh (v:=.int .i64 x.lo) sc3 rfl rfl) rfl (sp rfl (PE.fA Z3T rfl) rfl (spL rfl rfl (lh (v:=.int .i64 x.hi) sc3 rfl rfl) rfl (pur 2 rfl (Z4 ?_)))))))))
 exact rtA rfl rfl rfl ⟨rfl,rfl,rfl⟩ drp
theorem Zfn (x:Int) (H:Z6) (R:Z5) :
    FnV Tryz.prog 255 [.int .i64 x] H R (.bool (decide (0<x))):=by
 refine Zc Tryz.func255 rfl Tryz.ntmps255 rfl ?_
 refine sqt 1 rfl (pur 1 rfl (sqt 3 rfl (pur 3 rfl (Z4 ?_))))
 exact rtA rfl rfl rfl ⟨rfl,rfl,rfl⟩ drp
theorem Zil (F:List Fl) (A:List Int) (n:Nat) (hn:n≤1000) (bv c:Nat) (H:Z6) (R:Z5) [hR:MemRows (some ⟨bv,0,none⟩) 1 (irows (Z04 F A n)) R]:FnV Tryz.prog 224 [.slice (some ⟨bv,0,none⟩) n c,.func (.func 255) ([]:List Value).toArray ([]:List Value).toArray] H R (.int .i64 (Znb F A n)):=by
 have h:=Z0s (Z04 F A n) (some ⟨bv,0,none⟩) c 255 [] [] (fun v=>decide (0<v)) Zmk (by rw [ZP];omega) H R (fun x hx=>Zfn x H R)
 rw [ZP] at h
 exact h
set_option maxHeartbeats 1200000 in
theorem Zip (d:DD) (hy:d.y.ok) (A0:List Int) (hl0:A0.length=d.y.flows.length) (hb0:∀ i f,d.y.flows[i]?=some f→f.lo≤na A0 i∧na A0 i≤f.hi) (hB:∃ B,Feas (d.y.cells+1) d.y.flows B) (H:Z6) (R:Z5) [hD:MemRows (some ⟨d.bd,0,none⟩) 6 [d.l] R] [hF:MemRows (some ⟨d.fb,0,none⟩) 4 (ZN d.y.flows) R] :
    Fn Tryz.prog 199 [.pointer (some ⟨d.bd,0,none⟩)] ((d.ba,cel 3 (Ze A0++d.J))::H) R (fun v H' R'=>∃ A,Feas (d.y.cells+1) d.y.flows A∧v = .tuple #[.int .i64 0,.bool false]∧H'=(d.ba,cel 3 (Ze A++d.J))::H∧R'=R):=by
 have hfl:=Z07 hy
 have hcl:=Z2H hy
 refine Zc Tryz.func199 rfl Tryz.ntmps199 rfl ?_
 refine sqt 2 rfl (pur 2 rfl (Z0 (sqt 6 rfl (pur 1 rfl (sp rfl (PE.nilCheck rfl) rfl (sp rfl (PE.fA Z1u rfl) rfl (spL rfl rfl (lfB (sz:=6) Z4s rfl) rfl ?_)))))))
 refine cl rfl Zmh rfl rfl (Z8H d.y.flows (some ⟨d.fb,0,none⟩) d.cf 253 [] [] (fun f=>decide (f.lo≤f.hi)) Zmi (by omega) _ _ (fun b9 b8 x hx=>Zfm x _ _)) ?_
 rintro _ _ R1 ⟨rfl,rfl,hR1⟩
 obtain rfl:=hR1.symm
 clear hR1
 rw [show (d.y.flows.all fun f=>decide (f.lo≤f.hi))=true from List.all_eq_true.2 fun f hf=>dT (by obtain ⟨i,hi⟩:=List.mem_iff_getElem?.1 hf;have:=hb0 i f hi;omega)]
 refine pur 1 rfl ?_
 refine Z1 rfl ?_ ?_<;>intro hc0
 exact absurd hc0 (by simp)
 refine Z3 (Z2 ?_)
 refine Zd (ι:={A:List Int // A.length=d.y.flows.length∧∀ i f,d.y.flows[i]?=some f→f.lo≤na A i∧na A i≤f.hi}) (fun A=>⟨[(0,.pointer (some ⟨d.bd,0,none⟩))],(d.ba,cel 3 (Ze A.1++d.J))::H,R⟩) (fun A=>(tot (d.y.cells+1) d.y.flows A.1).toNat) ⟨A0,hl0,hb0⟩ ?_ (fun A=>?_)
 exact Zf idH
 obtain ⟨A,hlA,hbA⟩:=A
 dsimp only at hlA hbA ⊢
 have hA:=ZgB hy hlA hbA
 refine Z2 (sqt 3 rfl (pur 1 rfl ?_))
 refine cl rfl Zmj rfl rfl (ZkH d hy A hA _ _) ?_
 rintro _ _ _ ⟨bv,rfl,rfl,rfl⟩
 refine pur 1 rfl (sqt 3 rfl (pur 1 rfl ?_))
 refine cl rfl Z3j rfl rfl (Zil d.y.flows A (d.y.cells+1) (by omega) bv (d.y.cells+1) _ _) ?_
 rintro _ _ R1 ⟨rfl,rfl,hR1⟩
 obtain rfl:=hR1.symm
 clear hR1
 have hfi:=Zb7 d.y.flows A (d.y.cells+1)
 refine pur 1 rfl (Z0 (sqt 2 rfl (pur 2 rfl ?_)))
 refine Z1 rfl ?_ ?_<;>intro hc1<;>try simp only [cS] at hc1
 have hle:∀ c,c<(d.y.cells+1)→ovr d.y.flows A c≤0:=by
   rcases hfi with ⟨_,h⟩ | ⟨c,e,_⟩
   · exact h
   · omega
 refine sqt 2 rfl (pur 2 rfl (Z4 ?_))
 exact rtB rfl rfl rfl rfl ⟨A,ZiP (fun g hg=>(Z0i hy g hg).1) hlA hbA hle,rfl,rfl,rfl⟩ (fun w h=>h.ftail)
 obtain ⟨c,hce,hcn,hcp⟩:∃ c:Nat,Znb d.y.flows A (d.y.cells+1)=(c:Int)∧c<(d.y.cells+1)∧0<ovr d.y.flows A c:=by
   rcases hfi with ⟨h,_⟩ | h
   · omega
   · exact h
 rw [hce]
 refine Z3 (sqt 4 rfl (pur 2 rfl ?_))
 refine cl rfl Zml rfl rfl (Zio d hy A hA c hcn _ _) ?_
 rintro _ _ _ ⟨m6,kv,Rl,rfl,hri,hkb,rfl,rfl⟩
 refine pur 1 rfl (sqt 1 rfl (pur 1 rfl (Z0 (sqt 3 rfl (pur 1 rfl (sp rfl (PE.lenSl ZO rfl) rfl (pur 1 rfl (Z2 ?_))))))))
 refine Zd (ι:={j:Nat // j≤(d.y.cells+1)∧∀ q,q<j→(byR d.y.flows Rl q).isSome=true→0≤ovr d.y.flows A q}) (fun j=>⟨[(0,.pointer (some ⟨d.bd,0,none⟩)),(4,.slice (some ⟨bv,0,none⟩) (d.y.cells+1) (d.y.cells+1)),(5,.int .i64 (c:Int)),(6,.map (some m6)),(7,.int .i64 (-1)),(32,.slice (some ⟨bv,0,none⟩) (d.y.cells+1) (d.y.cells+1)),(33,.int .i64 (((d.y.cells+1):Nat):Int)),(34,.int .i64 (j.1:Int))],(d.ba,cel 3 (Ze A++d.J))::H,MpF m6 kv::RowsA (some ⟨bv,0,none⟩) 1 (irows (Z04 d.y.flows A (d.y.cells+1)))::R⟩) (fun j=>(d.y.cells+1)-j.1) ⟨0,Nat.zero_le _,fun q h=>absurd h (Nat.not_lt_zero _)⟩ ?_ (fun j=>?_)
 exact Zf idH
 obtain ⟨j,hj,hnj⟩:=j
 dsimp only at hj hnj ⊢
 refine sqt 1 rfl (pur 1 rfl (Z0 ?_))
 refine Z1 rfl ?_ ?_<;>intro hc2
 try simp only [cS] at hc2
 refine Z3 (Z0 (Z2 (sqt 5 rfl (pur 1 rfl (sp rfl (PE.indexAddr Z0D rfl rfl (by omega) (by omega)) rfl (spL rfl rfl (lf0 sc3 (ir_get (Z8d (F:=d.y.flows) (A:=A) (n:=(d.y.cells+1)) (c:=j) (by omega))) rfl) rfl (pur 2 rfl (sqt 9 rfl (pur 2 rfl ?_)))))))))
 refine spK rfl rfl rfl (Zdv (b:=false) kv [(j:Int)] Z65 (KeyT.of Z2h Z2Y) (ZQ ZeL) rfl hkb.1 (fun w hs=>hs.now (f:=MpF m6 kv) (by simp)) true) rfl ?_
 rw [hkb.look]
 refine pur 3 rfl (alc rfl Z3e rfl (fun b10=>?_))
 refine Zy (l':=wyr ((byR d.y.flows Rl j).getD nwy)) rfl rfl rfl Z8Q rfl rfl rfl rfl (nl rfl) ?_
 refine pur 1 rfl (sqt 5 rfl (pur 2 rfl ?_))
 refine Zq 46 rfl ?_ ?_<;>intro g46
 refine pur 3 rfl ?_
 refine Z1 rfl ?_ ?_<;>intro hc3<;>try simp only [cS] at hc3
 have hjd:j∈dom d.y.flows c Rl:=byR_dom.2 (.inl g46)
 have hjc:j≠c:=fun e=>by rw [e] at hc3;omega
 have hv1:=Z8e hA (c:=c) d.y.flows.length
 have hv2:=Z8e hA (c:=j) d.y.flows.length
 rw [List.take_length] at hv1 hv2
 refine sqt 2 rfl (pur 2 rfl (Z7 (ZW (by decide) (Z8 (Z8 (Zi (Z0 (sqt 2 rfl (pur 2 rfl ?_)))))))))
 refine Z1 rfl ?_ ?_<;>intro hc4
 exact absurd hc4 (by simp)
 refine Z3 (sqt 1 rfl (pur 1 rfl (Z0 ?_)))
 refine Za [0,0,3,7,0,0,48,112,240,496,1023,2047] (tks 0 3 (.ld 3 (tks 4 3 (.ld 7 (.tk 8 (.big 9 (.big 10 (.tk 11 .done)))))))) Zl (by kernel_rfl) ?_
 refine Zg 2 rfl (tk rfl (PE.indexAddr Z0D rfl rfl (by omega) (by omega)) rfl (ld rfl rfl (lf0 sc3 (ir_get (Z8d (F:=d.y.flows) (A:=A) (n:=(d.y.cells+1)) (c:=c) (by omega))) rfl) rfl (Zg 2 rfl (tk rfl (PE.indexAddr Z0D rfl rfl (by omega) (by omega)) rfl (ld rfl rfl (lf0 sc3 (ir_get (Z8d (F:=d.y.flows) (A:=A) (n:=(d.y.cells+1)) (c:=j) (by omega))) rfl) rfl ?_)))))
 refine tk rfl ((PE.negW rfl).to (show Value.int .i64 (IntKind.i64.wrap (0-(ovr d.y.flows A j)))=Value.int .i64 (-(ovr d.y.flows A j)) by rw [IntWalk.i64_in _ (by omega)];congr 1;omega)) rfl ?_
 refine bsl (out:=[_]) rfl Z1H zl3 rfl rfl rfl rfl rfl rfl (fun b64=>?_)
 refine bg (fun w hs=>⟨trivial,(lf0 sc3 (ir_get (Z8d (F:=d.y.flows) (A:=A) (n:=(d.y.cells+1)) (c:=c) (by omega))) rfl) w hs,trivial⟩) ?_
 refine clV rfl Z7I rfl rfl (Z32 _ _ b64 _ _ _) ?_
 refine bgT (Zg 1 rfl (Z0 (sqt 2 rfl (pur 2 rfl (Z2 ?_)))))
 refine Zd (ι:=(x:{x:List Wy×Nat×Int // x.2.1∈dom d.y.flows c Rl∧x.1++Z0R d.y.flows Rl x.2.1=Z0R d.y.flows Rl j∧1≤x.2.2∧(x.2.2≤ovr d.y.flows A c∧x.2.2 ≤ -ovr d.y.flows A j)∧∀ w∈x.1,x.2.2≤w.res d.y.flows A})×OSl 312 2 (Zr x.1.1)) (fun x=>⟨[(0,.pointer (some ⟨d.bd,0,none⟩)),(4,.slice (some ⟨bv,0,none⟩) (d.y.cells+1) (d.y.cells+1)),(5,.int .i64 (c:Int)),(6,.map (some m6)),(12,x.2.fs),(13,.int .i64 x.1.1.2.2),(14,.int .i64 (x.1.1.2.1:Int))],x.2.G++(d.ba,cel 3 (Ze A++d.J))::H,MpF m6 kv::RowsA (some ⟨bv,0,none⟩) 1 (irows (Z04 d.y.flows A (d.y.cells+1)))::R⟩) (fun x=>(Z0R d.y.flows Rl x.1.1.2.1).length) ⟨⟨([],j,min (ovr d.y.flows A c) (-ovr d.y.flows A j)),hjd,rfl,by dsimp only;omega,⟨by dsimp only;omega,by dsimp only;omega⟩,fun w h=>by cases h⟩,OSl.nil _ _⟩ ?_ (fun x=>?_)
 exact Zf (fun w h=>(h.del b64).del b10)
 obtain ⟨⟨⟨P,a,mo⟩,had,hpt,hm1,hm2,hmr⟩,o⟩:=x
 dsimp only at had hpt hm1 hm2 hmr o ⊢
 refine Z0 (sqt 3 rfl (pur 3 rfl ?_))
 refine Z1 rfl ?_ ?_<;>intro hc5<;>try simp only [cS] at hc5
 obtain ⟨w9,hwR,hwt,hst⟩:=Tr.step hri.tr had (show a≠c by omega)
 have hby:=Zko hri.tr hwR hwt
 obtain ⟨hwo,hwd⟩:=Tr.ok hri.tr w9 hwR
 have hPs:(P++Z0R d.y.flows Rl a).Sublist Rl:=by rw [hpt];exact Z3G
 have hPl:=hPs.length_le
 have hrl:=ZeA hcn hri.tr
 rw [List.length_append] at hPl
 refine Z3 (Z0 (Z2 (sqt 7 rfl (pur 3 rfl ?_))))
 refine spK rfl rfl rfl (Z0J (b:=false) kv [(a:Int)] Z65 (KeyT.of Z2h Z2Y) (ZQ ZeL) rfl hkb.1 (fun w hs=>hs.now (f:=MpF m6 kv) (by simp)) ((hkb.val a).trans (congrArg (fun q=>wyv (Option.getD q nwy)) hby))) rfl ?_
 refine bsl (out:=[_,_]) rfl Zef Z3e rfl rfl rfl rfl rfl rfl (fun b79=>?_)
 refine apO (o) rfl Z8A rfl rfl (Z0y (row:=wyr w9) rfl) rfl rfl ((by simp only [Zr,List.length_map,List.length_cons,List.length_nil];omega)) rfl (fun o80=>?_)
 refine pur 1 rfl (sqt 10 rfl (pur 3 rfl ?_))
 refine spK rfl rfl rfl (Z0J (b:=false) kv [(a:Int)] Z65 (KeyT.of Z2h Z2Y) (ZQ ZeL) rfl hkb.1 (fun w hs=>hs.now (f:=MpF m6 kv) (by simp)) ((hkb.val a).trans (congrArg (fun q=>wyv (Option.getD q nwy)) hby))) rfl ?_
 refine clV rfl Z9K rfl rfl (Zfe d hy w9 hwo.1 A hA _ _) ?_
 refine pur 5 rfl (sqr 5 rfl (pur 2 rfl ?_))
 refine bsl (out:=[_]) rfl Z1H zl3 rfl rfl rfl rfl rfl rfl (fun b91=>?_)
 refine clV rfl Z7I rfl rfl (Z32 _ _ b91 _ _ _) ?_
 refine pur 1 rfl (sqr 6 rfl (pur 3 rfl ?_))
 refine spK rfl rfl rfl (Z0J (b:=false) kv [(a:Int)] Z65 (KeyT.of Z2h Z2Y) (ZQ ZeL) rfl hkb.1 (fun w hs=>hs.now (f:=MpF m6 kv) (by simp)) ((hkb.val a).trans (congrArg (fun q=>wyv (Option.getD q nwy)) hby))) rfl ?_
 refine clV rfl Z9O rfl rfl (Z6q d w9 hwo.1 _ _) ?_
 refine pur 1 rfl ?_
 exact Zv ⟨⟨(P++[w9],w9.fr d.y.flows,min mo (w9.res d.y.flows A)),hwd,by dsimp only;rw [List.append_assoc,← hpt,hst];rfl,by dsimp only;have:=hwo.2.1;omega,⟨by dsimp only;omega,by dsimp only;omega⟩,fun w hw=>by
   dsimp only
   rcases List.mem_append.1 hw with h9 | h9
   · have:=hmr w h9;omega
   · rw [List.mem_singleton.1 h9];omega⟩,o80.cast (by simp [Zr])⟩ (by dsimp only;rw [hst,List.length_cons];omega) sbA (fun w h=>(h.del b91).del b79)
 obtain rfl:a=c:=by omega
 rw [ZeB hri.tr,List.append_nil] at hpt
 have hPs:P.Sublist Rl:=by rw [hpt];exact Z3G
 have hPl:=hPs.length_le
 have hrl:=ZeA hcn hri.tr
 have hP0:P≠[]:=fun e=>by
   obtain ⟨w9,_,_,hst⟩:=Tr.step hri.tr hjd hjc
   rw [← hpt,e] at hst;cases hst
 obtain ⟨w0,hw0⟩:=List.exists_mem_of_ne_nil _ hP0
 have hk0:=(Tr.ok hri.tr w0 (hPs.subset hw0)).1
 have hm3:=hmr w0 hw0
 have hm4:mo≤300:=by
   have h1:=hA.bnd w0.i
   have h2:=Z6J hy _ (List.mem_of_getElem? (Z4h hk0.1))
   unfold Wy.res at hm3
   cases hmw:w0.more<;>rw [hmw] at hm3<;>simp only [cond_true,cond_false] at hm3<;>omega
 obtain ⟨pa,pc,he,hf⟩:=o.freeze
 rw [he,show (Zr P).length=P.length from List.length_map _]
 refine Sy.heap (fun w h=>hf h) ?_
 obtain ⟨hs1,hs2,hs3⟩:=Tr.send (k:=mo) hlA hbA hri.tr hcn hjd hm1 hm2.1 hm2.2 (by rw [← hpt];exact hmr)
 rw [← hpt] at hs1 hs2 hs3
 have ht0:=ZnQ (d.y.cells+1) d.y.flows (snd A P mo)
 refine Z7 (Z8 (Z8 (Zi (sqr 4 rfl (pur 3 rfl ?_)))))
 refine cl rfl ZgW rfl rfl (ZgH d hy A hlA (fun k=>by have:=hA.bnd k;omega) P (fun w hw=>(Tr.ok hri.tr w (hPs.subset hw)).1.1) (by omega) mo ⟨by omega,hm4⟩ pa pc _ _) ?_
 rintro _ _ _ ⟨rfl,rfl⟩
 exact Zb ⟨snd A P mo,hs1,hs2⟩ drp
 refine Z3 (sqr 2 rfl (sp rfl (PE.add rfl rfl (by omega)) rfl (pur 1 rfl ?_)))
 exact Zv ⟨j+1,by omega,fun q hq h1=>by
   by_cases e:q=j
   · subst e;omega
   · exact hnj q (by omega) h1⟩ (by dsimp only;omega) sbA (fun w h=>h.del b10)
 refine pur 3 rfl ?_
 refine Zt rfl ?_
 refine Z3 (sqr 2 rfl (sp rfl (PE.add rfl rfl (by omega)) rfl (pur 1 rfl ?_)))
 exact Zv ⟨j+1,by omega,fun q hq h1=>by
   by_cases e:q=j
   · subst e;rw [h1] at g46;cases g46
   · exact hnj q (by omega) h1⟩ (by dsimp only;omega) sbA (fun w h=>h.del b10)
 obtain ⟨B,hB⟩:=hB
 exact (Tr.stuck (fun g hg=>(Z0i hy g hg).1) hlA hcn (fun v h1 h2=>hri.cl v h1 h2 (fun h9=>by cases h9)) hcp (fun q hq hd=>by
   rcases byR_dom.1 hd with h1 | h1
   · simp only [cS] at hc2
     exact hnj q (by omega) h1
   · rw [h1];omega) hB).elim
theorem Zfj (d:DD) (hy:d.y.ok) (A0:List Int) (hl0:A0.length=d.y.flows.length) (hb0:∀ i f,d.y.flows[i]?=some f→f.lo≤na A0 i∧na A0 i≤f.hi) (hB:∃ B,Feas (d.y.cells+1) d.y.flows B) (H:Z6) (R:Z5) [hD:MemRows (some ⟨d.bd,0,none⟩) 6 [d.l] R] [hF:MemRows (some ⟨d.fb,0,none⟩) 4 (ZN d.y.flows) R] :
    Fn Tryz.prog 116 [.pointer (some ⟨d.bd,0,none⟩)] ((d.ba,cel 3 (Ze A0++d.J))::H) R (fun v H' R'=>∃ A,Feas (d.y.cells+1) d.y.flows A∧v = .bool true∧H'=(d.ba,cel 3 (Ze A++d.J))::H∧R'=R):=by
 refine Zc Tryz.func116 rfl Tryz.ntmps116 rfl ?_
 refine sqt 1 rfl (pur 1 rfl (sqt 7 rfl (pur 1 rfl ?_)))
 refine cl rfl ZlI rfl rfl (Zip d hy A0 hl0 hb0 hB _ _) ?_
 rintro _ _ _ ⟨A,hA,rfl,rfl,rfl⟩
 refine pur 5 rfl (sqt 3 rfl (pur 3 rfl (Z4 ?_)))
 exact rtA rfl rfl rfl ⟨A,hA,rfl,rfl,rfl⟩ idH
theorem ZhQ:Z0W Tryz.prog 235=some 2:=by kernel_rfl
theorem Zh2:cal Tryz.prog 259=true:=by kernel_rfl
theorem ZaE {sz:Nat} {row:List Value} (hr:row.length=sz):∀ {rows:List (List Value)} {k i:Nat},(∀ r∈rows,r.length=sz)→k<rows.length→i=k*sz→spl rows.flatten i row=(rows.set k row).flatten
 | r::rs,0,i,hs,_,e=>by
   rw [Nat.zero_mul] at e;subst e
   show spl (r++rs.flatten) 0 row=row++rs.flatten
   unfold spl
   rw [List.take_zero,List.nil_append,Nat.zero_add,hr,← hs r (by simp),List.drop_left]
 | r::rs,k+1,i,hs,hk,e=>by
   have ih:=ZaE hr (rows:=rs) (k:=k) (i:=k*sz) (fun q hq=>hs q (by simp [hq])) (by simpa using hk) rfl
   rw [Nat.succ_mul] at e;subst e
   show spl (r++rs.flatten) (k*sz+sz) row=r++(rs.set k row).flatten
   rw [← ih]
   have h0:=hs r (by simp)
   unfold spl
   rw [show k*sz+sz=r.length+k*sz by omega,List.take_length_add_append,List.append_assoc,List.append_assoc,List.append_assoc,show r.length+k*sz+row.length=r.length+(k*sz+row.length) by omega,List.drop_length_add_append]
theorem Z1z {sz:Nat}:∀ {rows:List (List Value)} {k:Nat} {row:List Value},(∀ r∈rows,r.length=sz)→rows[k]?=some row→rows.flatten.drop (k*sz)=row++(rows.drop (k+1)).flatten
 | r::rs,0,row,hs,h=>by
   simp only [List.getElem?_cons_zero,Option.some.injEq] at h
   subst h;rw [Nat.zero_mul];rfl
 | r::rs,k+1,row,hs,h=>by
   have ih:=Z1z (rows:=rs) (k:=k) (row:=row) (fun q hq=>hs q (by simp [hq])) (by simpa using h)
   have h0:=hs r (by simp)
   show (r++rs.flatten).drop ((k+1)*sz)=row++(rs.drop (k+1)).flatten
   rw [← ih,Nat.succ_mul,show k*sz+sz=r.length+k*sz by omega,List.drop_length_add_append]
def fnL {α:Type} (f:Nat→α) (n:Nat):List α:=(List.range n).map f
theorem Z0t {α:Type} (f:Nat→α) (n:Nat):(fnL f n).length=n:=by simp [fnL]
theorem Z1Q {α:Type} {f:Nat→α} {n k:Nat} (h:k<n):(fnL f n)[k]?=some (f k):=by unfold fnL;rw [List.getElem?_map,List.getElem?_range h];rfl
theorem ZcP {α:Type} {f:Nat→α} {n k:Nat} {v:α}:(fnL f n).set k v=fnL (upd f k v) n:=by
 refine List.ext_getElem? fun q=>?_
 rw [List.getElem?_set,Z0t]
 by_cases hq:q<n
 · rw [Z1Q hq,Z1Q hq]
   by_cases e:k=q
   · subst e;rw [if_pos rfl,if_pos hq,Z08]
   · rw [if_neg e,ZZ (fun h=>e h.symm)]
 · rw [List.getElem?_eq_none (by rw [Z0t];omega),List.getElem?_eq_none (by rw [Z0t];omega)]
   by_cases e:k=q
   · rw [if_pos e,if_neg (by omega)]
   · rw [if_neg e]
theorem Z5Y {f:Nat→Int} {n k:Nat} (h:k<n):na (fnL f n) k=f k:=Z94 (Z1Q h)
theorem ZcO {α:Type} (v:α) (n:Nat):fnL (fun _=>v) n=List.replicate n v:=by
 refine List.ext_getElem? fun q=>?_
 rw [List.getElem?_replicate]
 by_cases h:q<n
 · rw [Z1Q h,if_pos h]
 · rw [List.getElem?_eq_none (by rw [Z0t];omega),if_neg h]
theorem Z2D (l:List Wy):∀ r∈Zr l,r.length=2:=fun r hr=>by obtain ⟨x,_,rfl⟩:=List.mem_map.1 hr;rfl
theorem ZjT (l:List Wy):(Zr l).flatten.length=l.length*2:=by rw [Z06 (Z2D l),List.length_map]
structure BFx (n:Nat) (F:List Fl) (A:List Int) (wt:Nat→Int) (r c j:Nat) (a:Option Nat) (s:BFs):Prop where
 bfi:BFI n F A wt r c s
 pn:∀ c,0≤s.p c∧s.p c≤s.now
 nb:s.now≤r*1470+c*70+j
 non:a=none→∀ c,s.rk c≤r
 som:a≠none→r+1<n
def atI:Option Nat→Int
 | none => -1
 | some c=>(c:Int)
theorem BFx.start {n:Nat} {F:List Fl} {A:List Int} {wt:Nat→Int} {c0:Nat} (b:Wy):BFx n F A wt 0 0 0 none ⟨fun _=>0,fun _=>b,fun _=>0,fun _=>0,0⟩:=⟨BFI.start b,fun _=>⟨Int.le_refl _,Int.le_refl _⟩,Nat.le_refl _,fun _ _=>Nat.le_refl _,fun h=>absurd rfl h⟩
theorem BFx.next {n:Nat} {F:List Fl} {A:List Int} {wt:Nat→Int} {r c j:Nat} {a:Option Nat} {s:BFs} (h:BFx n F A wt r c j a s) (hj:j≤69) (hc:s.calm n F A wt c):BFx n F A wt r (c+1) 0 a s:=by
 have h1:=h.nb
 have h2:s.now≤r*1470+(c+1)*70+0:=by rw [Nat.add_mul c 1 70,Nat.add_zero];generalize r*1470=x at h1 ⊢;generalize c*70=z at h1 ⊢;omega
 exact ⟨h.bfi.next (fun _=>hc),h.pn,h2,h.non,h.som⟩
theorem BFx.j {n:Nat} {F:List Fl} {A:List Int} {wt:Nat→Int} {r c j:Nat} {a:Option Nat} {s:BFs} (h:BFx n F A wt r c j a s):BFx n F A wt r c (j+1) a s:=⟨h.bfi,h.pn,by have:=h.nb;omega,h.non,h.som⟩
theorem BFx.round {n:Nat} {F:List Fl} {A:List Int} {wt:Nat→Int} {r:Nat} {a:Option Nat} {s:BFs} (h:BFx n F A wt r n 0 a s) (hn:n≤21):BFx n F A wt (r+1) 0 0 none s:=⟨h.bfi.round,h.pn,by have:=h.nb;omega,fun _ c=>h.bfi.rk_le c,fun h=>absurd rfl h⟩
theorem BFx.put_rk {n:Nat} {F:List Fl} {wt:Nat→Int} {r:Nat} {s:BFs} (v:Wy):(s.put F wt r v).rk (v.to F)=r+1:=Z08
theorem BFx.put_bd {F:List Fl} {wt:Nat→Int} {r:Nat} {s:BFs} {v:Wy} (h:∀ c,0≤s.p c∧s.p c≤s.now) (hg : -1≤v.g wt∧v.g wt≤1) (hl:s.p (v.to F)<s.p (v.fr F)+v.g wt):∀ c,0≤(s.put F wt r v).p c∧(s.put F wt r v).p c≤(s.put F wt r v).now:=fun c=>by
 have h1:=h (v.fr F);have h2:=h (v.to F);have h3:=h c
 show 0≤upd s.p (v.to F) (s.p (v.fr F)+v.g wt) c∧upd s.p (v.to F) (s.p (v.fr F)+v.g wt) c≤((s.now+1:Nat):Int)
 by_cases e:c=v.to F
 · rw [e,Z08];omega
 · rw [ZZ e];omega
theorem BFx.put {n:Nat} {F:List Fl} {A:List Int} {wt:Nat→Int} {r c j:Nat} {a:Option Nat} {s:BFs} (h:BFx n F A wt r c j a s) {v:Wy} (hv:v.ok n F A) (hc:v.fr F=c) (hs:v.fr F≠v.to F) (hl:s.p (v.to F)<s.p (v.fr F)+v.g wt) (hg : -1≤v.g wt∧v.g wt≤1) (hr:r+1<n):BFx n F A wt r c (j+1) (some (v.to F)) (s.put F wt r v) :=
 ⟨h.bfi.put hv hc hs hl,BFx.put_bd h.pn hg hl,(by have:=h.nb;show s.now+1≤_;omega),fun h=>(by cases h),fun _=>hr⟩
def Dn (F:List Fl) (wt:Nat→Int) (s:BFs) (l:List Wy):Prop:=∀ v∈l,s.p (v.fr F)+v.g wt≤s.p (v.to F)
theorem Dn.snoc {F:List Fl} {wt:Nat→Int} {s:BFs} {l:List Wy} {w:Wy} (h:Dn F wt s l) (hw:s.p (w.fr F)+w.g wt≤s.p (w.to F)):Dn F wt s (l++[w]):=fun v hv=>by
 rcases List.mem_append.1 hv with hv | hv
 · exact h v hv
 · rw [List.mem_singleton.1 hv];exact hw
theorem Dn.put {F:List Fl} {wt:Nat→Int} {s:BFs} {l:List Wy} {w:Wy} {r c:Nat} (h:Dn F wt s l) (hl:∀ v∈l,v.fr F=c) (hc:w.fr F=c) (hs:w.fr F≠w.to F) (hg:s.p (w.to F)<s.p (w.fr F)+w.g wt):Dn F wt (s.put F wt r w) (l++[w]):=fun v hv=>by
 have hne:c≠w.to F:=by rw [← hc];exact hs
 show upd s.p (w.to F) (s.p (w.fr F)+w.g wt) (v.fr F)+v.g wt≤upd s.p (w.to F) (s.p (w.fr F)+w.g wt) (v.to F)
 rcases List.mem_append.1 hv with hv | hv
 · have h1:=h v hv
   rw [hl v hv] at h1 ⊢
   rw [ZZ hne]
   by_cases e:v.to F=w.to F
   · rw [e,Z08];rw [e] at h1;omega
   · rw [ZZ e];exact h1
 · rw [List.mem_singleton.1 hv,Z08,hc,ZZ hne];omega
theorem Z5p (F:List Fl) (s:BFs):∀ (k c:Nat),s.path F (k+1) c=s.path F k c++[s.by_ (s.at_ F k c)]
 | 0,c=>rfl
 | k+1,c=>by
   show s.by_ c::s.path F (k+1) ((s.by_ c).fr F)=(s.by_ c::s.path F k ((s.by_ c).fr F))++[s.by_ (s.at_ F k ((s.by_ c).fr F))]
   rw [Z5p F s k];rfl
theorem Z8B (F:List Fl) (s:BFs) (k c:Nat):s.at_ F (k+1) c=(s.by_ (s.at_ F k c)).fr F:=by rw [s.at_add F k 1 c];rfl
set_option maxHeartbeats 2400000 in
theorem Zfb (d:DD) (hy:d.y.ok) (A:List Int) (hf:Feas (d.y.cells+1) d.y.flows A) (g:Nat) (vf vc:List Value) (S:Nat→Bool) (less:Bool) (G:Z5) (hcal:cal Tryz.prog g=true) (hg:∀ (i:Nat) (H:Z6) (R:Z5) [SubF G R],FnV Tryz.prog g (vf++[.int .i64 (i:Int)]++vc) H R (.bool (S i))) (H:Z6) (R:Z5) [hD:MemRows (some ⟨d.bd,0,none⟩) 6 [d.l] R] [hF:MemRows (some ⟨d.fb,0,none⟩) 4 (ZN d.y.flows) R] [hM:Mem1 d.ba (cel 3 (Ze A++d.J)) H] [hG:SubF G R] :
    Fn Tryz.prog 200 [.pointer (some ⟨d.bd,0,none⟩),.agg (Z84 g vf vc less).toArray] H R (fun v H' R'=>(v=ZeR∧H'=H∧R'=R∧∀ B,Feas (d.y.cells+1) d.y.flows B→Z0b (wtl S less) B≤Z0b (wtl S less) A)∨∃ l pb pc b,v = .slice (some ⟨pb,0,none⟩) l.length pc∧H'=H∧R'=RowsA (some ⟨pb,0,none⟩) 2 (Zr l)::R∧(l≠[]∧l.length≤(d.y.cells+1))∧0<wth (wtl S less) l∧l.Nodup∧chn d.y.flows l b b∧∀ w∈l,w.ok (d.y.cells+1) d.y.flows A):=by
 have hfl:=Z07 hy
 have hcl:=Z2H hy
 have hA:=hf.aok hy
 refine Zc Tryz.func200 rfl Tryz.ntmps200 rfl ?_
 refine sqt 2 rfl (bx rfl rfl rfl (fun b3=>pur 1 rfl (Z7p (sqt 4 rfl (pur 1 rfl ?_)))))
 refine clV rfl Z4e rfl rfl (Z2g d.y d.a1 d.a2 d.a3 d.k1 d.k2 d.k3 hy d.bd _ _ (DKp.fact (sz:=6) (row:=d.l) (x:=[_,_]) rfl)) ?_
 refine sp rfl (PE.add rfl rfl (by omega)) rfl (pur 1 rfl (Z0 ?_))
 refine ZaM (ι:=Nat×Nat) (fun x=>⟨[(0,.pointer (some ⟨d.bd,0,none⟩)),(3,.pointer (some ⟨b3,0,none⟩)),(5,.int .i64 (((d.y.cells+1):Nat):Int)),(6,.slice (some ⟨x.1,0,none⟩) (d.y.cells+1) (d.y.cells+1)),(7,.slice (some ⟨x.2,0,none⟩) (d.y.cells+1) (d.y.cells+1))],(x.1,cel 3 (Z1x (d.y.cells+1) [.int .i64 0]))::(x.2,cel 312 (Z1x (d.y.cells+1) (wyr nwy)))::(b3,cel 235 (Z84 g vf vc less))::H,R⟩) ?_ ?_
 refine Za [0,1,0,4,3,31] (.tk 0 (.tk 2 (.any (.alt 1 (.tk 4 (.big 3 (.tk 5 .done))) (.alt 3 (.big 1 (.tk 4 (.tk 5 .done))) .stop))))) Zl (by kernel_rfl) ?_
 rw [show ((d.y.cells:Nat):Int)+1=(((d.y.cells+1):Nat):Int) by omega]
 refine Zg 2 rfl ?_
 refine ZL ?_ ?_
 refine mkS (l:=(d.y.cells+1)) (c:=(d.y.cells+1)) rfl Z6j zl3 rfl rfl (Nat.le_refl _) ⟨by omega,by omega⟩ rfl (fun b22=>?_)
 refine bgT (Zg 1 rfl ?_)
 refine mkS (l:=(d.y.cells+1)) (c:=(d.y.cells+1)) rfl Z8A Z3e rfl rfl (Nat.le_refl _) ⟨by omega,by omega⟩ rfl (fun b24=>?_)
 refine bgT (Zg 1 rfl ?_)
 exact Z0I (b22,b24) (fun w h=>(h.pull b24).pull b22)
 refine ZL ?_ ?_
 refine mkS (l:=(d.y.cells+1)) (c:=(d.y.cells+1)) rfl Z8A Z3e rfl rfl (Nat.le_refl _) ⟨by omega,by omega⟩ rfl (fun b24=>?_)
 refine bgT ?_
 refine mkS (l:=(d.y.cells+1)) (c:=(d.y.cells+1)) rfl Z6j zl3 rfl rfl (Nat.le_refl _) ⟨by omega,by omega⟩ rfl (fun b22=>?_)
 refine bgT (Zg 2 rfl ?_)
 exact Z0I (b22,b24) (fun w h=>(h.pull b24).pull b22)
 exact Z0f
 rintro ⟨b22,b24⟩
 dsimp only
 rw [ZnG,← Z1A,show List.replicate (d.y.cells+1) (wyr nwy)=Zr (List.replicate (d.y.cells+1) nwy) by simp [Zr],← ZcO,← ZcO]
 refine sqt 3 rfl (pur 1 rfl ?_)
 refine cl rfl Zh1 rfl rfl (ZgI d hy A hA _ _) ?_
 rintro _ _ _ ⟨m6,kv6,sl6,rfl,hwk,rfl,rfl⟩
 refine pur 1 rfl (sqt 1 rfl (pur 1 rfl (Z0 (Z7o (Z0 (sqt 2 rfl (pur 2 rfl (Z2 ?_))))))))
 refine Zd (ι:={x:Nat×Int×BFs // x.1<(d.y.cells+1)∧BFx (d.y.cells+1) d.y.flows A (wtl S less) x.1 0 0 none x.2.2}) (fun x=>⟨[(0,.pointer (some ⟨d.bd,0,none⟩)),(3,.pointer (some ⟨b3,0,none⟩)),(5,.int .i64 (((d.y.cells+1):Nat):Int)),(6,.slice (some ⟨b22,0,none⟩) (d.y.cells+1) (d.y.cells+1)),(7,.slice (some ⟨b24,0,none⟩) (d.y.cells+1) (d.y.cells+1)),(8,.map (some m6)),(9,.int .i64 x.1.2.1),(27,.int .i64 (((d.y.cells+1):Nat):Int)),(28,.int .i64 (x.1.1:Int))],(b22,cel 3 (Ze (fnL (x.1.2.2).p (d.y.cells+1))))::(b24,cel 312 (Zr (fnL (x.1.2.2).by_ (d.y.cells+1))).flatten)::(b3,cel 235 (Z84 g vf vc less))::H,Z9x m6 kv6 sl6 (Z1g d.y.flows A d.y.flows.length)::R⟩) (fun x=>(d.y.cells+1)-x.1.1) ⟨(0,-1,⟨fun _=>0,fun _=>nwy,fun _=>0,fun _=>0,0⟩),by dsimp only;omega,BFx.start (c0:=0) nwy⟩ ?_ (fun x=>?_)
 exact Zf idH
 obtain ⟨⟨r,a0,s0⟩,hr,hb0⟩:=x
 dsimp only at hr hb0 ⊢
 refine sqt 1 rfl (pur 1 rfl (Z0 ?_))
 refine Z1 rfl ?_ ?_<;>intro hc0
 refine Z3 (Z0 (Z2 (sqt 2 rfl (pur 2 rfl (sqt 1 rfl (pur 1 rfl (Z0 (sqt 2 rfl (pur 2 rfl (Z2 ?_))))))))))
 refine Zd (ι:={x:Nat×Option Nat×BFs // x.1≤(d.y.cells+1)∧BFx (d.y.cells+1) d.y.flows A (wtl S less) r x.1 0 x.2.1 x.2.2}) (fun x=>⟨[(0,.pointer (some ⟨d.bd,0,none⟩)),(3,.pointer (some ⟨b3,0,none⟩)),(5,.int .i64 (((d.y.cells+1):Nat):Int)),(6,.slice (some ⟨b22,0,none⟩) (d.y.cells+1) (d.y.cells+1)),(7,.slice (some ⟨b24,0,none⟩) (d.y.cells+1) (d.y.cells+1)),(8,.map (some m6)),(10,.int .i64 (r:Int)),(27,.int .i64 (((d.y.cells+1):Nat):Int)),(28,.int .i64 (r:Int)),(31,.int .i64 (((d.y.cells+1):Nat):Int)),(9,.int .i64 (atI x.1.2.1)),(32,.int .i64 (x.1.1:Int))],(b22,cel 3 (Ze (fnL (x.1.2.2).p (d.y.cells+1))))::(b24,cel 312 (Zr (fnL (x.1.2.2).by_ (d.y.cells+1))).flatten)::(b3,cel 235 (Z84 g vf vc less))::H,Z9x m6 kv6 sl6 (Z1g d.y.flows A d.y.flows.length)::R⟩) (fun x=>(d.y.cells+1)-x.1.1) ⟨(0,none,s0),Nat.zero_le _,hb0⟩ ?_ (fun x=>?_)
 exact Zf idH
 obtain ⟨⟨c,a,s⟩,hc,hbs⟩:=x
 dsimp only at hc hbs ⊢
 refine sqt 1 rfl (pur 1 rfl (Z0 ?_))
 refine Z1 rfl ?_ ?_<;>intro hc1<;>try simp only [cS] at hc1
 refine Z3 (Z0 (Z2 (sqt 2 rfl (pur 2 rfl (sqt 5 rfl (pur 2 rfl ?_))))))
 refine spK rfl rfl rfl (Z0J (b:=false) kv6 [(c:Int)] Z4k (KeyT.of Z2h Z2Y) (ZQ Zbq) rfl hwk.1 (fun w hs=>(hs.now (f:=Z9x m6 kv6 sl6 (Z1g d.y.flows A d.y.flows.length)) (by simp)).1) (hwk.2 c)) rfl ?_
 refine Sy.heap (R':=RowsA (sl6 c).1 2 (Zr ((Z1g d.y.flows A d.y.flows.length) c))::Z9x m6 kv6 sl6 (Z1g d.y.flows A d.y.flows.length)::R) (fun w h=>St.wysAt (m:=m6) (kv:=kv6) (sl:=sl6) (W:=(Z1g d.y.flows A d.y.flows.length)) h c) ?_
 generalize (sl6 c).1=a9
 generalize (sl6 c).2=c9
 refine sp rfl (PE.lenSl Z5k rfl) rfl (pur 1 rfl (Z2 ?_))
 refine Zd (ι:={x:Nat×Option Nat×BFs // x.1≤((Z1g d.y.flows A d.y.flows.length) c).length∧BFx (d.y.cells+1) d.y.flows A (wtl S less) r c x.1 x.2.1 x.2.2∧Dn d.y.flows (wtl S less) x.2.2 (((Z1g d.y.flows A d.y.flows.length) c).take x.1)}) (fun x=>⟨[(0,.pointer (some ⟨d.bd,0,none⟩)),(3,.pointer (some ⟨b3,0,none⟩)),(5,.int .i64 (((d.y.cells+1):Nat):Int)),(6,.slice (some ⟨b22,0,none⟩) (d.y.cells+1) (d.y.cells+1)),(7,.slice (some ⟨b24,0,none⟩) (d.y.cells+1) (d.y.cells+1)),(8,.map (some m6)),(10,.int .i64 (r:Int)),(27,.int .i64 (((d.y.cells+1):Nat):Int)),(28,.int .i64 (r:Int)),(31,.int .i64 (((d.y.cells+1):Nat):Int)),(11,.int .i64 (c:Int)),(32,.int .i64 (c:Int)),(37,.slice a9 ((Z1g d.y.flows A d.y.flows.length) c).length c9),(38,.int .i64 (((Z1g d.y.flows A d.y.flows.length) c).length:Int)),(9,.int .i64 (atI x.1.2.1)),(39,.int .i64 (x.1.1:Int))],(b22,cel 3 (Ze (fnL (x.1.2.2).p (d.y.cells+1))))::(b24,cel 312 (Zr (fnL (x.1.2.2).by_ (d.y.cells+1))).flatten)::(b3,cel 235 (Z84 g vf vc less))::H,RowsA a9 2 (Zr ((Z1g d.y.flows A d.y.flows.length) c))::Z9x m6 kv6 sl6 (Z1g d.y.flows A d.y.flows.length)::R⟩) (fun x=>((Z1g d.y.flows A d.y.flows.length) c).length-x.1.1) ⟨(0,a,s),Nat.zero_le _,hbs,fun v h=>by cases h⟩ ?_ (fun x=>?_)
 exact Zf idH
 obtain ⟨⟨j,a1,s1⟩,hj,hb1,hdn⟩:=x
 dsimp only at hj hb1 hdn ⊢
 refine sqt 1 rfl (pur 1 rfl (Z0 ?_))
 refine Z1 rfl ?_ ?_<;>intro hc2<;>try simp only [cS] at hc2
 obtain ⟨w9,hw9⟩:∃ x,((Z1g d.y.flows A d.y.flows.length) c)[j]?=some x:=⟨_,List.getElem?_eq_getElem (by omega)⟩
 have hwl:=Z2Q d.y.flows A c d.y.flows.length
 obtain ⟨hwo,hwf⟩:=(Z5C (fun g hg=>(Z0i hy g hg).1)).1 (List.mem_of_getElem? hw9)
 have htk:((Z1g d.y.flows A d.y.flows.length) c).take (j+1)=((Z1g d.y.flows A d.y.flows.length) c).take j++[w9]:=by rw [List.take_add_one,hw9];rfl
 obtain ⟨hwi,hw1,hwn1,hwn2⟩:=hwo
 have hfne:w9.fr d.y.flows≠w9.to d.y.flows:=by
   have:=(Z0i hy _ (List.mem_of_getElem? (Z4h hwi))).2
   unfold Wy.fr Wy.to
   cases w9.more<;>simp only [cond_true,cond_false]<;>omega
 have hpc:=hb1.pn c
 have hpt:=hb1.pn (w9.to d.y.flows)
 have hnb:=hb1.nb
 have hgb:=Zq1 S less w9
 refine Zj (a:=a9) (sz:=2) (rows:=Zr ((Z1g d.y.flows A d.y.flows.length) c)) (ZV (Z28 hw9)) (fun bp op he=>?_)
 subst he
 refine Z3 (Z0 (Z2 (sqt 4 rfl (sp rfl (PE.indexAddr Z5L rfl rfl (by omega) (by omega)) rfl (spL rfl rfl (lfA Z2a (Z28 hw9) rfl) rfl (alc rfl Z3e rfl (fun b13=>?_)))))))
 refine Zy (l':=wyr w9) rfl rfl rfl Z8Q rfl rfl rfl rfl (nl rfl) ?_
 refine sqt 8 rfl (pur 1 rfl (spL rfl rfl (lhA (wyr w9) Z2a rfl (rest:=[]) rfl rfl) rfl ?_))
 refine clV rfl Z9K rfl rfl (Zfe d hy w9 hwi A hA _ _) ?_
 refine pur 5 rfl (Z0 ?_)
 refine Za [0,0,3,7,0,0,48,127,0,0,768,1792,4095] (tks 0 3 (.ld 3 (.ld 4 (.ld 5 (tks 8 3 (.ld 11 (.big 6 (.tk 7 (.tk 12 .done))))))))) Zl (by kernel_rfl) ?_
 refine Zg 2 rfl (tk rfl (PE.indexAddr Z0D rfl rfl (by omega) (by omega)) rfl (ld rfl rfl (lh sc3 rfl (by rw [Z1D (V:=fnL (s1).p (d.y.cells+1)) (k:=c) (by rw [Z0t];omega) (by show 0+((c:Nat):Int).toNat*1=_;omega),Z5Y (by omega)])) rfl (ld rfl rfl (lhA (Z84 g vf vc less) ZhQ rfl (rest:=[]) rfl rfl) rfl (ld rfl rfl (lhA (wyr w9) Z2a rfl (rest:=[]) rfl rfl) rfl (Zg 2 rfl (tk rfl (PE.indexAddr Z0D rfl rfl (by omega) (by omega)) rfl (ld rfl rfl (lh sc3 rfl (by rw [Z1D (V:=fnL (s1).p (d.y.cells+1)) (k:=w9.to d.y.flows) (by rw [Z0t];omega) (by show 0+((w9.to d.y.flows:Nat):Int).toNat*1=_;omega),Z5Y (by omega)])) rfl ?_)))))))
 refine clV rfl Zh2 rfl rfl (Zcn g vf vc S less G hcal hg w9 _ _) ?_
 refine bg (fun w hs=>⟨(lh sc3 rfl (by rw [Z1D (V:=fnL (s1).p (d.y.cells+1)) (k:=w9.to d.y.flows) (by rw [Z0t];omega) (by show 0+((w9.to d.y.flows:Nat):Int).toNat*1=_;omega),Z5Y (by omega)])) w hs,trivial,trivial,(lh sc3 rfl (by rw [Z1D (V:=fnL (s1).p (d.y.cells+1)) (k:=c) (by rw [Z0t];omega) (by show 0+((c:Nat):Int).toNat*1=_;omega),Z5Y (by omega)])) w hs,trivial⟩) ?_
 refine tk rfl (PE.add rfl rfl (by omega)) rfl (Zg 1 rfl ?_)
 refine Z1 rfl ?_ ?_<;>intro hc3<;>try simp only [cS] at hc3
 refine Z0 ?_
 refine Za [0,0,0,0,0,0,48,112,0,0,768,2032,0,0,4083,20467,57343,122879,262143] (tks 0 7 (.ld 7 (.ld 8 (.ld 9 (.ld 12 (.tk 13 (.big 10 (.tk 11 (.tk 14 (.big 15 (.tk 16 (.big 17 (.tk 18 .done))))))))))))) Zl (by kernel_rfl) ?_
 refine Zg 6 rfl (tk rfl (PE.indexAddr Z0D rfl rfl (by omega) (by omega)) rfl (ld rfl rfl (lh sc3 rfl (by rw [Z1D (V:=fnL (s1).p (d.y.cells+1)) (k:=c) (by rw [Z0t];omega) (by show 0+((c:Nat):Int).toNat*1=_;omega),Z5Y (by omega)])) rfl (ld rfl rfl (lhA (Z84 g vf vc less) ZhQ rfl (rest:=[]) rfl rfl) rfl (ld rfl rfl (lhA (wyr w9) Z2a rfl (rest:=[]) rfl rfl) rfl (ld rfl rfl (lhA (wyr w9) Z2a rfl (rest:=[]) rfl rfl) rfl (Zg 1 rfl ?_))))))
 refine clV rfl Zh2 rfl rfl (Zcn g vf vc S less G hcal hg w9 _ _) ?_
 refine bg (fun w hs=>⟨(lhA (wyr w9) Z2a rfl (rest:=[]) rfl rfl) w hs,trivial,trivial,(lh sc3 rfl (by rw [Z1D (V:=fnL (s1).p (d.y.cells+1)) (k:=c) (by rw [Z0t];omega) (by show 0+((c:Nat):Int).toNat*1=_;omega),Z5Y (by omega)])) w hs,trivial⟩) ?_
 refine tk rfl (PE.add rfl rfl (by omega)) rfl (tk rfl (PE.indexAddr Z0D rfl rfl (by omega) (by omega)) rfl ?_)
 refine Zy (l':=Ze ((fnL s1.p (d.y.cells+1)).set (w9.to d.y.flows) (s1.p c+w9.g (wtl S less)))) rfl rfl rfl cn3 rfl rfl rfl (Z90 (k:=w9.to d.y.flows) (by rw [Z0t];omega) (by show 0+((w9.to d.y.flows:Nat):Int).toNat*1=_;omega)) (by rw [ints_length,Z0t];show 0+((w9.to d.y.flows:Nat):Int).toNat*1+1≤_;omega) ?_
 refine bg (fun w hs=>⟨(lhA (wyr w9) Z2a rfl (rest:=[]) rfl rfl) w hs,trivial,trivial⟩) ?_
 refine tk rfl (PE.indexAddr Z5L rfl rfl (by omega) (by omega)) rfl ?_
 refine Zy (l':=(Zr ((fnL s1.by_ (d.y.cells+1)).set (w9.to d.y.flows) w9)).flatten) rfl rfl rfl Z8Q rfl rfl rfl (by
   show spl (Zr (fnL s1.by_ (d.y.cells+1))).flatten (0+((w9.to d.y.flows:Nat):Int).toNat*2) (wyr w9)=_
   rw [ZaE (sz:=2) (k:=w9.to d.y.flows) rfl (Z2D _) (by rw [List.length_map,Z0t];omega) (by omega),Zr,Zr,List.map_set]) (by rw [ZjT,Z0t];show 0+((w9.to d.y.flows:Nat):Int).toNat*2+2≤_;omega) ?_
 rw [ZcP,ZcP,show upd s1.p (w9.to d.y.flows) (s1.p c+w9.g (wtl S less))=(s1.put d.y.flows (wtl S less) r w9).p by rw [← hwf];rfl,show upd s1.by_ (w9.to d.y.flows) w9=(s1.put d.y.flows (wtl S less) r w9).by_ from rfl]
 refine bgT (Zg 1 rfl (sqt 4 rfl (pur 2 rfl (sp rfl (PE.sub rfl rfl (by omega)) rfl (pur 1 rfl ?_)))))
 refine Z1 rfl ?_ ?_<;>intro hc4<;>try simp only [cS] at hc4
 have hr1:r+1=(d.y.cells+1):=by omega
 have hbf:=hb1.bfi.put ⟨hwi,hw1,hwn1,hwn2⟩ hwf hfne (by rw [hwf];omega)
 have hrk:(s1.put d.y.flows (wtl S less) r w9).rk (w9.to d.y.flows)=(d.y.cells+1):=(BFx.put_rk (n:=(d.y.cells+1)) w9).trans hr1
 obtain ⟨m9,hm0,hmn,hma,hmf,hmw,hmd,hmc,hmo⟩:=hbf.found hwn2 hrk
 obtain ⟨_,_,_,hlt⟩:=hbf.circle hwn2 hrk
 generalize (s1.put d.y.flows (wtl S less) r w9)=s2 at hbf hrk hma hmf hmw hmd hmc hmo hlt ⊢
 generalize w9.to d.y.flows=e9 at hwn2 hrk hma hmf hmw hmd hmc hmo hlt ⊢
 refine Sy.heap (H':=(b22,cel 3 (Ze (fnL (s2).p (d.y.cells+1))))::(b24,cel 312 (Zr (fnL (s2).by_ (d.y.cells+1))).flatten)::(b3,cel 235 (Z84 g vf vc less))::H) (R':=R) (fun w h=>(h.del b13).ftail.ftail) ?_
 refine Z7 (ZW (by decide) (Z8 (Z8 (ZW (by decide) (ZW (by decide) (Z8 (Z8 (ZW (by decide) (Z8 (ZW (by decide) (Z8 (Z8 (Zi (Z0 (sqt 2 rfl ?_)))))))))))))))
 refine pur 2 rfl (Z2 ?_)
 refine Zd (ι:={k:Nat // k≤(d.y.cells+1)}) (fun k=>⟨[(0,.pointer (some ⟨d.bd,0,none⟩)),(3,.pointer (some ⟨b3,0,none⟩)),(5,.int .i64 (((d.y.cells+1):Nat):Int)),(6,.slice (some ⟨b22,0,none⟩) (d.y.cells+1) (d.y.cells+1)),(7,.slice (some ⟨b24,0,none⟩) (d.y.cells+1) (d.y.cells+1)),(9,.int .i64 (s2.at_ d.y.flows k.1 e9:Int)),(87,.int .i64 (((d.y.cells+1):Nat):Int)),(88,.int .i64 (k.1:Int))],(b22,cel 3 (Ze (fnL (s2).p (d.y.cells+1))))::(b24,cel 312 (Zr (fnL (s2).by_ (d.y.cells+1))).flatten)::(b3,cel 235 (Z84 g vf vc less))::H,R⟩) (fun k=>(d.y.cells+1)-k.1) ⟨0,Nat.zero_le _⟩ ?_ (fun k=>?_)
 exact Zf idH
 obtain ⟨k,hk⟩:=k
 dsimp only at hk ⊢
 refine sqt 1 rfl (pur 1 rfl (Z0 ?_))
 refine Z1 rfl ?_ ?_<;>intro hc6<;>try simp only [cS] at hc6
 obtain ⟨hq1,hq2⟩:=hlt k
 have hqo:=(hbf.way _ hq1).1
 refine Z3 (Z0 (Z2 (sqr 7 rfl (pur 3 rfl (sp rfl (PE.indexAddr Z5L rfl rfl (by omega) (by omega)) rfl (spL rfl rfl (lhA (rest:=((Zr (fnL (s2).by_ (d.y.cells+1))).drop (s2.at_ d.y.flows k e9+1)).flatten) (wyr ((s2).by_ (s2.at_ d.y.flows k e9))) Z2a rfl (by rw [show 0+((s2.at_ d.y.flows k e9:Nat):Int).toNat*2=(s2.at_ d.y.flows k e9)*2 by omega];exact Z1z (Z2D _) (Z28 (Z1Q (by omega)))) rfl) rfl ?_))))))
 refine clV rfl Z9O rfl rfl (Z6q d (s2.by_ (s2.at_ d.y.flows k e9)) hqo.1 _ _) ?_
 refine pur 1 rfl (sqr 2 rfl (sp rfl (PE.add rfl rfl (by omega)) rfl (pur 1 rfl ?_)))
 rw [← Z8B]
 exact Zb ⟨k+1,by omega⟩ idH
 obtain rfl:k=(d.y.cells+1):=by omega
 generalize hg9:s2.at_ d.y.flows (d.y.cells+1) e9=g9 at hma hmf hmw hmd hmc hmo ⊢
 have hlt2:∀ m,0<s2.rk (s2.at_ d.y.flows m g9)∧s2.at_ d.y.flows m g9<(d.y.cells+1):=fun m=>by rw [← hg9,← s2.at_add];exact hlt _
 refine Z7 (Z8 (Z8 (Zi (sqt 1 rfl (pur 1 rfl (Z0 (sqt 2 rfl (pur 2 rfl (Z2 ?_)))))))))
 refine Zd (ι:=(k:{k:Nat // k≤m9})×OSl 312 2 (Zr (s2.path d.y.flows k.1 g9))) (fun x=>⟨[(0,.pointer (some ⟨d.bd,0,none⟩)),(3,.pointer (some ⟨b3,0,none⟩)),(5,.int .i64 (((d.y.cells+1):Nat):Int)),(6,.slice (some ⟨b22,0,none⟩) (d.y.cells+1) (d.y.cells+1)),(7,.slice (some ⟨b24,0,none⟩) (d.y.cells+1) (d.y.cells+1)),(9,.int .i64 (g9:Int)),(16,x.2.fs),(17,.int .i64 (s2.at_ d.y.flows x.1.1 g9:Int))],x.2.G++(b22,cel 3 (Ze (fnL (s2).p (d.y.cells+1))))::(b24,cel 312 (Zr (fnL (s2).by_ (d.y.cells+1))).flatten)::(b3,cel 235 (Z84 g vf vc less))::H,R⟩) (fun x=>m9-x.1.1) ⟨⟨0,Nat.zero_le _⟩,OSl.nil _ _⟩ ?_ (fun x=>?_)
 exact Zf idH
 obtain ⟨⟨k,hk⟩,o⟩:=x
 dsimp only at hk o ⊢
 obtain ⟨hq1,hq2⟩:=hlt2 k
 have hqo:=(hbf.way _ hq1).1
 have hpl:=Zay d.y.flows s2 k g9
 obtain ⟨oa,oc,hoe,hof⟩:=o.freeze
 rw [show (Zr (s2.path d.y.flows k g9)).length=k by rw [List.length_map,hpl]] at hoe
 refine Z0 (sqt 8 rfl (pur 1 rfl (sp rfl (PE.lenSl Z5k (congrArg some hoe)) rfl (pur 2 rfl ?_))))
 refine Zq 101 rfl ?_ ?_<;>intro g101
 try simp only [cS] at g101
 have hkm:k<m9:=by omega
 refine pur 4 rfl ?_
 refine ZK rfl ?_
 refine Z3 (Z0 (Z2 (sqr 8 rfl (pur 3 rfl (sp rfl (PE.indexAddr Z5L rfl rfl (by omega) (by omega)) rfl (spL rfl rfl (lhA (rest:=((Zr (fnL (s2).by_ (d.y.cells+1))).drop (s2.at_ d.y.flows k g9+1)).flatten) (wyr ((s2).by_ (s2.at_ d.y.flows k g9))) Z2a rfl (by rw [show 0+((s2.at_ d.y.flows k g9:Nat):Int).toNat*2=(s2.at_ d.y.flows k g9)*2 by omega];exact Z1z (Z2D _) (Z28 (Z1Q (by omega)))) rfl) rfl ?_))))))
 refine bsl (out:=[_,_]) rfl Zef Z3e rfl rfl rfl rfl rfl rfl (fun b117=>?_)
 refine apO (o) rfl Z8A rfl rfl (Z0y (row:=wyr (s2.by_ (s2.at_ d.y.flows k g9))) rfl) rfl rfl ((by simp only [List.length_map,hpl,List.length_cons,List.length_nil];omega)) rfl (fun o118=>?_)
 refine pur 1 rfl (sqr 7 rfl (pur 3 rfl (sp rfl (PE.indexAddr Z5L rfl rfl (by omega) (by omega)) rfl (spL rfl rfl (lhA (rest:=((Zr (fnL (s2).by_ (d.y.cells+1))).drop (s2.at_ d.y.flows k g9+1)).flatten) (wyr ((s2).by_ (s2.at_ d.y.flows k g9))) Z2a rfl (by rw [show 0+((s2.at_ d.y.flows k g9:Nat):Int).toNat*2=(s2.at_ d.y.flows k g9)*2 by omega];exact Z1z (Z2D _) (Z28 (Z1Q (by omega)))) rfl) rfl ?_))))
 refine clV rfl Z9O rfl rfl (Z6q d (s2.by_ (s2.at_ d.y.flows k g9)) hqo.1 _ _) ?_
 refine pur 1 rfl ?_
 rw [← Z8B]
 exact Zb ⟨⟨k+1,hkm⟩,o118.cast (by rw [Z5p];simp [Zr])⟩ (fun w h=>h.del b117)
 try simp only [cS] at g101
 refine pur 4 rfl ?_
 refine Z1 rfl ?_ ?_<;>intro hc7<;>try simp only [cS] at hc7
 have hkm:k<m9:=by
   by_cases e:k=m9
   · rw [e,hma] at hc7;exact absurd rfl hc7
   · omega
 refine Z3 (Z0 (Z2 (sqr 8 rfl (pur 3 rfl (sp rfl (PE.indexAddr Z5L rfl rfl (by omega) (by omega)) rfl (spL rfl rfl (lhA (rest:=((Zr (fnL (s2).by_ (d.y.cells+1))).drop (s2.at_ d.y.flows k g9+1)).flatten) (wyr ((s2).by_ (s2.at_ d.y.flows k g9))) Z2a rfl (by rw [show 0+((s2.at_ d.y.flows k g9:Nat):Int).toNat*2=(s2.at_ d.y.flows k g9)*2 by omega];exact Z1z (Z2D _) (Z28 (Z1Q (by omega)))) rfl) rfl ?_))))))
 refine bsl (out:=[_,_]) rfl Zef Z3e rfl rfl rfl rfl rfl rfl (fun b117=>?_)
 refine apO (o) rfl Z8A rfl rfl (Z0y (row:=wyr (s2.by_ (s2.at_ d.y.flows k g9))) rfl) rfl rfl ((by simp only [List.length_map,hpl,List.length_cons,List.length_nil];omega)) rfl (fun o118=>?_)
 refine pur 1 rfl (sqr 7 rfl (pur 3 rfl (sp rfl (PE.indexAddr Z5L rfl rfl (by omega) (by omega)) rfl (spL rfl rfl (lhA (rest:=((Zr (fnL (s2).by_ (d.y.cells+1))).drop (s2.at_ d.y.flows k g9+1)).flatten) (wyr ((s2).by_ (s2.at_ d.y.flows k g9))) Z2a rfl (by rw [show 0+((s2.at_ d.y.flows k g9:Nat):Int).toNat*2=(s2.at_ d.y.flows k g9)*2 by omega];exact Z1z (Z2D _) (Z28 (Z1Q (by omega)))) rfl) rfl ?_))))
 refine clV rfl Z9O rfl rfl (Z6q d (s2.by_ (s2.at_ d.y.flows k g9)) hqo.1 _ _) ?_
 refine pur 1 rfl ?_
 rw [← Z8B]
 exact Zb ⟨⟨k+1,hkm⟩,o118.cast (by rw [Z5p];simp [Zr])⟩ (fun w h=>h.del b117)
 obtain rfl:k=m9:=by
   by_cases e:k=m9
   · exact e
   · exact absurd (show s2.at_ d.y.flows k g9=g9 by omega) (hmf k (by omega) (by omega))
 obtain ⟨pb,pc,jj,e1,e2⟩:=OSl.ne o (ne0 (by rw [List.length_map,hpl];omega))
 rw [show (Zr (s2.path d.y.flows k g9)).length=(s2.path d.y.flows k g9).length from List.length_map _] at e1
 rw [e1,e2]
 refine Z7 (Z8 (Z8 (Zi (sqt 2 rfl (pur 2 rfl (Z4 ?_))))))
 exact rtA rfl rfl rfl (.inr ⟨_,pb,pc,g9,rfl,rfl,rfl,⟨ne0 (by rw [hpl];omega),by rw [hpl];exact hmn⟩,hmw,hmd,hmc,hmo⟩) (fun w h=>St.rows (rest:=jj) (show St ((pb,cel 312 ((Zr (s2.path d.y.flows k g9)).flatten++jj))::H) R w from (St.del b3 (St.del b24 (St.del b22 (show St ((pb,cel 312 ((Zr (s2.path d.y.flows k g9)).flatten++jj))::(b22,cel 3 (Ze (fnL (s2).p (d.y.cells+1))))::(b24,cel 312 (Zr (fnL (s2).by_ (d.y.cells+1))).flatten)::(b3,cel 235 (Z84 g vf vc less))::H) R w from h))))) (Z2D _))
 refine Z3 (sqr 2 rfl (sp rfl (PE.add rfl rfl (by omega)) rfl (pur 1 rfl ?_)))
 exact Zb ⟨(j+1,some (w9.to d.y.flows),s1.put d.y.flows (wtl S less) r w9),by dsimp only;omega,hb1.put ⟨hwi,hw1,hwn1,hwn2⟩ hwf hfne (by rw [hwf];omega) hgb (by omega),by dsimp only;rw [htk];exact hdn.put (fun v hv=>((Z5C (fun g hg=>(Z0i hy g hg).1)).1 (List.mem_of_mem_take hv)).2) hwf hfne (by rw [hwf];omega)⟩ (fun w h=>h.del b13)
 refine Z3 (sqr 2 rfl (sp rfl (PE.add rfl rfl (by omega)) rfl (pur 1 rfl ?_)))
 exact Zb ⟨(j+1,a1,s1),by dsimp only;omega,hb1.j,by dsimp only;rw [htk];exact hdn.snoc (by rw [hwf];omega)⟩ (fun w h=>h.del b13)
 obtain rfl:j=((Z1g d.y.flows A d.y.flows.length) c).length:=by omega
 rw [List.take_length] at hdn
 have hwl:=Z2Q d.y.flows A c d.y.flows.length
 refine Z7 (Z8 (Z8 (Zi (sqr 2 rfl (sp rfl (PE.add rfl rfl (by omega)) rfl (pur 1 rfl ?_))))))
 exact Zb ⟨(c+1,a1,s1),by dsimp only;omega,hb1.next (by omega) (fun v h1 h2=>by rw [← h2];exact hdn v ((Z5C (fun g hg=>(Z0i hy g hg).1)).2 ⟨h1,h2⟩))⟩ (fun w h=>h.ftail)
 obtain rfl:c=(d.y.cells+1):=by omega
 refine Z7 (Z8 (Z8 (Zi (sqt 2 rfl (pur 2 rfl ?_)))))
 refine Z1 rfl ?_ ?_<;>intro hc5<;>try simp only [cS] at hc5
 obtain rfl:a=none:=by
   cases a with
   | none=>rfl
   | some q=>simp only [atI] at hc5;omega
 refine sqt 1 rfl (pur 1 rfl (Z4 ?_))
 exact rtA rfl rfl rfl (.inl ⟨rfl,rfl,rfl,fun B hB=>hbs.bfi.best (fun c _=>hbs.non rfl c) (fun g hg=>(Z0i hy g hg).1) hf hB⟩) (fun w h=>(((h.del b22).del b24).del b3).ftail)
 have hsome:r+1<(d.y.cells+1):=hbs.som (fun e=>by rw [e] at hc5;simp [atI] at hc5)
 refine Z3 (sqr 2 rfl (sp rfl (PE.add rfl rfl (by omega)) rfl (pur 1 rfl ?_)))
 exact Zb ⟨(r+1,atI a,s),by dsimp only;omega,hbs.round (by omega)⟩ idH
 exact absurd hc0 (by simp;omega)
theorem ZgM:cal Tryz.prog 117=true:=by kernel_rfl
theorem ZlJ:cal Tryz.prog 200=true:=by kernel_rfl
theorem Z34:Zz Tryz.prog 37=some 2:=by kernel_rfl
theorem Znz:ZD Tryz.prog 235=some [(0,1),(1,1)]:=by kernel_rfl
theorem Z3Z:ZD Tryz.prog 37=some [(0,1),(1,1)]:=by kernel_rfl
theorem Zo5:Zp Tryz.prog 235=some ([.nilFunc,.bool false]):=by kernel_rfl
theorem Z1s:Zp Tryz.prog 37=some ([.int .i64 0,.int .i64 0]):=by kernel_rfl
def wt0 (S:Nat→Bool) (i:Nat):Int:=bif S i then 1 else 0
theorem ZhI (S:Nat→Bool):wtl S false=wt0 S:=funext fun i=>by unfold wtl wt0;cases S i<;>rfl
theorem ZjR (S:Nat→Bool):wtl S true=fun i => -wt0 S i:=funext fun i=>by unfold wtl wt0;cases S i<;>rfl
theorem ZeH (S:Nat→Bool) (less:Bool) (i:Nat) : -1≤wtl S less i∧wtl S less i≤1:=by unfold wtl;cases S i<;>cases less<;>decide
theorem Z7v:∀ {A:List Int} {w:Nat→Int},(∀ i,-1≤w i∧w i≤1)→(∀ i,0≤na A i∧na A i≤300) → -(300*(A.length:Int))≤Z0b w A∧Z0b w A≤300*(A.length:Int)
 | [],w,_,_=>by constructor<;>exact Int.le_refl _
 | a::A,w,hw,hA=>by
   have ih:=Z7v (A:=A) (w:=fun i=>w (i+1)) (fun i=>hw (i+1)) (fun i=>hA (i+1))
   have h0:0≤a∧a≤300:=hA 0
   have h1:=hw 0
   show _≤w 0*a+Z0b (fun i=>w (i+1)) A∧w 0*a+Z0b (fun i=>w (i+1)) A≤_
   rw [List.length_cons]
   have h2:w 0*a≤1*a:=Int.mul_le_mul_of_nonneg_right h1.2 h0.1
   have h3 : -1*a≤w 0*a:=Int.mul_le_mul_of_nonneg_right h1.1 h0.1
   omega
theorem Z8t:∀ {A:List Int} {w:Nat→Int} {i:Nat},i<A.length→Z0b w (A.take (i+1))=Z0b w (A.take i)+w i*na A i
 | a::A,w,0,_=>by
   show w 0*a+Z0b (fun i=>w (i+1)) (A.take 0)=0+w 0*a
   rw [List.take_zero];show w 0*a+0=_;omega
 | a::A,w,i+1,h=>by
   have ih:=Z8t (A:=A) (w:=fun i=>w (i+1)) (i:=i) (by simpa using h)
   show w 0*a+Z0b (fun i=>w (i+1)) (A.take (i+1))=(w 0*a+Z0b (fun i=>w (i+1)) (A.take i))+w (i+1)*na A i
   rw [ih];omega
theorem Zg4 {A:List Int} {k:Nat} (h:∀ i,0≤na A i∧na A i≤300):∀ i,0≤na (A.take k) i∧na (A.take k) i≤300:=fun i=>by
 by_cases e:i<k
 · rw [Zjl e];exact h i
 · rw [ZdL (by rw [List.length_take];omega)];omega
set_option maxHeartbeats 1200000 in
theorem Z5U (d:DD) (hy:d.y.ok) (A0:List Int) (hf0:Feas (d.y.cells+1) d.y.flows A0) (g:Nat) (vf vc:List Value) (S:Nat→Bool) (less:Bool) (G:Z5) (hcal:cal Tryz.prog g=true) (hg:∀ (i:Nat) (H:Z6) (R:Z5) [SubF G R],FnV Tryz.prog g (vf++[.int .i64 (i:Int)]++vc) H R (.bool (S i))) (H:Z6) (R:Z5) [hD:MemRows (some ⟨d.bd,0,none⟩) 6 [d.l] R] [hF:MemRows (some ⟨d.fb,0,none⟩) 4 (ZN d.y.flows) R] [hG:SubF G R] :
    Fn Tryz.prog 117 [.pointer (some ⟨d.bd,0,none⟩),.agg (Z84 g vf vc less).toArray] ((d.ba,cel 3 (Ze A0++d.J))::H) R (fun v H' R'=>∃ A,Feas (d.y.cells+1) d.y.flows A∧(∀ B,Feas (d.y.cells+1) d.y.flows B→Z0b (wtl S less) B≤Z0b (wtl S less) A)∧v = .int .i64 (Z0b (wt0 S) A)∧H'=(d.ba,cel 3 (Ze A++d.J))::H∧R'=R):=by
 have hfl:=Z07 hy
 have hcl:=Z2H hy
 refine Zc Tryz.func117 rfl Tryz.ntmps117 rfl ?_
 refine sqt 2 rfl (bx rfl rfl rfl (fun b3=>pur 1 rfl (Z0 (Z2 ?_))))
 refine Zd (ι:={A:List Int // Feas (d.y.cells+1) d.y.flows A}) (fun A=>⟨[(0,.pointer (some ⟨d.bd,0,none⟩)),(3,.pointer (some ⟨b3,0,none⟩))],(d.ba,cel 3 (Ze A.1++d.J))::(b3,cel 235 (Z84 g vf vc less))::H,R⟩) (fun A=>(10200-Z0b (wtl S less) A.1).toNat) ⟨A0,hf0⟩ ?_ (fun A=>?_)
 exact Zf (fun w h=>h.pull d.ba)
 obtain ⟨A,hf⟩:=A
 dsimp only at hf ⊢
 have hA:=hf.aok hy
 refine Z2 (sqt 4 rfl (pur 1 rfl (spL rfl rfl (lhA (Z84 g vf vc less) ZhQ rfl (rest:=[]) rfl rfl) rfl ?_)))
 refine cl rfl ZlJ rfl rfl (Zfb d hy A hf g vf vc S less G hcal hg _ _) ?_
 rintro _ _ R9 (⟨rfl,rfl,hR9,hbest⟩ | ⟨l,pb,pc,b,rfl,rfl,rfl,⟨hl0,hll⟩,hw,hnd,hch,hok⟩)
 refine pur 1 rfl (Z0 (sqt 2 rfl (pur 1 rfl (sp rfl (PE.eqlNil Z5k rfl rfl) rfl ?_))))
 refine Z1 rfl ?_ ?_<;>intro hc0
 obtain rfl:=hR9.symm
 refine Z7 (Z8 (ZW (by decide) (Z8 (Zi (sqt 1 rfl (pur 1 rfl (Z0 (sqt 6 rfl (pur 1 rfl (sp rfl (PE.nilCheck rfl) rfl (sp rfl (PE.fA Z0E rfl) rfl (spL rfl rfl (lfB (sz:=6) Z2w rfl) rfl (sp rfl (PE.lenSl ZO rfl) rfl (pur 1 rfl (Z2 ?_)))))))))))))))
 refine Zd (ι:={i:Nat // i≤d.y.flows.length}) (fun i=>⟨[(0,.pointer (some ⟨d.bd,0,none⟩)),(3,.pointer (some ⟨b3,0,none⟩)),(11,.int .i64 (Z0b (wt0 S) (A.take i.1))),(43,.slice (some ⟨d.ba,0,none⟩) d.y.flows.length d.ca),(44,.int .i64 (d.y.flows.length:Int)),(45,.int .i64 (i.1:Int))],(d.ba,cel 3 (Ze A++d.J))::(b3,cel 235 (Z84 g vf vc less))::H,R⟩) (fun i=>d.y.flows.length-i.1) ⟨0,Nat.zero_le _⟩ ?_ (fun i=>?_)
 exact Zf idH
 obtain ⟨i,hi⟩:=i
 dsimp only at hi ⊢
 refine sqt 1 rfl (pur 1 rfl (Z0 ?_))
 refine Z1 rfl ?_ ?_<;>intro hc2<;>try simp only [cS] at hc2
 have hil:i<A.length:=by rw [hA.len];omega
 have hst:=Z8t (w:=wt0 S) hil
 have hbd:=Z7v (A:=A.take i) (w:=wt0 S) (fun q=>by rw [← ZhI];exact ZeH S false q) (Zg4 hA.bnd)
 rw [List.length_take,Nat.min_eq_left (by omega)] at hbd
 have hai:=hA.bnd i
 refine Z3 (Z0 (Z2 (sqt 5 rfl (pur 1 rfl (sp rfl (PE.indexAddr Z0D rfl rfl (by omega) (by omega)) rfl (spL rfl rfl (lh sc3 rfl (Z26 (k:=i) hil (by show 0+((i:Nat):Int).toNat*1=_;omega))) rfl (pur 2 rfl (sqt 4 rfl (sp rfl (PE.fA ZcV rfl) rfl (spL rfl rfl (lh Z1G rfl rfl) rfl (pur 1 rfl ?_)))))))))))
 refine Z2c rfl rfl (hcal) rfl rfl (hg i _ _) ?_
 refine Z1 rfl ?_ ?_<;>intro hc3
 refine sqr 4 rfl (pur 2 rfl (sp rfl (PE.add rfl rfl (by omega)) rfl (pur 1 rfl (sqr 2 rfl (sp rfl (PE.add rfl rfl (by omega)) rfl (pur 1 rfl ?_))))))
 rw [show wt0 S i=1 by unfold wt0;rw [hc3];rfl,Int.one_mul] at hst
 exact Zv ⟨i+1,by omega⟩ (by dsimp only;omega) (by dsimp only;rw [hst];exact sbA) idH
 refine Z3 (sqr 2 rfl (sp rfl (PE.add rfl rfl (by omega)) rfl (pur 1 rfl ?_)))
 rw [show wt0 S i=0 by unfold wt0;rw [hc3];rfl,Int.zero_mul,Int.add_zero] at hst
 exact Zv ⟨i+1,by omega⟩ (by dsimp only;omega) (by dsimp only;rw [hst];exact sbA) idH
 obtain rfl:i=d.y.flows.length:=by omega
 rw [List.take_of_length_le (by rw [hA.len];exact Nat.le_refl _)]
 refine Z7 (Z8 (Z8 (Zi (sqt 2 rfl (pur 2 rfl (Z4 ?_))))))
 exact rtA rfl rfl rfl ⟨A,hf,hbest,rfl,rfl,rfl⟩ (fun w h=>h.del b3)
 exact absurd hc0 (by simp)
 refine pur 1 rfl (Z0 (sqt 2 rfl (pur 1 rfl (sp rfl (PE.eqlNil Z5k rfl rfl) rfl ?_))))
 refine Z1 rfl ?_ ?_<;>intro hc0
 exact absurd hc0 (by simp)
 refine Z3 (sqt 1 rfl (pur 1 rfl (Z0 (sqt 3 rfl (pur 1 rfl (sp rfl (PE.lenSl Z5k rfl) rfl (pur 1 rfl (Z2 ?_))))))))
 refine Zd (ι:={x:Nat×Int // x.1≤l.length∧(1≤x.2∧x.2≤300)∧∀ w∈l.take x.1,x.2≤w.res d.y.flows A}) (fun x=>⟨[(0,.pointer (some ⟨d.bd,0,none⟩)),(3,.pointer (some ⟨b3,0,none⟩)),(5,.slice (some ⟨pb,0,none⟩) l.length pc),(6,.int .i64 x.1.2),(19,.slice (some ⟨pb,0,none⟩) l.length pc),(20,.int .i64 (l.length:Int)),(21,.int .i64 (x.1.1:Int))],(d.ba,cel 3 (Ze A++d.J))::(b3,cel 235 (Z84 g vf vc less))::H,RowsA (some ⟨pb,0,none⟩) 2 (Zr l)::R⟩) (fun x=>l.length-x.1.1) ⟨(0,300),Nat.zero_le _,by decide,fun w h=>by cases h⟩ ?_ (fun x=>?_)
 exact Zf idH
 obtain ⟨⟨j,mo⟩,hj,hmo,hmr⟩:=x
 dsimp only at hj hmo hmr ⊢
 refine sqt 1 rfl (pur 1 rfl (Z0 ?_))
 refine Z1 rfl ?_ ?_<;>intro hc1<;>try simp only [cS] at hc1
 obtain ⟨w9,hw9⟩:∃ x,l[j]?=some x:=⟨_,List.getElem?_eq_getElem (by omega)⟩
 have hwo:=hok w9 (List.mem_of_getElem? hw9)
 have hw1:=hwo.2.1
 refine Z3 (Z0 (Z2 (sqt 4 rfl (sp rfl (PE.indexAddr Z5L rfl rfl (by omega) (by omega)) rfl (spL rfl rfl (lfA Z2a (Z28 hw9) rfl) rfl (alc rfl Z3e rfl (fun b8=>?_)))))))
 refine Zy (l':=wyr w9) rfl rfl rfl Z8Q rfl rfl rfl rfl (nl rfl) ?_
 refine sqt 8 rfl (pur 1 rfl (spL rfl rfl (lhA (wyr w9) Z2a rfl (rest:=[]) rfl rfl) rfl ?_))
 refine clV rfl Z9K rfl rfl (Zfe d hy w9 hwo.1 A hA _ _) ?_
 refine pur 5 rfl (sqr 5 rfl (pur 2 rfl ?_))
 refine bsl (out:=[_]) rfl Z1H zl3 rfl rfl rfl rfl rfl rfl (fun b33=>?_)
 refine clV rfl Z7I rfl rfl (Z32 _ _ b33 _ _ _) ?_
 refine pur 1 rfl (sqr 2 rfl (sp rfl (PE.add rfl rfl (by omega)) rfl (pur 1 rfl ?_)))
 exact Zv ⟨(j+1,min mo (w9.res d.y.flows A)),by dsimp only;omega,by dsimp only;omega,fun w hw=>by
   dsimp only at hw ⊢
   rw [List.take_add_one,hw9,Option.toList_some] at hw
   rcases List.mem_append.1 hw with h9 | h9
   · have:=hmr w h9;omega
   · rw [List.mem_singleton.1 h9];omega⟩ (by dsimp only;omega) sbA (fun w h=>(h.del b33).del b8)
 obtain rfl:j=l.length:=by omega
 rw [List.take_length] at hmr
 have hs:=Zgp hf (n:=mo) (fun w hw=>⟨(hok w hw).1,hmr w hw⟩) hnd (by omega) hch
 have hws:=ZaT (n:=mo) (w:=(wtl S less)) (A:=A) (l:=l) (fun v hv=>by rw [hA.len];exact (hok v hv).1)
 have hb1:=Z7v (ZeH S less) hA.bnd
 have hb2:=Z7v (ZeH S less) (hs.aok hy).bnd
 rw [hA.len] at hb1
 rw [hs.len] at hb2
 have hmw:1*1≤mo*wth (wtl S less) l:=Int.mul_le_mul hmo.1 (by omega) (by omega) (by omega)
 refine Z7 (Z8 (Z8 (Zi (sqr 4 rfl (pur 3 rfl ?_)))))
 refine cl rfl ZgW rfl rfl (ZgH d hy A hA.len (fun k=>by have:=hA.bnd k;omega) l (fun w hw=>(hok w hw).1) (by omega) mo ⟨by omega,hmo.2⟩ (some ⟨pb,0,none⟩) pc _ _) ?_
 rintro _ _ _ ⟨rfl,rfl⟩
 exact Zb ⟨snd A l mo,hs⟩ (fun w h=>h.ftail)
theorem ZkK (d:DD) (hy:d.y.ok) (A0:List Int) (hf0:Feas (d.y.cells+1) d.y.flows A0) (g:Nat) (vf vc:List Value) (S:Nat→Bool) (G:Z5) (hcal:cal Tryz.prog g=true) (hg:∀ (i:Nat) (H:Z6) (R:Z5) [SubF G R],FnV Tryz.prog g (vf++[.int .i64 (i:Int)]++vc) H R (.bool (S i))) (H:Z6) (R:Z5) [hD:MemRows (some ⟨d.bd,0,none⟩) 6 [d.l] R] [hF:MemRows (some ⟨d.fb,0,none⟩) 4 (ZN d.y.flows) R] [hG:SubF G R] :
    Fn Tryz.prog 55 [.pointer (some ⟨d.bd,0,none⟩),.func (.func g) vf.toArray vc.toArray] ((d.ba,cel 3 (Ze A0++d.J))::H) R (fun v H' R'=>∃ A s,Feas (d.y.cells+1) d.y.flows A∧(Lst (d.y.cells+1) d.y.flows (wt0 S) s.lo∧Grt (d.y.cells+1) d.y.flows (wt0 S) s.hi)∧v=spv s∧H'=(d.ba,cel 3 (Ze A++d.J))::H∧R'=R):=by
 refine Zc Tryz.func55 rfl Tryz.ntmps55 rfl ?_
 refine sqt 1 rfl (alc rfl Z1s rfl (fun b4=>sqt 5 rfl (pur 2 rfl (sp rfl (PE.build (out:=[_,_]) Znz Zo5 rfl rfl) rfl ?_))))
 refine Zw d.ba ?_
 refine cl rfl ZgM rfl rfl (Z5U d hy A0 hf0 g vf vc S true G hcal hg _ _) ?_
 rintro _ _ _ ⟨A1,hf1,hb1,rfl,rfl,rfl⟩
 refine pur 1 rfl (sqt 7 rfl (pur 3 rfl (sp rfl (PE.build (out:=[_,_]) Znz Zo5 rfl rfl) rfl ?_)))
 refine cl rfl ZgM rfl rfl (Z5U d hy A1 hf1 g vf vc S false G hcal hg _ _) ?_
 rintro _ _ _ ⟨A2,hf2,hb2,rfl,rfl,rfl⟩
 refine sp rfl (PE.build (out:=[_,_]) Z3Z Z1s rfl rfl) rfl ?_
 refine sto rfl rfl rfl Z34 rfl rfl rfl rfl ?_
 refine Z4 ?_
 exact Z9 (vs:=[_]) rfl (.cons (RV.cell rfl (lhA [.int .i64 (Z0b (wt0 S) A1),.int .i64 (Z0b (wt0 S) A2)] Z2R rfl (rest:=[]) rfl rfl)) .nil) rfl ⟨A2,⟨Z0b (wt0 S) A1,Z0b (wt0 S) A2⟩,hf2,⟨Znl hf1 (by rw [← ZjR];exact hb1),⟨⟨A2,hf2,rfl⟩,by rw [← ZhI];exact hb2⟩⟩,rfl,rfl,rfl⟩ (fun w h=>h.del b4)
theorem ZqO:apT Tryz.prog 84=some (37,2,16):=by kernel_rfl
theorem ZkW:cal Tryz.prog 113=true:=by kernel_rfl
theorem ZkX:cal Tryz.prog 114=true:=by kernel_rfl
theorem ZkY:cal Tryz.prog 115=true:=by kernel_rfl
theorem ZkZ:cal Tryz.prog 116=true:=by kernel_rfl
theorem ZoY:cal Tryz.prog 54=true:=by kernel_rfl
theorem ZoZ:cal Tryz.prog 55=true:=by kernel_rfl
theorem Zp0:cal Tryz.prog 56=true:=by kernel_rfl
theorem Zp1:cal Tryz.prog 57=true:=by kernel_rfl
theorem Zrm:slE Tryz.prog 84=some (37,2):=by kernel_rfl
abbrev sprows (l:List Spn):List (List Value):=l.map fun s=>[.int .i64 s.lo,.int .i64 s.hi]
theorem sr_get {l:List Spn} {k:Nat} {f:Spn} (h:l[k]?=some f):(sprows l)[k]?=some [.int .i64 f.lo,.int .i64 f.hi]:=by simp [sprows,h]
theorem srl (l:List Spn):(sprows l).length=l.length:=List.length_map _
def ZeT (y:Yrd) (t i:Nat):Bool:=(List.range y.bins.length).any fun b=>decide (i=b*(y.days+1)+t)
def BndOk (y:Yrd) (S:Nat→Nat→Bool) (k:Nat) (L:List Spn):Prop:=L.length=k∧∀ t s,L[t]?=some s→Lst (y.cells+1) y.flows (wt0 (S t)) s.lo∧Grt (y.cells+1) y.flows (wt0 (S t)) s.hi
theorem BndOk.nil (y:Yrd) (S:Nat→Nat→Bool):BndOk y S 0 []:=⟨rfl,fun t s h=>by simp at h⟩
theorem BndOk.snoc {y:Yrd} {S:Nat→Nat→Bool} {k:Nat} {L:List Spn} (h:BndOk y S k L) {s:Spn} (hs:Lst (y.cells+1) y.flows (wt0 (S k)) s.lo∧Grt (y.cells+1) y.flows (wt0 (S k)) s.hi):BndOk y S (k+1) (L++[s]):=⟨by rw [List.length_append,h.1];rfl,fun t x hx=>by
 rw [List.getElem?_append] at hx
 split at hx
 · exact h.2 t x hx
 · rename_i e
   have h1:=(List.getElem?_eq_some_iff.1 hx).1
   rw [List.length_singleton] at h1
   rw [h.1] at e h1 hx
   obtain rfl:t=k:=by omega
   rw [Nat.sub_self] at hx
   cases hx;exact hs⟩
theorem BndOk.uniq {y:Yrd} {S:Nat→Nat→Bool} {k:Nat} {L M:List Spn} (h:BndOk y S k L) (h':BndOk y S k M):L=M:=by
 refine List.ext_getElem? fun t=>?_
 by_cases e:t<k
 · obtain ⟨a,e1⟩:∃ a,L[t]?=some a:=⟨_,List.getElem?_eq_getElem (by rw [h.1];exact e)⟩
   obtain ⟨b,e2⟩:∃ b,M[t]?=some b:=⟨_,List.getElem?_eq_getElem (by rw [h'.1];exact e)⟩
   rw [e1,e2]
   have h1:=h.2 t _ e1
   have h2:=h'.2 t _ e2
   have e3:=h1.1.uniq h2.1
   have e4:=h1.2.uniq h2.2
   cases a;cases b;simp at e3 e4;rw [e3,e4]
 · rw [List.getElem?_eq_none (by rw [h.1];omega),List.getElem?_eq_none (by rw [h'.1];omega)]
theorem Zjb {y:Yrd} (hB:∃ B,Feas (y.cells+1) y.flows B):∀ i f,y.flows[i]?=some f→f.lo≤na (Z0N y.flows) i∧na (Z0N y.flows) i≤f.hi:=fun i f h=>by
 obtain ⟨B,hB⟩:=hB
 have h1:=hB.bnd i f h
 have h2:na (Z0N y.flows) i=f.lo:=Z94 (by unfold Z0N;rw [List.getElem?_map,h];rfl)
 rw [h2];omega
theorem Z71 {f:World→Prop} {G R:Z5} (h:SubF G R) (hf:f∈G):f∈R:=h.sub f hf
theorem Z1j (y:Yrd) (a1 a2 a3:Option Addr) (k1 k2 k3:Nat) (hy:y.ok) (hB:∃ B,Feas (y.cells+1) y.flows B) (H:Z6) (R:Z5) [hR1:MemRows a1 3 (bnrows y.bins) R] [hR2:MemRows a2 5 (mvrows y.moves) R] [hR3:MemRows a3 4 (lvrows y.levels) R] :
    Fn Tryz.prog 54 [(y.v a1 a2 a3 k1 k2 k3)] H R (fun v H' R'=>∃ (d:DD) (A:List Int),d.y=y∧Feas (d.y.cells+1) d.y.flows A∧v = .tuple #[.pointer (some ⟨d.bd,0,none⟩),.int .i64 0]∧H'=(d.ba,cel 3 (Ze A++d.J))::H∧R'=RowsA (some ⟨d.fb,0,none⟩) 4 (ZN d.y.flows)::RowsA (some ⟨d.bd,0,none⟩) 6 [d.l]::R):=by
 refine Zc Tryz.func54 rfl Tryz.ntmps54 rfl ?_
 refine sqt 3 rfl (bx rfl rfl rfl (fun b1=>pur 2 rfl (Z0 (sqt 3 rfl (spL rfl rfl (lhA (ydl y a1 a2 a3 k1 k2 k3) ZeN rfl rfl rfl) rfl ?_)))))
 refine clV rfl ZkW rfl rfl (Z1K y a1 a2 a3 k1 k2 k3 hy _ _) ?_
 refine pur 1 rfl (sqt 2 rfl (pur 2 rfl ?_))
 refine Z1 rfl ?_ ?_<;>intro hc0
 exact absurd hc0 (by simp)
 refine Z3 (Z0 ?_)
 refine Za [0,0,3,7] (.ld 0 (.big 1 (.big 2 (.tk 3 .done)))) Zl (by kernel_rfl) ?_
 refine ld rfl rfl (lhA (ydl y a1 a2 a3 k1 k2 k3) ZeN rfl rfl rfl) rfl ?_
 refine clV rfl ZkY rfl rfl (Zkr _ _) ?_
 refine bg (fun w hs=>⟨(lhA (ydl y a1 a2 a3 k1 k2 k3) ZeN rfl rfl rfl) w hs,trivial⟩) ?_
 refine cl rfl ZkX rfl rfl (Z6s y a1 a2 a3 k1 k2 k3 hy _ _) ?_
 rintro _ _ _ ⟨d,rfl,rfl,rfl,rfl⟩
 refine bgT (Zg 1 rfl (Z0 (sqt 3 rfl (pur 1 rfl ?_))))
 refine cl rfl ZkZ rfl rfl (Zfj d hy (Z0N d.y.flows) (by simp [Z0N]) (Zjb hB) hB _ _) ?_
 rintro _ _ _ ⟨A,hA,rfl,rfl,rfl⟩
 refine pur 1 rfl ?_
 refine Z1 rfl ?_ ?_<;>intro hc1
 exact absurd hc1 (by simp)
 refine Z3 (sqt 3 rfl (pur 3 rfl (Z4 ?_)))
 exact rtB rfl rfl rfl rfl ⟨d,A,rfl,hA,rfl,rfl,rfl⟩ (fun w h=>h.del b1)
theorem Zfp (d:DD) (hy:d.y.ok) (a1 a2 a3:Option Addr) (k1 k2 k3:Nat) (b1 b4 b7 t i:Nat) (ht:t≤d.y.days) (H:Z6) (R:Z5) [hX:MemRows (some ⟨b1,0,none⟩) 4 [ydl d.y a1 a2 a3 k1 k2 k3] R] [hY:MemRows (some ⟨b4,0,none⟩) 1 [[.pointer (some ⟨d.bd,0,none⟩)]] R] [hT:MemRows (some ⟨b7,0,none⟩) 1 [[.int .i64 (t:Int)]] R] [hD:MemRows (some ⟨d.bd,0,none⟩) 6 [d.l] R] :
    FnV Tryz.prog 56 [.int .i64 (i:Int),.pointer (some ⟨b1,0,none⟩),.pointer (some ⟨b4,0,none⟩),.pointer (some ⟨b7,0,none⟩)] H R (.bool (ZeT d.y t i)):=by
 have hdy:=hy.days
 refine Zc Tryz.func56 rfl Tryz.ntmps56 rfl ?_
 refine sqt 1 rfl (pur 1 rfl (Z0 (sqt 4 rfl (sp rfl (PE.fA Z24 rfl) rfl (spL rfl rfl (lfB (sz:=4) Zec rfl) rfl (sp rfl (PE.lenSl Z86 rfl) rfl (pur 1 rfl (Z2 ?_))))))))
 refine Zd (ι:={b:Nat // b≤d.y.bins.length∧∀ q,q<b→i≠q*(d.y.days+1)+t}) (fun b=>⟨[(0,.int .i64 (i:Int)),(1,.pointer (some ⟨b1,0,none⟩)),(2,.pointer (some ⟨b4,0,none⟩)),(3,.pointer (some ⟨b7,0,none⟩)),(9,.int .i64 (d.y.bins.length:Int)),(10,.int .i64 (b.1:Int))],H,R⟩) (fun b=>d.y.bins.length-b.1) ⟨0,Nat.zero_le _,fun q h=>absurd h (Nat.not_lt_zero _)⟩ ?_ (fun b=>?_)
 exact Zf idH
 obtain ⟨b,hb,hno⟩:=b
 dsimp only at hb hno ⊢
 refine sqt 1 rfl (pur 1 rfl (Z0 ?_))
 refine Z1 rfl ?_ ?_<;>intro hc0<;>try simp only [cS] at hc0
 refine Z3 (Z0 (Z2 (sqt 2 rfl (pur 2 rfl (sqt 6 rfl (pur 1 rfl (spL rfl rfl (lfB (sz:=1) ZA rfl) rfl (pur 1 rfl (spL rfl rfl (lfB (sz:=1) sc3 rfl) rfl ?_)))))))))
 refine clV rfl Zp1 rfl rfl (Zkz d.y d.a1 d.a2 d.a3 d.k1 d.k2 d.k3 hy d.bd b t (by omega) (by omega) _ _ (DKp.fact (sz:=6) (row:=d.l) (x:=[_,_]) rfl)) ?_
 refine pur 1 rfl ?_
 refine Z1 rfl ?_ ?_<;>intro hc1<;>try simp only [cS] at hc1
 refine sqt 1 rfl (pur 1 rfl (Z4 ?_))
 exact rtA rfl rfl rfl ⟨by simp only [ZC];congr 1;exact (List.any_eq_true.2 ⟨b,List.mem_range.2 (by omega),dT (by omega)⟩).symm,rfl,rfl⟩ drp
 refine Z3 (sqr 2 rfl (sp rfl (PE.add rfl rfl (by have:=hy.bins;omega)) rfl (pur 1 rfl ?_)))
 exact Zv ⟨b+1,by omega,fun q hq=>by
   by_cases e:q=b
   · subst e;omega
   · exact hno q (by omega)⟩ (by dsimp only;omega) sbA idH
 obtain rfl:b=d.y.bins.length:=by omega
 refine Z7 (Z8 (Z8 (Zi (sqt 1 rfl (pur 1 rfl (Z4 ?_))))))
 exact rtA rfl rfl rfl ⟨by simp only [ZC]; congr 1; exact (Bool.eq_false_iff.2 fun h => by
       obtain ⟨q,hq,e⟩:=List.any_eq_true.1 h
       exact hno q (List.mem_range.1 hq) (of_decide_eq_true e)).symm,rfl,rfl⟩ drp
set_option maxHeartbeats 800000 in
theorem c_Whole (y:Yrd) (a1 a2 a3:Option Addr) (k1 k2 k3:Nat) (hy:y.ok) (hB:∃ B,Feas (y.cells+1) y.flows B) (H:Z6) (R:Z5) [hR1:MemRows a1 3 (bnrows y.bins) R] [hR2:MemRows a2 5 (mvrows y.moves) R] [hR3:MemRows a3 4 (lvrows y.levels) R] :
    Fn Tryz.prog 22 [(y.v a1 a2 a3 k1 k2 k3)] H R (fun v H' R'=>∃ (L:List Spn) (o:OSl 37 2 (sprows L)),BndOk y (ZeT y) (y.days+1) L∧v = .tuple #[o.fs,.int .i64 0]∧H'=o.G++H∧R'=R):=by
 refine Zc Tryz.func22 rfl Tryz.ntmps22 rfl ?_
 refine sqt 3 rfl (bx rfl rfl rfl (fun b1=>pur 2 rfl (sqt 8 rfl (spL rfl rfl (lhA (ydl y a1 a2 a3 k1 k2 k3) ZeN rfl rfl rfl) rfl ?_))))
 refine cl rfl ZoY rfl rfl (Z1j y a1 a2 a3 k1 k2 k3 hy hB _ _) ?_
 rintro _ _ _ ⟨d,A,rfl,hA,rfl,rfl,rfl⟩
 refine pur 3 rfl (alc rfl Zo2 rfl (fun b4=>?_))
 refine sto rfl rfl rfl ZmQ rfl rfl rfl rfl ?_
 refine pur 1 rfl (Z0 (sqt 2 rfl (pur 2 rfl ?_)))
 refine Z1 rfl ?_ ?_<;>intro hc0
 exact absurd hc0 (by simp)
 try simp only [cS] at hc0
 have hdy:=hy.days
 refine Z3 (sqt 1 rfl (pur 1 rfl (Z0 (sqt 4 rfl ?_))))
 refine Sy.heap (H':=(d.ba,cel 3 (Ze A++d.J))::H) (R':=RowsA (some ⟨b4,0,none⟩) 1 [[.pointer (some ⟨d.bd,0,none⟩)]]::RowsA (some ⟨b1,0,none⟩) 4 [ydl d.y a1 a2 a3 k1 k2 k3]::RowsA (some ⟨d.fb,0,none⟩) 4 (ZN d.y.flows)::RowsA (some ⟨d.bd,0,none⟩) 6 [d.l]::R) (fun w h=>St.row1 ((St.row1 (h.pull b1) rfl).pull b4) rfl) ?_
 refine sp rfl (PE.fA Z0T rfl) rfl (spL rfl rfl (lfB (sz:=4) sc3 rfl) rfl (sp rfl (PE.add rfl rfl (by omega)) rfl (pur 1 rfl (Z2 ?_))))
 refine Zd (ι:=(x:{x:Nat×List Int×List Spn // x.1≤d.y.days+1∧Feas (d.y.cells+1) d.y.flows x.2.1∧BndOk d.y (ZeT d.y) x.1 x.2.2})×OSl 37 2 (sprows x.1.2.2)) (fun x=>⟨[(1,.pointer (some ⟨b1,0,none⟩)),(4,.pointer (some ⟨b4,0,none⟩)),(6,x.2.fs),(18,.int .i64 ((d.y.days:Int)+1)),(19,.int .i64 (x.1.1.1:Int))],x.2.G++(d.ba,cel 3 (Ze x.1.1.2.1++d.J))::H,RowsA (some ⟨b4,0,none⟩) 1 [[.pointer (some ⟨d.bd,0,none⟩)]]::RowsA (some ⟨b1,0,none⟩) 4 [ydl d.y a1 a2 a3 k1 k2 k3]::RowsA (some ⟨d.fb,0,none⟩) 4 (ZN d.y.flows)::RowsA (some ⟨d.bd,0,none⟩) 6 [d.l]::R⟩) (fun x=>d.y.days+1-x.1.1.1) ⟨⟨(0,A,[]),Nat.zero_le _,hA,BndOk.nil _ _⟩,OSl.nil _ _⟩ ?_ (fun x=>?_)
 exact Zf idH
 obtain ⟨⟨⟨t,A1,L⟩,ht,hf,hL⟩,o⟩:=x
 dsimp only at ht hf hL o ⊢
 refine sqt 1 rfl (pur 1 rfl (Z0 ?_))
 refine Z1 rfl ?_ ?_<;>intro hc1<;>try simp only [cS] at hc1
 have hLl:=hL.1
 refine Z3 (Z0 (Z2 (sqt 3 rfl (pur 1 rfl (alc rfl zl3 rfl (fun b7=>?_))))))
 refine Zy (l':=[.int .i64 (t:Int)]) rfl rfl rfl cn3 rfl rfl rfl rfl (nl rfl) ?_
 refine Sy.heap (H':=(d.ba,cel 3 (Ze A1++d.J))::(o.G++H)) (fun w h=>(St.row1 h rfl).perm List.perm_middle) ?_
 refine sqr 7 rfl (pur 1 rfl (spL rfl rfl (lfB (sz:=1) ZA rfl) rfl (sp rfl (PE.makeFunc rfl rfl) rfl ?_)))
 refine cl rfl ZoZ rfl rfl (ZkK d hy A1 hf 56 [] [.pointer (some ⟨b1,0,none⟩),.pointer (some ⟨b4,0,none⟩),.pointer (some ⟨b7,0,none⟩)] (ZeT d.y t) [RowsA (some ⟨b1,0,none⟩) 4 [ydl d.y a1 a2 a3 k1 k2 k3],RowsA (some ⟨b4,0,none⟩) 1 [[.pointer (some ⟨d.bd,0,none⟩)]],RowsA (some ⟨b7,0,none⟩) 1 [[.int .i64 (t:Int)]],RowsA (some ⟨d.bd,0,none⟩) 6 [d.l]] Zp0 (fun i H R hs=>by
   haveI:MemRows (some ⟨b1,0,none⟩) 4 [ydl d.y a1 a2 a3 k1 k2 k3] R:=⟨Z71 hs (by simp)⟩
   haveI:MemRows (some ⟨b4,0,none⟩) 1 [[.pointer (some ⟨d.bd,0,none⟩)]] R:=⟨Z71 hs (by simp)⟩
   haveI:MemRows (some ⟨b7,0,none⟩) 1 [[.int .i64 (t:Int)]] R:=⟨Z71 hs (by simp)⟩
   haveI:MemRows (some ⟨d.bd,0,none⟩) 6 [d.l] R:=⟨Z71 hs (by simp)⟩
   exact Zfp d hy a1 a2 a3 k1 k2 k3 b1 b4 b7 t i (by omega) H R) _ _) ?_
 rintro _ _ _ ⟨A2,s9,hf2,hs9,rfl,rfl,rfl⟩
 refine Sy.heap (fun w h=>St.ftail h) ?_
 refine bsl (out:=[_,_]) rfl Zrm Z1s rfl rfl rfl rfl rfl rfl (fun b26=>?_)
 refine apO (o) rfl ZqO rfl rfl (Z0y (row:=[.int .i64 s9.lo,.int .i64 s9.hi]) rfl) rfl rfl ((by simp only [srl,List.length_cons,List.length_nil];omega)) rfl (fun o27=>?_)
 refine pur 1 rfl (sqr 2 rfl (sp rfl (PE.add rfl rfl (by omega)) rfl (pur 1 rfl ?_)))
 exact Zb ⟨⟨(t+1,A2,L++[s9]),by dsimp only;omega,hf2,hL.snoc hs9⟩,o27.cast (by simp [sprows])⟩ (fun w h=>(h.del b26).perm List.perm_middle.symm)
 obtain rfl:t=d.y.days+1:=by omega
 refine Z7 (Z8 (Z8 (Zi (sqt 3 rfl (pur 3 rfl (Z4 ?_))))))
 exact rtB rfl rfl rfl rfl ⟨L,o,hL,rfl,rfl,rfl⟩ (fun w h=>(h.del d.ba).ftail.ftail.ftail.ftail)
end Go.Proofs.YtcfdanhklbklkaaGreat.Sk
namespace Go.Proofs.YtcfdanhklbklkaaGreat.Sk
set_option linter.unusedSimpArgs false
set_option linter.unusedVariables false
def Z9U:List SMov→List Int→Int→Int→Int
 | m::mv,a::am,b,t=>((bif decide (m.day<t)&&decide (m.to=b) then a else 0)-(bif decide (m.day<t)&&decide (m.fr=b) then a else 0))+Z9U mv am b t
 | _,_,_,_=>0
def con (fs:List Int) (mv:List SMov) (am:List Int) (b:Nat) (t:Int):Int:=na fs b+Z9U mv am (b:Int) t
theorem Z7O {b:Int}:∀ {mv:List SMov} {am:List Int},(∀ m∈mv,0≤m.day)→Z9U mv am b 0=0
 | [],am,_=>by cases am<;>rfl
 | m::mv,[],_=>rfl
 | m::mv,a::am,h=>by
   have ih:=Z7O (b:=b) (mv:=mv) (am:=am) (fun x hx=>h x (by simp [hx]))
   have h0:=h m (by simp)
   show ((bif decide (m.day<0)&&decide (m.to=b) then a else 0)-(bif decide (m.day<0)&&decide (m.fr=b) then a else 0))+Z9U mv am b 0=0
   rw [ih,decide_eq_false (show ¬ m.day<0 by omega)];rfl
structure Mok (y:Yrd) (fs am:List Int):Prop where
 fl:fs.length=y.bins.length
 al:am.length=y.moves.length
 fst:∀ b x,y.bins[b]?=some x→x.fst.lo≤na fs b∧na fs b≤x.fst.hi
 mov:∀ i m,y.moves[i]?=some m→m.s.lo≤na am i∧na am i≤m.s.hi
 con:∀ (b:Nat) x (t:Int),y.bins[b]?=some x→0≤t→t≤y.days→0≤con fs y.moves am b t∧con fs y.moves am b t≤x.holds
 lev:∀ l∈y.levels,l.s.lo≤Sk.con fs y.moves am l.bin.toNat l.day∧Sk.con fs y.moves am l.bin.toNat l.day≤l.s.hi
theorem Z4A {d b t b0 t0:Nat} (ht:t<d) (h0:t0<d):b*d+t=b0*d+t0↔b=b0∧t=t0:=by
 constructor
 · intro h
   have h1:(b*d+t) / d=(b0*d+t0) / d:=by rw [h]
   have h2:(b*d+t)%d=(b0*d+t0)%d:=by rw [h]
   rw [Nat.mul_comm b,Nat.mul_comm b0,Nat.mul_add_div (by omega),Nat.mul_add_div (by omega),Nat.div_eq_of_lt ht,Nat.div_eq_of_lt h0] at h1
   rw [Nat.mul_comm b,Nat.mul_comm b0,Nat.mul_add_mod,Nat.mul_add_mod,Nat.mod_eq_of_lt ht,Nat.mod_eq_of_lt h0] at h2
   omega
 · rintro ⟨rfl,rfl⟩;rfl
theorem Z8N {y:Yrd} {b t:Nat} (hb:b<y.bins.length) (ht:t<y.days):b*y.days+t<y.cells:=by
 unfold Yrd.cells
 have:(b+1)*y.days≤y.bins.length*y.days:=Nat.mul_le_mul_right _ hb
 rw [Nat.succ_mul] at this;omega
theorem Zav {y:Yrd} {g:Nat→Int} {b b0 t0:Nat} (h0:b0<y.bins.length) (ht0:t0<y.days):∀ m,m≤y.days+1→ovr ((List.range m).map (y.keptF b (y.binD b))) ((List.range m).map g) (b0*y.days+t0)=if b=b0 then (if t0<m then g t0 else 0)-(if t0+1<m then g (t0+1) else 0) else 0
 | 0,_=>by
   rw [List.range_zero,List.map_nil,List.map_nil,if_neg (show ¬ t0<0 by omega),if_neg (show ¬ t0+1<0 by omega)]
   show (0:Int)=_
   split<;>rfl
 | m+1,hm=>by
   have ih:=Zav (g:=g) (b:=b) h0 ht0 m (by omega)
   obtain ⟨e1,e2⟩:=Z6X b m y.levels (y.base b m (y.binD b))
   have hcl:=Z8N h0 ht0
   rw [List.range_succ,List.map_append,List.map_append,Z74 (by simp),ih,List.map_singleton,List.map_singleton]
   show _+(((bif decide ((y.keptF b (y.binD b) m).to=b0*y.days+t0) then g m else 0)-(bif decide ((y.keptF b (y.binD b) m).fr=b0*y.days+t0) then g m else 0))+0)=_
   unfold Yrd.keptF
   rw [e1,e2]
   have hto:((y.base b m (y.binD b)).to=b0*y.days+t0)↔(b=b0∧m=t0):=by
     unfold Yrd.base
     by_cases h:m<y.days
     · rw [decide_eq_true h];exact Z4A h ht0
     · rw [decide_eq_false h]
       show y.cells=_↔_
       constructor
       · intro e;omega
       · rintro ⟨_,e⟩;omega
   have hfr:((y.base b m (y.binD b)).fr=b0*y.days+t0)↔(b=b0∧m=t0+1):=by
     unfold Yrd.base
     by_cases h:0<m
     · rw [decide_eq_true h]
       show b*y.days+(m-1)=_↔_
       rw [Z4A (by omega) ht0];omega
     · rw [decide_eq_false h]
       show y.cells=_↔_
       constructor
       · intro e;omega
       · rintro ⟨_,e⟩;omega
   rw [decide_eq_decide.2 hto,decide_eq_decide.2 hfr]
   by_cases e:b=b0
   · subst e
     rw [if_pos rfl,if_pos rfl]
     by_cases h1:m=t0
     · subst h1
       rw [decide_eq_true (show b=b∧m=m from ⟨rfl,rfl⟩),decide_eq_false (show ¬ (b=b∧m=m+1) by omega),if_neg (show ¬ m<m by omega),if_neg (show ¬ m+1<m by omega),if_pos (show m<m+1 by omega),if_neg (show ¬ m+1<m+1 by omega)]
       simp only [cond_true,cond_false];omega
     · by_cases h2:m=t0+1
       · subst h2
         rw [decide_eq_false (show ¬ (b=b∧t0+1=t0) by omega),decide_eq_true (show b=b∧t0+1=t0+1 from ⟨rfl,rfl⟩),if_pos (show t0<t0+1 by omega),if_neg (show ¬ t0+1<t0+1 by omega),if_pos (show t0<t0+1+1 by omega),if_pos (show t0+1<t0+1+1 by omega)]
         simp only [cond_true,cond_false];omega
       · rw [decide_eq_false (fun h=>h1 h.2),decide_eq_false (fun h=>h2 h.2)]
         simp only [cond_false]
         by_cases h3:t0<m
         · rw [if_pos h3,if_pos (show t0<m+1 by omega),if_pos (show t0+1<m by omega),if_pos (show t0+1<m+1 by omega)];omega
         · rw [if_neg h3,if_neg (show ¬ t0<m+1 by omega),if_neg (show ¬ t0+1<m by omega),if_neg (show ¬ t0+1<m+1 by omega)];omega
   · rw [if_neg e,if_neg e,decide_eq_false (fun h=>e h.1),decide_eq_false (fun h=>e h.1)];rfl
def Zbc (y:Yrd) (g:Nat→Nat→Int):Nat→List Int
 | 0=>[]
 | k+1=>Zbc y g k++(List.range (y.days+1)).map (g k)
theorem Z0Z (y:Yrd) (g:Nat→Nat→Int):∀ k,(Zbc y g k).length=k*(y.days+1)
 | 0=>by rw [Nat.zero_mul];rfl
 | k+1=>by unfold Zbc;rw [List.length_append,Z0Z y g k,List.length_map,List.length_range,Nat.succ_mul]
theorem Zds {y:Yrd} {g:Nat→Nat→Int} {b t:Nat} (ht:t≤y.days):∀ {k},b<k→na (Zbc y g k) (b*(y.days+1)+t)=g b t
 | k+1,hb=>by
   unfold Zbc
   by_cases e:b=k
   · subst e
     rw [show b*(y.days+1)+t=(Zbc y g b).length+t by rw [Z0Z],Z92]
     unfold na
     rw [List.getD_eq_getElem?_getD,List.getElem?_map,List.getElem?_range (by omega)];rfl
   · rw [ZdK (by rw [Z0Z];exact Z3X (by omega) ht)]
     exact Zds ht (by omega)
theorem Z8f {y:Yrd} {g:Nat→Nat→Int} {b0 t0:Nat} (h0:b0<y.bins.length) (ht0:t0<y.days):∀ k,ovr (y.keptN k) (Zbc y g k) (b0*y.days+t0)=if b0<k then g b0 t0-g b0 (t0+1) else 0
 | 0=>by rw [if_neg (by omega)];rfl
 | k+1=>by
   have ih:=Z8f (g:=g) h0 ht0 k
   rw [Z63]
   unfold Zbc
   rw [Z74 (by rw [Z0Z,ZT]),ih]
   unfold Yrd.keptB
   rw [Zav (b:=k) h0 ht0 (y.days+1) (Nat.le_refl _),if_pos (show t0<y.days+1 by omega),if_pos (show t0+1<y.days+1 by omega)]
   by_cases e:k=b0
   · subst e;rw [if_neg (show ¬ k<k by omega),if_pos rfl,if_pos (show k<k+1 by omega)];omega
   · rw [if_neg e]
     by_cases h:b0<k
     · rw [if_pos h,if_pos (show b0<k+1 by omega)];omega
     · rw [if_neg h,if_neg (show ¬ b0<k+1 by omega)];omega
theorem Zaw {y:Yrd} {b0 t0:Nat} (h0:b0<y.bins.length) (ht0:t0<y.days):∀ {mv:List SMov} {am:List Int},(∀ m∈mv,(0≤m.day∧m.day<y.days)∧(-1≤m.fr∧m.fr<y.bins.length)∧(-1≤m.to∧m.to<y.bins.length))→ovr (mv.map y.movF) am (b0*y.days+t0)=Z9U mv am (b0:Int) ((t0:Int)+1)-Z9U mv am (b0:Int) (t0:Int)
 | [],am,_=>by cases am<;>rfl
 | m::mv,[],_=>rfl
 | m::mv,a::am,h=>by
   have ih:=Zaw h0 ht0 (mv:=mv) (am:=am) (fun x hx=>h x (by simp [hx]))
   obtain ⟨hd,hf,ht⟩:=h m (by simp)
   have hcl:=Z8N h0 ht0
   have key:∀ x:Int,(-1≤x∧x<y.bins.length)→(y.cell x m.day.toNat=b0*y.days+t0↔(x=(b0:Int)∧m.day=(t0:Int))):=fun x hx=>by
     unfold Yrd.cell
     by_cases e:x = -1
     · rw [decide_eq_true e]
       show y.cells=_↔_
       constructor
       · intro e;omega
       · rintro ⟨e2,_⟩;omega
     · rw [decide_eq_false e]
       show x.toNat*y.days+m.day.toNat=_↔_
       rw [Z4A (by omega) ht0];omega
   show ((bif decide (y.cell m.to m.day.toNat=b0*y.days+t0) then a else 0)-(bif decide (y.cell m.fr m.day.toNat=b0*y.days+t0) then a else 0))+ovr (mv.map y.movF) am (b0*y.days+t0)
     = (((bif decide (m.day<(t0:Int)+1)&&decide (m.to=(b0:Int)) then a else 0)-(bif decide (m.day<(t0:Int)+1)&&decide (m.fr=(b0:Int)) then a else 0))+Z9U mv am (b0:Int) ((t0:Int)+1))
     - (((bif decide (m.day<(t0:Int))&&decide (m.to=(b0:Int)) then a else 0)-(bif decide (m.day<(t0:Int))&&decide (m.fr=(b0:Int)) then a else 0))+Z9U mv am (b0:Int) (t0:Int))
   rw [ih,decide_eq_decide.2 (key m.to ht),decide_eq_decide.2 (key m.fr hf)]
   have split:∀ x:Int,(bif decide (x=(b0:Int)∧m.day=(t0:Int)) then a else 0)=(bif decide (m.day<(t0:Int)+1)&&decide (x=(b0:Int)) then a else 0)-(bif decide (m.day<(t0:Int))&&decide (x=(b0:Int)) then a else 0):=fun x=>by
     by_cases e:x=(b0:Int)
     · rw [decide_eq_true e,Bool.and_true,Bool.and_true]
       by_cases h1:m.day=(t0:Int)
       · rw [decide_eq_true ⟨e,h1⟩,decide_eq_true (show m.day<(t0:Int)+1 by omega),decide_eq_false (show ¬ m.day<(t0:Int) by omega)]
         simp only [cond_true,cond_false];omega
       · rw [decide_eq_false (fun h=>h1 h.2)]
         by_cases h2:m.day<(t0:Int)
         · rw [decide_eq_true h2,decide_eq_true (show m.day<(t0:Int)+1 by omega)];simp only [cond_true,cond_false];omega
         · rw [decide_eq_false h2,decide_eq_false (show ¬ m.day<(t0:Int)+1 by omega)];simp only [cond_false];omega
     · rw [decide_eq_false e,Bool.and_false,Bool.and_false,decide_eq_false (fun h=>e h.1)];rfl
   rw [split m.to,split m.fr]
   omega
theorem Zdu {b t:Nat} {v:Int}:∀ (ls:List SLev) (f:Fl),f.lo≤v∧v≤f.hi→(∀ l∈ls,l.bin=(b:Int)→l.day=(t:Int)→l.s.lo≤v∧v≤l.s.hi)→(ls.foldl (Z1i b t) f).lo≤v∧v≤(ls.foldl (Z1i b t) f).hi
 | [],f,h,_=>h
 | l::ls,f,h,hl=>by
   rw [List.foldl_cons]
   refine Zdu ls _ ?_ (fun x hx=>hl x (by simp [hx]))
   unfold Z1i
   by_cases e1:l.bin=(b:Int)
   · by_cases e2:l.day=(t:Int)
     · have:=hl l (by simp) e1 e2
       rw [decide_eq_true e1,decide_eq_true e2]
       show max f.lo l.s.lo≤v∧v≤min f.hi l.s.hi
       omega
     · rw [decide_eq_false e2,Bool.and_false];exact h
   · rw [decide_eq_false e1,Bool.false_and];exact h
theorem ZdG {y:Yrd} (hy:y.ok) {fs am:List Int} (h:Mok y fs am):∃ B,Feas (y.cells+1) y.flows B∧∀ j,na B (y.N0+j)=na am j:=by
 have hF:∀ f∈y.flows,f.fr<y.cells+1∧f.to<y.cells+1:=fun g hg=>(Z0i hy g hg).1
 have hlen:(Zbc y (fun b t=>con fs y.moves am b t) y.bins.length++am).length=y.flows.length:=by
   rw [List.length_append,Z0Z,h.al,Z3n];rfl
 have hd0:∀ m∈y.moves,0≤m.day:=fun m hm=>(hy.mov m hm).1.1
 have hz:∀ c,c<y.cells→ovr y.flows (Zbc y (fun b t=>con fs y.moves am b t) y.bins.length++am) c=0:=fun c hc=>by
   have hdp:0<y.days:=by have:=hy.days;omega
   have hb:c / y.days<y.bins.length:=Nat.div_lt_of_lt_mul (by unfold Yrd.cells at hc;rw [Nat.mul_comm];exact hc)
   have ht:c%y.days<y.days:=Nat.mod_lt _ hdp
   have e:c=(c / y.days)*y.days+c%y.days:=by rw [Nat.mul_comm];exact (Nat.div_add_mod c y.days).symm
   rw [e]
   generalize c / y.days=b0 at hb ⊢
   generalize c%y.days=t0 at ht ⊢
   unfold Yrd.flows
   rw [Z74 (by rw [Z0Z,ZT]),Z8f hb ht,if_pos hb,Zaw hb ht (fun m hm=>⟨(hy.mov m hm).1,(hy.mov m hm).2.1,(hy.mov m hm).2.2.1⟩)]
   show con fs y.moves am b0 ((t0:Nat):Int)-con fs y.moves am b0 (((t0+1:Nat)):Int)+_=0
   unfold con
   rw [show ((t0+1:Nat):Int)=(t0:Int)+1 by omega]
   omega
 refine ⟨_,⟨hlen,fun i f hi=>?_,fun c hc=>?_⟩,fun j=>by rw [show y.N0+j=(Zbc y (fun b t=>con fs y.moves am b t) y.bins.length).length+j by rw [Z0Z];rfl,Z92]⟩
 · rcases Z1P hi with ⟨b,t,hb,ht,rfl,rfl⟩ | ⟨j,m,hm,rfl,rfl⟩
   · have hx:y.bins[b]?=some (y.binD b):=by unfold Yrd.binD;rw [List.getD_eq_getElem?_getD,List.getElem?_eq_getElem hb];rfl
     rw [ZdK (by rw [Z0Z];exact Z3X hb ht),Zds ht hb]
     have hc:=h.con b _ (t:Int) hx (by omega) (by omega)
     refine Zdu y.levels _ ?_ (fun l hl e1 e2=>?_)
     · have hs:=h.fst b _ hx
       unfold Yrd.base
       by_cases e:0<t
       · rw [decide_eq_true e];exact hc
       · rw [decide_eq_false e]
         obtain rfl:t=0:=by omega
         have h0:con fs y.moves am b ((0:Nat):Int)=na fs b:=by unfold con;rw [show ((0:Nat):Int)=0 from rfl,Z7O hd0];omega
         rw [h0] at hc ⊢
         show max 0 (y.binD b).fst.lo≤na fs b∧na fs b≤min (y.binD b).holds (y.binD b).fst.hi
         omega
     · have:=h.lev l hl
       rw [e1,e2] at this
       simpa using this
   · show m.s.lo≤_∧_≤m.s.hi
     rw [show y.bins.length*(y.days+1)+j=(Zbc y (fun b t=>con fs y.moves am b t) y.bins.length).length+j by rw [Z0Z],Z92]
     exact h.mov j m hm
 · by_cases e:c<y.cells
   · exact hz c e
   · obtain rfl:c=y.cells:=by omega
     have h1:=ZdW (A:=Zbc y (fun b t=>con fs y.moves am b t) y.bins.length++am) hF
     rw [Zeu (k:=y.cells) (by omega) (fun q hq hne=>hz q (by omega))] at h1
     exact h1
def smT (f:SMov→Int) (t:Int):List SMov→Int
 | []=>0
 | m::ms=>(bif decide (m.day<t) then f m else 0)+smT f t ms
theorem Z11 (f:SMov→Int) (t:Int) (m:SMov):∀ ms,smT f t (ms++[m])=smT f t ms+(bif decide (m.day<t) then f m else 0)
 | []=>by show _+0=0+_;omega
 | x::ms=>by show _+smT f t (ms++[m])=_+smT f t ms+_;rw [Z11 f t m ms];omega
theorem smT_zero (f:SMov→Int):∀ {ms:List SMov},(∀ m∈ms,0≤m.day)→smT f 0 ms=0
 | [],_=>rfl
 | m::ms,h=>by
   show _+smT f 0 ms=0
   rw [smT_zero f (fun x hx=>h x (by simp [hx])),decide_eq_false (by have:=h m (by simp);omega)];rfl
def dW (ms:List SMov) (t:Int) (j:Nat):Int:=match ms[j]? with | some m=>bif decide (m.day<t) then 1 else 0 | none=>0
theorem Z9W {f:SMov→Int} {t:Int}:∀ {ms:List SMov} {M:List Int},M.length=ms.length→(∀ j m,ms[j]?=some m→f m≤na M j)→smT f t ms≤Z0b (dW ms t) M
 | [],[],_,_=>Int.le_refl _
 | m::ms,a::M,hl,h=>by
   have ih:=Z9W (f:=f) (t:=t) (ms:=ms) (M:=M) (by simpa using hl) (fun j x hx=>h (j+1) x hx)
   have h0:f m≤a:=h 0 m rfl
   show _+smT f t ms≤dW (m::ms) t 0*a+Z0b (fun i=>dW (m::ms) t (i+1)) M
   have e:(fun i=>dW (m::ms) t (i+1))=dW ms t:=rfl
   rw [e]
   have e0:dW (m::ms) t 0=bif decide (m.day<t) then 1 else 0:=rfl
   rw [e0]
   cases decide (m.day<t)<;>simp only [cond_true,cond_false]<;>omega
theorem Z6B {f:SMov→Int} {t:Int}:∀ {ms:List SMov} {M:List Int},M.length=ms.length→(∀ j m,ms[j]?=some m→na M j≤f m)→Z0b (dW ms t) M≤smT f t ms
 | [],[],_,_=>Int.le_refl _
 | m::ms,a::M,hl,h=>by
   have ih:=Z6B (f:=f) (t:=t) (ms:=ms) (M:=M) (by simpa using hl) (fun j x hx=>h (j+1) x hx)
   have h0:a≤f m:=h 0 m rfl
   show dW (m::ms) t 0*a+Z0b (fun i=>dW (m::ms) t (i+1)) M≤_+smT f t ms
   have e:(fun i=>dW (m::ms) t (i+1))=dW ms t:=rfl
   rw [e]
   have e0:dW (m::ms) t 0=bif decide (m.day<t) then 1 else 0:=rfl
   rw [e0]
   cases decide (m.day<t)<;>simp only [cond_true,cond_false]<;>omega
theorem ZaQ:∀ {P M:List Int} {w:Nat→Int},Z0b w (P++M)=Z0b w P+Z0b (fun i=>w (P.length+i)) M
 | [],M,w=>by simp [Z0b]
 | a::P,M,w=>by
   show w 0*a+Z0b (fun i=>w (i+1)) (P++M)=(w 0*a+Z0b (fun i=>w (i+1)) P)+_
   rw [ZaQ (P:=P)]
   have e:(fun i=>w (P.length+i+1))=fun i=>w ((a::P).length+i):=funext fun i=>by rw [List.length_cons];congr 1;omega
   rw [e];omega
theorem Z5A:∀ {A:List Int} {u w:Nat→Int},(∀ i,i<A.length→u i*na A i=w i*na A i)→Z0b u A=Z0b w A
 | [],_,_,_=>rfl
 | a::A,u,w,h=>by
   have h0:u 0*a=w 0*a:=h 0 (Nat.zero_lt_succ _)
   show u 0*a+_=w 0*a+_
   rw [h0,Z5A (A:=A) (u:=fun i=>u (i+1)) (w:=fun i=>w (i+1)) (fun i hi=>h (i+1) (Nat.succ_lt_succ hi))]
theorem Z8s:∀ (A:List Int) (u w:Nat→Int),Z0b (fun i=>u i-w i) A=Z0b u A-Z0b w A
 | [],_,_=>rfl
 | a::A,u,w=>by
   show (u 0-w 0)*a+_=(u 0*a+_)-(w 0*a+_)
   rw [Z8s A (fun i=>u (i+1)) (fun i=>w (i+1)),Int.sub_mul];omega
def dlt (p:Nat→Int) (F:List Fl) (i:Nat):Int:=match F[i]? with | some f=>p f.to-p f.fr | none=>0
theorem ZcG (p:Nat→Int):∀ {F:List Fl} {A:List Int},A.length=F.length→Z0b (dlt p F) A=pot p F A
 | [],[],_=>rfl
 | f::F,a::A,h=>by
   show dlt p (f::F) 0*a+Z0b (fun i=>dlt p (f::F) (i+1)) A=(p f.to-p f.fr)*a+pot p F A
   rw [← ZcG p (F:=F) (A:=A) (by simpa using h)];rfl
structure Brg (y:Yrd) (K:Int):Prop where
 ok:y.ok
 lev:y.levels=[]
 bin:∀ x∈y.bins,x=⟨300,⟨0,0⟩⟩
 mov:∀ m∈y.moves,m.fr = -1∧0≤m.to
 fit:∀ m∈y.moves,m.s.hi≤K
 all:K*(y.moves.length:Int)≤300
def pS (y:Yrd) (t:Nat) (c:Nat):Int:=bif decide (c<y.cells)&&decide (c%y.days<t) then 1 else 0
theorem Z97 {y:Yrd} {b s t:Nat} (hb:b<y.bins.length) (hs:s<y.days):pS y t (b*y.days+s)=bif decide (s<t) then 1 else 0:=by
 unfold pS
 rw [decide_eq_true (Z8N hb hs),Bool.true_and,Nat.mul_comm,Nat.mul_add_mod,Nat.mod_eq_of_lt hs]
theorem Zhw (y:Yrd) (t:Nat):pS y t y.cells=0:=by unfold pS;rw [decide_eq_false (Nat.lt_irrefl _)];rfl
theorem Zf9 {y:Yrd} {K:Int} (h:Brg y K) {b s t:Nat} (hb:b<y.bins.length) (hs:s≤y.days) (ht:t≤y.days) (h1:1≤s):pS y t (y.keptF b (y.binD b) s).to-pS y t (y.keptF b (y.binD b) s).fr = -(bif decide (s=t) then 1 else 0):=by
 unfold Yrd.keptF
 rw [h.lev]
 show pS y t (bif decide (s<y.days) then b*y.days+s else y.cells)-pS y t (bif decide (0<s) then b*y.days+(s-1) else y.cells)=_
 rw [decide_eq_true (show 0<s by omega),cond_true,Z97 hb (show s-1<y.days by omega)]
 by_cases e:s<y.days
 · rw [decide_eq_true e,cond_true,Z97 hb e]
   by_cases e1:s<t
   · rw [decide_eq_true e1,decide_eq_true (show s-1<t by omega),decide_eq_false (show ¬ s=t by omega)];rfl
   · by_cases e2:s=t
     · rw [decide_eq_false e1,decide_eq_true (show s-1<t by omega),decide_eq_true e2];rfl
     · rw [decide_eq_false e1,decide_eq_false (show ¬ s-1<t by omega),decide_eq_false e2];rfl
 · rw [decide_eq_false e,cond_false,Zhw]
   by_cases e2:s=t
   · rw [decide_eq_true (show s-1<t by omega),decide_eq_true e2];rfl
   · rw [decide_eq_false (show ¬ s-1<t by omega),decide_eq_false e2];rfl
theorem Zic {y:Yrd} {K:Int} (h:Brg y K) {m:SMov} (hm:m∈y.moves) {t:Nat}:pS y t (y.movF m).to-pS y t (y.movF m).fr=bif decide (m.day<(t:Int)) then 1 else 0:=by
 obtain ⟨h1,h2⟩:=h.mov m hm
 obtain ⟨h3,_,h5,_⟩:=h.ok.mov m hm
 unfold Yrd.movF Yrd.cell
 rw [h1,decide_eq_true rfl,cond_true,Zhw,decide_eq_false (show ¬ m.to = -1 by omega),cond_false,Z97 (show m.to.toNat<y.bins.length by omega) (show m.day.toNat<y.days by omega)]
 by_cases e:m.day<(t:Int)
 · rw [decide_eq_true e,decide_eq_true (show m.day.toNat<t by omega)];rfl
 · rw [decide_eq_false e,decide_eq_false (show ¬ m.day.toNat<t by omega)];rfl
theorem Z6p {y:Yrd} {K:Int} (h:Brg y K) (hw:Nat→Bool) {t:Nat} (ht:t≤y.days) (hk:∀ b s,b<y.bins.length→s≤y.days→hw (b*(y.days+1)+s)=decide (s=t)) (hm:∀ j,hw (y.N0+j)=false) {A:List Int} (hA:Feas (y.cells+1) y.flows A) :
   Z0b (fun i=>bif hw i then 1 else 0) A=Z0b (dW y.moves (t:Int)) (A.drop y.N0):=by
 have hF:∀ f∈y.flows,f.fr<y.cells+1∧f.to<y.cells+1:=fun g hg=>(Z0i h.ok g hg).1
 have hlen:=hA.len
 rw [Z3n] at hlen
 have hz:Z0b (dlt (pS y t) y.flows) A=0:=by rw [ZcG _ hA.len];exact hA.pot hF _
 have key:Z0b (fun i=>bif hw i then 1 else 0) A=Z0b (fun i=>(bif decide (i<y.N0) then 0 else dW y.moves (t:Int) (i-y.N0))-dlt (pS y t) y.flows i) A:=Z5A fun i hi=>by
   obtain ⟨f,hf⟩:∃ f,y.flows[i]?=some f:=⟨_,List.getElem?_eq_getElem (by rw [← hA.len];exact hi)⟩
   have hd:dlt (pS y t) y.flows i=pS y t f.to-pS y t f.fr:=by unfold dlt;rw [hf]
   rw [hd]
   rcases Z1P hf with ⟨b,s,hb,hs,rfl,rfl⟩ | ⟨j,m,hmj,rfl,rfl⟩
   · rw [hk b s hb hs,decide_eq_true (show b*(y.days+1)+s<y.N0 from Z3X hb hs),cond_true]
     by_cases e:1≤s
     · rw [Zf9 h hb hs ht e]
       cases decide (s=t)<;>simp
     · obtain rfl:s=0:=by omega
       have hx:y.bins[b]?=some (y.binD b):=by unfold Yrd.binD;rw [List.getD_eq_getElem?_getD,List.getElem?_eq_getElem hb];rfl
       have hbn:=h.bin _ (List.mem_of_getElem? hx)
       have hbd:=hA.bnd _ _ hf
       have hz0:na A (b*(y.days+1)+0)=0:=by
         unfold Yrd.keptF at hbd
         rw [h.lev,hbn] at hbd
         have h1:max (0:Int) 0≤na A (b*(y.days+1)+0)∧na A (b*(y.days+1)+0)≤min (300:Int) 0:=hbd
         omega
       rw [hz0,Int.mul_zero,Int.mul_zero]
   · have e1:hw (y.bins.length*(y.days+1)+j)=false:=hm j
     rw [e1,decide_eq_false (show ¬ y.bins.length*(y.days+1)+j<y.N0 by show ¬ y.N0+j<y.N0;omega),cond_false,cond_false,Zic h (List.mem_of_getElem? hmj)]
     have e2:dW y.moves (t:Int) (y.bins.length*(y.days+1)+j-y.N0)=bif decide (m.day<(t:Int)) then 1 else 0:=by
       rw [show y.bins.length*(y.days+1)+j-y.N0=j by show y.N0+j-y.N0=j;omega]
       unfold dW;rw [hmj]
     rw [e2,Int.sub_self]
 rw [key,Z8s,hz,Int.sub_zero]
 conv=>lhs;rw [← List.take_append_drop y.N0 A]
 have hP:(A.take y.N0).length=y.N0:=by rw [List.length_take];omega
 rw [ZaQ,hP]
 have e1:Z0b (fun i=>bif decide (i<y.N0) then 0 else dW y.moves (t:Int) (i-y.N0)) (A.take y.N0)=0:=by
   rw [Z5A (w:=fun _=>0) (fun i hi=>by rw [hP] at hi;rw [decide_eq_true hi];rfl)]
   exact Z8u _ _ (fun _=>rfl)
 have e2:(fun i=>bif decide (y.N0+i<y.N0) then (0:Int) else dW y.moves (t:Int) (y.N0+i-y.N0))=dW y.moves (t:Int):=funext fun i=>by
   rw [decide_eq_false (by omega),cond_false,Nat.add_sub_cancel_left]
 rw [e1,e2,Int.zero_add]
theorem Z7N {b t:Int} {K:Int} (hK:0≤K) (hb:0≤b):∀ {mv:List SMov} {am:List Int},am.length=mv.length→(∀ m∈mv,m.fr = -1)→(∀ x∈am,0≤x∧x≤K)→0≤Z9U mv am b t∧Z9U mv am b t≤K*(mv.length:Int)
 | [],[],_,_,_=>by constructor<;>(show _≤_;simp [Z9U])
 | m::mv,a::am,hl,h1,h2=>by
   have ih:=Z7N (b:=b) (t:=t) hK hb (mv:=mv) (am:=am) (by simpa using hl) (fun x hx=>h1 x (by simp [hx])) (fun x hx=>h2 x (by simp [hx]))
   have h3:=h1 m (by simp)
   have h4:=h2 a (by simp)
   show 0≤((bif decide (m.day<t)&&decide (m.to=b) then a else 0)-(bif decide (m.day<t)&&decide (m.fr=b) then a else 0))+Z9U mv am b t∧_≤_
   rw [decide_eq_false (show ¬ m.fr=b by omega),Bool.and_false,cond_false]
   have h5:Z9U (m::mv) (a::am) b t=((bif decide (m.day<t)&&decide (m.to=b) then a else 0)-(bif decide (m.day<t)&&decide (m.fr=b) then a else 0))+Z9U mv am b t:=rfl
   rw [h5,decide_eq_false (show ¬ m.fr=b by omega),Bool.and_false,cond_false,List.length_cons,Int.natCast_add,Int.mul_add]
   cases decide (m.day<t)&&decide (m.to=b)<;>simp only [cond_true,cond_false]<;>omega
theorem Z6o {y:Yrd} {K:Int} (h:Brg y K) {f:SMov→Int} (hf:∀ m∈y.moves,m.s.lo≤f m∧f m≤m.s.hi):∃ B,Feas (y.cells+1) y.flows B∧∀ j m,y.moves[j]?=some m→na B (y.N0+j)=f m:=by
 have hna0:∀ (n b:Nat),na (List.replicate n 0) b=0:=fun n b=>by
   unfold na;rw [List.getD_eq_getElem?_getD,List.getElem?_replicate];split<;>rfl
 have hat:∀ j m,y.moves[j]?=some m→na (y.moves.map f) j=f m:=fun j m hm=>by
   unfold na;rw [List.getD_eq_getElem?_getD,List.getElem?_map,hm];rfl
 have hrange:∀ x∈y.moves.map f,0≤x∧x≤max K 0:=fun x hx=>by
   obtain ⟨m,hm,rfl⟩:=List.mem_map.1 hx
   have h1:=hf m hm
   have h2:=h.fit m hm
   have h3:=(h.ok.mov m hm).2.2.2.2.1
   omega
 have hall:max K 0*(y.moves.length:Int)≤300:=by
   rcases Int.le_total 0 K with h1 | h1
   · rw [Int.max_eq_left h1];exact h.all
   · rw [Int.max_eq_right h1];omega
 obtain ⟨B,hB,hj⟩:=ZdG h.ok (fs:=List.replicate y.bins.length 0) (am:=y.moves.map f) ⟨by simp,by simp,fun b x hx=>by
   rw [hna0,h.bin x (List.mem_of_getElem? hx)];decide,fun i m hm=>by rw [hat i m hm];exact hf m (List.mem_of_getElem? hm),fun b x t hx h0 h1=>by
   unfold con
   rw [hna0,h.bin x (List.mem_of_getElem? hx)]
   have:=Z7N (b:=(b:Int)) (t:=t) (K:=max K 0) (by omega) (by omega) (mv:=y.moves) (am:=y.moves.map f) (by simp) (fun m hm=>(h.mov m hm).1) hrange
   show 0≤0+_∧0+_≤(300:Int)
   omega,fun l hl=>by rw [h.lev] at hl;cases hl⟩
 exact ⟨B,hB,fun j m hm=>by rw [hj,hat j m hm]⟩
theorem ZbL {y:Yrd} {K:Int} (h:Brg y K) {hw:Nat→Bool} {t:Nat} (ht:t≤y.days) (hk:∀ b s,b<y.bins.length→s≤y.days→hw (b*(y.days+1)+s)=decide (s=t)) (hm:∀ j,hw (y.N0+j)=false) :
   Lst (y.cells+1) y.flows (fun i=>bif hw i then 1 else 0) (smT (·.s.lo) t y.moves)∧Grt (y.cells+1) y.flows (fun i=>bif hw i then 1 else 0) (smT (·.s.hi) t y.moves):=by
 have hdl:∀ {A:List Int},Feas (y.cells+1) y.flows A→(A.drop y.N0).length=y.moves.length:=fun {A} hA=>by
   have:=hA.len;rw [Z3n] at this;rw [List.length_drop];omega
 have hbd:∀ {A:List Int},Feas (y.cells+1) y.flows A→∀ j m,y.moves[j]?=some m→m.s.lo≤na (A.drop y.N0) j∧na (A.drop y.N0) j≤m.s.hi:=fun {A} hA j m hj=>by
   rw [Z93]
   exact hA.bnd _ (y.movF m) (Z7U hj)
 have hso:∀ m∈y.moves,m.s.lo≤m.s.hi:=fun m hmm=>(h.ok.mov m hmm).2.2.2.2.2.1
 obtain ⟨A,hA,hA2⟩:=Z6o h (f:=(·.s.lo)) (fun m hmm=>⟨Int.le_refl _,hso m hmm⟩)
 obtain ⟨B,hB,hB2⟩:=Z6o h (f:=(·.s.hi)) (fun m hmm=>⟨hso m hmm,Int.le_refl _⟩)
 have e1:∀ j m,y.moves[j]?=some m→na (A.drop y.N0) j=m.s.lo:=fun j m hj=>by rw [Z93];exact hA2 j m hj
 have e2:∀ j m,y.moves[j]?=some m→na (B.drop y.N0) j=m.s.hi:=fun j m hj=>by rw [Z93];exact hB2 j m hj
 refine ⟨⟨⟨A,hA,?_⟩,fun C hC=>?_⟩,⟨B,hB,?_⟩,fun C hC=>?_⟩
 · rw [Z6p h hw ht hk hm hA]
   exact Int.le_antisymm (Z6B (hdl hA) (fun j m hj=>Int.le_of_eq (e1 j m hj))) (Z9W (hdl hA) (fun j m hj=>Int.le_of_eq (e1 j m hj).symm))
 · rw [Z6p h hw ht hk hm hC]
   exact Z9W (hdl hC) (fun j m hj=>(hbd hC j m hj).1)
 · rw [Z6p h hw ht hk hm hB]
   exact Int.le_antisymm (Z6B (hdl hB) (fun j m hj=>Int.le_of_eq (e2 j m hj))) (Z9W (hdl hB) (fun j m hj=>Int.le_of_eq (e2 j m hj).symm))
 · rw [Z6p h hw ht hk hm hC]
   exact Z6B (hdl hC) (fun j m hj=>(hbd hC j m hj).2)
end Go.Proofs.YtcfdanhklbklkaaGreat.Sk
namespace Go.Proofs.YtcfdanhklbklkaaGreat
set_option linter.unusedSimpArgs false
set_option linter.unusedVariables false
open Go
theorem ZoO:cal Tryz.prog 31=true:=by kernel_rfl
theorem ZoP:cal Tryz.prog 32=true:=by kernel_rfl
theorem ZmE:cal Tryz.prog 33=true:=by kernel_rfl
theorem ZoQ:cal Tryz.prog 34=true:=by kernel_rfl
theorem ZoR:cal Tryz.prog 35=true:=by kernel_rfl
theorem Z0D:elN Tryz.prog 23=some 1:=by kernel_rfl
theorem ZO:Z2o Tryz.prog 23=true:=by kernel_rfl
theorem Zqx:ZD Tryz.prog 95=some [(0,1),(1,1),(2,1)]:=by kernel_rfl
theorem ZnB:ZD Tryz.prog 97=some [(0,1),(1,1)]:=by kernel_rfl
theorem sc3:Z0c Tryz.prog 3=true:=by kernel_rfl
theorem Z1H:slE Tryz.prog 23=some (3,1):=by kernel_rfl
theorem ZqB:slE Tryz.prog 92=some (97,2):=by kernel_rfl
theorem zl3:Zp Tryz.prog 3=some ([.int .i64 0]):=by kernel_rfl
theorem ZqE:Zp Tryz.prog 95=some ([.int .i64 0,.slice none 0 0,.slice none 0 0]):=by kernel_rfl
theorem ZeI:Zp Tryz.prog 97=some ([.int .i64 0,.int .i64 0]):=by kernel_rfl
namespace Wv
def tri:Hse:=⟨3,[⟨0,1⟩,⟨1,2⟩,⟨2,0⟩],[]⟩
theorem tri_ok:tri.ok:=by
 refine ⟨by decide,by decide,by decide,?_,fun s hs=>(by cases hs)⟩
 intro g hg
 simp only [tri,List.mem_cons,List.not_mem_nil,or_false] at hg
 rcases hg with rfl | rfl | rfl<;>decide
theorem tri_bot:tri.botE [0] [2]=0:=by decide
theorem tri_cut {X:Nat} (h:Shut tri.gaps (msk (cutM X tri.gaps)) (msk [0]) (msk [2])):(cutM X tri.gaps).length=2∧(cutM X tri.gaps)[1]?=some 2:=by
 have h1:=h 1 2
 revert h1
 have e:cutM X tri.gaps=((List.range 3).filter fun i=>match i with | 0=>X.testBit 0 != X.testBit 1 | 1=>X.testBit 1 != X.testBit 2 | 2=>X.testBit 2 != X.testBit 0 | _=>false).map fun (i:Nat)=>(i:Int):=by
   unfold cutM
   congr 1
 rw [e]
 generalize X.testBit 0=a
 generalize X.testBit 1=b
 generalize X.testBit 2=c
 cases a<;>cases b<;>cases c<;>decide
end Wv
set_option maxHeartbeats 400000 in
theorem ZbQ (H:Z6) (R:Z5) :
    FnV Tryz.prog 9 [] H R (.bool true):=by
 refine Zc Tryz.func9 rfl Tryz.ntmps9 rfl ?_
 refine sqt 1 rfl (pur 1 rfl (sqt 7 rfl ?_))
 refine cl rfl ZoP rfl rfl (Ht.c_Three 3 (by decide) _ _) ?_
 rintro _ _ _ ⟨ba8,rfl,rfl,rfl⟩
 refine cl rfl ZoO rfl rfl (Ht.c_First (Ht.thr 3) (some ⟨ba8,0,none⟩) 3 (by decide) rfl _ _) ?_
 rintro _ _ R1 ⟨hQ,rfl,hR1⟩
 obtain rfl:=hR1.symm
 rcases hQ with ⟨hne,_⟩ | ⟨_,w,hw,rfl⟩
 exact absurd Ht.ex_c.2 hne
 obtain rfl:=Ht.kpt_unique hw (.inr ⟨3,by decide,rfl,Ht.ex_f.1,Ht.ex_f.2⟩)
 refine pur 5 rfl (sqt 13 rfl (sp rfl (PE.build (out:=[_,_]) ZnB ZeI rfl rfl) rfl (sp rfl (PE.build (out:=[_,_]) ZnB ZeI rfl rfl) rfl (sp rfl (PE.build (out:=[_,_]) ZnB ZeI rfl rfl) rfl ?_))))
 refine bsl (out:=[_,_,_,_,_,_]) rfl ZqB ZeI rfl rfl rfl rfl rfl rfl (fun b16=>?_)
 refine sp rfl (PE.build (out:=[_,_,_]) Zqx ZqE rfl rfl) rfl ?_
 refine bsl (out:=[_]) rfl Z1H zl3 rfl rfl rfl rfl rfl rfl (fun b18=>?_)
 refine bsl (out:=[_]) rfl Z1H zl3 rfl rfl rfl rfl rfl rfl (fun b19=>?_)
 refine Sy.heap (fun w h9=>St.rows (b:=b18) (sz:=1) (rows:=Wv.irows [0]) (rest:=[]) (h9.pull b18) (by simp [Wv.irows])) ?_
 refine Sy.heap (fun w h9=>St.rows (b:=b19) (sz:=1) (rows:=Wv.irows [2]) (rest:=[]) (h9.pull b19) (by simp [Wv.irows])) ?_
 refine Sy.heap (fun w h9=>St.rows (b:=b16) (sz:=2) (rows:=Wv.grows Wv.tri.gaps) (rest:=[]) (h9.pull b16) (by simp [Wv.grows,Wv.grow,Wv.tri])) ?_
 refine Sy.heap (fun w h9=>h9.also (f:=RowsA none 3 (Wv.srows Wv.tri.sights)) (fun w2 _ i row hi=>by simp [Wv.tri,Wv.srows] at hi)) ?_
 refine cl rfl ZmE rfl rfl (Wv.c_CutK Wv.tri (some ⟨b16,0,none⟩) none 3 0 Wv.tri_ok [0] [2] (some ⟨b18,0,none⟩) (some ⟨b19,0,none⟩) 1 1 (by decide) (by decide) (by decide) (by decide) Wv.tri_bot _ _) ?_
 rintro _ _ R1 ⟨X,ac,cc,_,hsh,_,rfl,rfl,hR1⟩
 obtain rfl:=hR1.symm
 clear hR1
 obtain ⟨hl2,hg2⟩:=Wv.tri_cut hsh
 rw [hl2]
 refine pur 5 rfl (sqt 8 rfl ?_)
 refine bsl (out:=[_]) rfl Z1H zl3 rfl rfl rfl rfl rfl rfl (fun b24=>?_)
 refine Sy.heap (fun w h9=>St.rows (b:=b24) (sz:=1) (rows:=Tu.irows [50]) (rest:=[]) (h9.pull b24) (by simp [Tu.irow])) ?_
 refine cl rfl ZoR rfl rfl (Tu.c_Three8 (some ⟨b24,0,none⟩) 1 _ _) ?_
 rintro _ _ _ ⟨aa,ab,ca,cb,rfl,hcb,rfl,rfl⟩
 refine cl rfl ZoQ rfl rfl (Tu.c_Fewest Tu.y3 aa ab ca cb Tu.y3_ok hcb ⟨3,Tu.fw3_path⟩ _ _) ?_
 rintro _ _ R1 ⟨n,rfl,hfw,rfl,hR1⟩
 obtain rfl:=hR1.symm
 clear hR1
 obtain rfl:=Tu.fw3_is hfw
 refine pur 5 rfl (sqt 30 rfl (pur 1 rfl ?_))
 refine Zj (a:=ac) (sz:=1) (rows:=Wv.irows (Wv.cutM X Wv.tri.gaps)) (by intro h0;have:=congrArg List.length h0;rw [Wv.irl,hl2] at this;simp at this) (fun bp op he=>?_)
 subst he
 refine pur 2 rfl ?_
 refine Zq 31 rfl ?_ ?_<;>intro g31
 refine pur 4 rfl ?_
 refine Zq 35 rfl ?_ ?_<;>intro g35
 refine pur 4 rfl ?_
 refine Zq 39 rfl ?_ ?_<;>intro g39
 refine pur 4 rfl ?_
 refine Zq 43 rfl ?_ ?_<;>intro g43
 refine pur 1 rfl ?_
 refine spG rfl rfl rfl rfl (PE.lenSl ZO rfl) rfl ?_
 refine pur 3 rfl ?_
 refine Zq 48 rfl ?_ ?_<;>intro g48
 refine pur 1 rfl ?_
 refine spG rfl rfl rfl rfl (PE.indexAddr Z0D rfl rfl (by decide) (by decide)) rfl ?_
 refine Z0e rfl rfl rfl rfl rfl (lf0 (i:=1) (rows:=Wv.irows (Wv.cutM X Wv.tri.gaps)) (row:=[.int .i64 2]) sc3 (Wv.ir_get hg2) rfl) rfl (pur 3 rfl ?_)
 refine Zq 54 rfl ?_ ?_<;>intro g54
 refine pur 4 rfl (Z4 ?_)
 exact rtA rfl rfl rfl ⟨rfl,rfl,rfl⟩ (fun w h=>St.sub h)
 exact absurd g54 (by simp)
 exact absurd g48 (by simp)
 exact absurd g43 (by simp)
 exact absurd g39 (by simp)
 exact absurd g35 (by simp)
 exact absurd g31 (by simp)
theorem Z2R:Z0W Tryz.prog 37=some 2:=by kernel_rfl
theorem ZeN:Z0W Tryz.prog 60=some 4:=by kernel_rfl
theorem Z5H:Z0W Tryz.prog 65=some 3:=by kernel_rfl
theorem Z2b:Z0W Tryz.prog 68=some 3:=by kernel_rfl
theorem Z5I:Z0W Tryz.prog 69=some 4:=by kernel_rfl
theorem Zk3:Z0W Tryz.prog 83=some 5:=by kernel_rfl
theorem ZqM:apT Tryz.prog 56=some (62,3,24):=by kernel_rfl
theorem Zqj:apT Tryz.prog 57=some (83,5,40):=by kernel_rfl
theorem Z4y:arN Tryz.prog 69=some (4,1):=by kernel_rfl
theorem Z6t:cal Tryz.prog 15=true:=by kernel_rfl
theorem ZoL:cal Tryz.prog 16=true:=by kernel_rfl
theorem Zll:cal Tryz.prog 17=true:=by kernel_rfl
theorem ZoM:cal Tryz.prog 18=true:=by kernel_rfl
theorem Zfq:cal Tryz.prog 19=true:=by kernel_rfl
theorem Zcs:cal Tryz.prog 20=true:=by kernel_rfl
theorem Z1h:cal Tryz.prog 21=true:=by kernel_rfl
theorem ZlT:cal Tryz.prog 22=true:=by kernel_rfl
theorem Zp4:cal Tryz.prog 7=true:=by kernel_rfl
theorem ZqS:cal Tryz.prog 9=true:=by kernel_rfl
theorem cn3:Zz Tryz.prog 3=some 1:=by kernel_rfl
theorem Z34:Zz Tryz.prog 37=some 2:=by kernel_rfl
theorem ZqY:Zz Tryz.prog 56=some 1:=by kernel_rfl
theorem Zqm:Zz Tryz.prog 57=some 1:=by kernel_rfl
theorem Zqn:Zz Tryz.prog 60=some 4:=by kernel_rfl
theorem Zoa:Zz Tryz.prog 65=some 3:=by kernel_rfl
theorem Z7L:Zz Tryz.prog 68=some 3:=by kernel_rfl
theorem Zk5:Zz Tryz.prog 69=some 4:=by kernel_rfl
theorem Zpm:Zz Tryz.prog 83=some 5:=by kernel_rfl
theorem ZfG:elN Tryz.prog 84=some 2:=by kernel_rfl
theorem Zb4:eqB Tryz.prog 10000 37=some (true,2):=by kernel_rfl
theorem ZcJ:Tryz.prog.eqGuardType Tryz.prog.depth 37=false:=by kernel_rfl
theorem ZH:ZG Tryz.prog 37 0=some 0:=by kernel_rfl
theorem ZI:ZG Tryz.prog 37 1=some 1:=by kernel_rfl
theorem Z0T:ZG Tryz.prog 60 0=some 0:=by kernel_rfl
theorem Z24:ZG Tryz.prog 60 1=some 1:=by kernel_rfl
theorem Z2l:ZG Tryz.prog 60 2=some 2:=by kernel_rfl
theorem Z5Z:ZG Tryz.prog 83 3=some 3:=by kernel_rfl
theorem ik3:Zaf Tryz.prog 3=some .i64:=by kernel_rfl
theorem Z86:Z2o Tryz.prog 56=true:=by kernel_rfl
theorem Zdo:Z2o Tryz.prog 84=true:=by kernel_rfl
theorem Z3Z:ZD Tryz.prog 37=some [(0,1),(1,1)]:=by kernel_rfl
theorem Zqw:ZD Tryz.prog 60=some [(0,1),(1,1),(2,1),(3,1)]:=by kernel_rfl
theorem Zrc:ZD Tryz.prog 62=some [(0,1),(1,2)]:=by kernel_rfl
theorem Zrf:ZD Tryz.prog 83=some [(0,1),(1,1),(2,1),(3,2)]:=by kernel_rfl
theorem Zec:Z0c Tryz.prog 56=true:=by kernel_rfl
theorem Zgn:Z0c Tryz.prog 57=true:=by kernel_rfl
theorem Zrk:slE Tryz.prog 56=some (62,3):=by kernel_rfl
theorem ZqA:slE Tryz.prog 57=some (83,5):=by kernel_rfl
theorem us5:(Tryz.prog.underlying 5).isSome=true:=by kernel_rfl
theorem Z1s:Zp Tryz.prog 37=some ([.int .i64 0,.int .i64 0]):=by kernel_rfl
theorem Zoi:Zp Tryz.prog 60=some ([.int .i64 0,.slice none 0 0,.slice none 0 0,.slice none 0 0]):=by kernel_rfl
theorem Zoj:Zp Tryz.prog 62=some ([.int .i64 0,.int .i64 0,.int .i64 0]):=by kernel_rfl
theorem Zo7:Zp Tryz.prog 65=some ([.int .i64 0,.int .i64 0,.slice none 0 0]):=by kernel_rfl
theorem Z7B:Zp Tryz.prog 68=some ([.int .i64 0,.int .i64 0,.slice none 0 0]):=by kernel_rfl
theorem Zkb:Zp Tryz.prog 69=some ([.int .i64 0,.int .i64 0,.int .i64 0,.int .i64 0]):=by kernel_rfl
theorem Zkc:Zp Tryz.prog 83=some ([.int .i64 0,.int .i64 0,.int .i64 0,.int .i64 0,.int .i64 0]):=by kernel_rfl
namespace Sk
theorem ZnV {y:Yrd} {b s t:Nat} (hb:b<y.bins.length) (hs:s≤y.days) (ht:t≤y.days):ZeT y t (b*(y.days+1)+s)=decide (s=t):=by
 unfold ZeT
 by_cases e:s=t
 · rw [decide_eq_true e]
   exact List.any_eq_true.2 ⟨b,List.mem_range.2 hb,decide_eq_true (by rw [e])⟩
 · rw [decide_eq_false e]
   rw [List.any_eq_false]
   intro q hq h
   exact e ((Z4A (d:=y.days+1) (by omega) (by omega)).1 (of_decide_eq_true h)).2
theorem ZjL {y:Yrd} {t:Nat} (ht:t≤y.days) (j:Nat):ZeT y t (y.N0+j)=false:=by
 unfold ZeT
 rw [List.any_eq_false]
 intro q hq h
 have h1:=of_decide_eq_true h
 have h2:=Z3X (y:=y) (List.mem_range.1 hq) ht
 have h3:y.N0=y.bins.length*(y.days+1):=rfl
 omega
def wlT (y:Yrd):List Spn:=(List.range (y.days+1)).map fun (t:Nat)=>⟨smT (·.s.lo) t y.moves,smT (·.s.hi) t y.moves⟩
theorem wlT_len (y:Yrd):(wlT y).length=y.days+1:=by unfold wlT;simp
theorem wlT_get {y:Yrd} {t:Nat} (ht:t≤y.days):(wlT y)[t]?=some ⟨smT (·.s.lo) t y.moves,smT (·.s.hi) t y.moves⟩:=by
 unfold wlT;rw [List.getElem?_map,List.getElem?_range (by omega)];rfl
theorem brg_list {y:Yrd} {K:Int} (h:Brg y K) {L:List Spn} (hL:BndOk y (ZeT y) (y.days+1) L):L=wlT y:=by
 apply List.ext_getElem?
 intro t
 by_cases e:t≤y.days
 · obtain ⟨s,hs⟩:∃ s,L[t]?=some s:=⟨_,List.getElem?_eq_getElem (by rw [hL.1];omega)⟩
   obtain ⟨h1,h2⟩:=hL.2 t s hs
   obtain ⟨h3,h4⟩:=ZbL h (hw:=ZeT y t) e (fun b q hb hq=>ZnV hb hq e) (ZjL e)
   rw [hs,wlT_get e]
   have e1:=h1.uniq h3
   have e2:=h2.uniq h4
   obtain ⟨lo,hi⟩:=s
   dsimp only at e1 e2
   rw [e1,e2]
 · rw [List.getElem?_eq_none (by rw [hL.1];omega),List.getElem?_eq_none (by rw [wlT_len];omega)]
def eB:SBin:=⟨300,⟨0,0⟩⟩
def yD (D n:Nat) (ms:List SMov):Yrd:=⟨D,List.replicate n eB,ms,[]⟩
def MvK (D n:Nat) (m:SMov):Prop:=(0≤m.day∧m.day<D)∧m.fr = -1∧(0≤m.to∧m.to<n)∧0≤m.s.lo∧m.s.lo≤m.s.hi∧m.s.hi≤22
structure DI (D n i:Nat) (ms ms':List SMov) (real:Int):Prop where
 l:ms.length=i
 l':ms'.length=i
 ok:∀ m∈ms,MvK D n m
 ok':∀ m∈ms',MvK D n m
 le:∀ t,smT (·.s.lo) t ms≤smT (·.s.lo) t ms'∧smT (·.s.hi) t ms'≤smT (·.s.hi) t ms
 rl:100*smT (·.s.lo) D ms'≤real∧real≤100*smT (·.s.hi) D ms'
 bd:(0≤smT (·.s.lo) D ms∧smT (·.s.lo) D ms≤22*i)∧(0≤smT (·.s.hi) D ms∧smT (·.s.hi) D ms≤22*i)∧0≤real∧real≤2200*i
theorem DI.start (D n:Nat):DI D n 0 [] [] 0:=⟨rfl,rfl,fun m h=>(by cases h),fun m h=>(by cases h),fun t=>⟨Int.le_refl _,Int.le_refl _⟩,⟨Int.le_refl 0,Int.le_refl 0⟩,⟨⟨Int.le_refl 0,Int.le_refl 0⟩,⟨Int.le_refl 0,Int.le_refl 0⟩,Int.le_refl 0,Int.le_refl 0⟩⟩
theorem DI.next {D n i:Nat} {ms ms':List SMov} {real:Int} (h:DI D n i ms ms' real) {q b A1 A2 B1 B2 r:Int} (hq:0≤q∧q<D) (hb:0≤b∧b<n) (hc:0≤A1∧A1≤B1∧B1≤r∧r≤B2∧B2≤A2∧A2≤2100) :
   DI D n (i+1) (ms++[⟨q,-1,b,⟨A1 / 100,(A2+99) / 100⟩⟩]) (ms'++[⟨q,-1,b,⟨B1 / 100,(B2+99) / 100⟩⟩]) (real+r)∧smT (·.s.lo) D (ms++[⟨q,-1,b,⟨A1 / 100,(A2+99) / 100⟩⟩])=smT (·.s.lo) D ms+A1 / 100∧smT (·.s.hi) D (ms++[⟨q,-1,b,⟨A1 / 100,(A2+99) / 100⟩⟩])=smT (·.s.hi) D ms+(A2+99) / 100:=by
 have hqd:decide (q<(D:Int))=true:=decide_eq_true hq.2
 have e1:smT (·.s.lo) D (ms++[⟨q,-1,b,⟨A1 / 100,(A2+99) / 100⟩⟩])=smT (·.s.lo) D ms+A1 / 100:=by rw [Z11];dsimp only;rw [hqd];rfl
 have e2:smT (·.s.hi) D (ms++[⟨q,-1,b,⟨A1 / 100,(A2+99) / 100⟩⟩])=smT (·.s.hi) D ms+(A2+99) / 100:=by rw [Z11];dsimp only;rw [hqd];rfl
 have e3:smT (·.s.lo) D (ms'++[⟨q,-1,b,⟨B1 / 100,(B2+99) / 100⟩⟩])=smT (·.s.lo) D ms'+B1 / 100:=by rw [Z11];dsimp only;rw [hqd];rfl
 have e4:smT (·.s.hi) D (ms'++[⟨q,-1,b,⟨B1 / 100,(B2+99) / 100⟩⟩])=smT (·.s.hi) D ms'+(B2+99) / 100:=by rw [Z11];dsimp only;rw [hqd];rfl
 have hr:=h.rl
 have hbd:=h.bd
 refine ⟨⟨by rw [List.length_append,h.l];rfl,by rw [List.length_append,h.l'];rfl,fun m hm=>?_,fun m hm=>?_,fun t=>?_,?_,?_⟩,e1,e2⟩
 · rcases List.mem_append.1 hm with h1 | h1
   · exact h.ok m h1
   · rw [List.mem_singleton.1 h1];refine ⟨hq,rfl,hb,?_,?_,?_⟩<;>dsimp only<;>omega
 · rcases List.mem_append.1 hm with h1 | h1
   · exact h.ok' m h1
   · rw [List.mem_singleton.1 h1];refine ⟨hq,rfl,hb,?_,?_,?_⟩<;>dsimp only<;>omega
 · have ht:=h.le t
   rw [Z11,Z11,Z11,Z11]
   dsimp only
   cases decide (q<t)<;>simp only [cond_true,cond_false]<;>omega
 · rw [e3,e4];omega
 · rw [e1,e2];omega
theorem yD_brg {D n:Nat} {ms:List SMov} (hD:1≤D∧D≤5) (hn:1≤n∧n≤4) (hl:ms.length=4) (hm:∀ m∈ms,MvK D n m):Brg (yD D n ms) 22:=by
 have hbl:(yD D n ms).bins.length=n:=List.length_replicate
 refine ⟨⟨hD,by rw [hbl];exact hn,by show ms.length≤10;omega,Nat.zero_le _,fun x hx=>?_,fun m h=>?_,fun l hl=>(by cases hl)⟩,rfl,fun x hx=>(List.mem_replicate.1 hx).2,fun m h=>⟨(hm m h).2.1,(hm m h).2.2.1.1⟩,fun m h=>(hm m h).2.2.2.2.2,by show 22*((ms.length:Nat):Int)≤300;omega⟩
 · rw [(List.mem_replicate.1 hx).2];exact ⟨by decide,by decide,by decide,by decide⟩
 · obtain ⟨h1,h2,h3,h4,h5,h6⟩:=hm m h
   rw [hbl]
   exact ⟨h1,by omega,by omega,by omega,h4,h5,by omega⟩
theorem brg_ex {y:Yrd} {K:Int} (h:Brg y K):∃ B,Feas (y.cells+1) y.flows B:=by
 obtain ⟨B,hB,_⟩:=Z6o h (f:=(·.s.lo)) (fun m hm=>⟨Int.le_refl _,(h.ok.mov m hm).2.2.2.2.2.1⟩)
 exact ⟨B,hB⟩
end Sk
theorem ZdP (A G X:Z6):(A++(G++X)).Perm (G++(A++X)):=by
 rw [← List.append_assoc,← List.append_assoc];exact List.Perm.append_right X List.perm_append_comm
set_option maxHeartbeats 1000000 in
theorem Z5J (l0:List Int) (a0:Option Addr) (c0:Nat) (hl0:l0.length≤9223372036854775807) (l1:List Int) (a1:Option Addr) (c1:Nat) (hl1:l1.length≤9223372036854775807) (u:Int) (hu:0≤u∧u≤255) (H:Z6) (R:Z5) [hG0:MemRows a0 1 (Gt.urows l0) R] [hG1:MemRows a1 1 (Gt.urows l1) R] :
    Fn Tryz.prog 4 [.slice a0 l0.length c0,.slice a1 l1.length c1,.int .u8 u] H R (fun v H' R'=>v = .bool true∧H'=H∧R'=R):=by
 refine Zc Tryz.func4 rfl Tryz.ntmps4 rfl ?_
 refine sqt 1 rfl (pur 1 rfl (sqt 3 rfl (pur 1 rfl ?_)))
 refine cl rfl Zp4 rfl rfl (Gt.c_Fill l0 a0 c0 hl0 _ _) ?_
 rintro _ _ R1 ⟨bk,mk,hmk,rfl,rfl,hR1⟩
 obtain rfl:=hR1.symm
 clear hR1
 refine pur 1 rfl (sqt 5 rfl (pur 1 rfl ?_))
 refine cl rfl Z6t rfl rfl (Gt.c_Among l0 a0 c0 bk hl0 _ _ (by omega) (by assumption) (1) (5) (by omega) _ _) ?_
 rintro _ _ R1 ⟨x35,m35,hx35,rfl,_,rfl,hR1⟩
 obtain rfl:=hR1.symm
 clear hR1
 obtain ⟨D,rfl⟩:∃ D:Nat,x35=(D:Int):=⟨x35.toNat,by omega⟩
 refine sp rfl (PE.build (out:=[_,_,_,_]) Zqw Zoi rfl rfl) rfl (alc rfl Zoi rfl (fun b8=>?_))
 refine sto rfl rfl rfl Zqn rfl rfl rfl rfl ?_
 refine Z0 (sqt 3 rfl (pur 1 rfl ?_))
 refine Zw bk ?_
 refine cl rfl Z6t rfl rfl (Gt.c_Among l0 a0 c0 bk hl0 _ _ (by omega) (by assumption) (1) (4) (by omega) _ _) ?_
 rintro _ _ R1 ⟨x38,m38,hx38,rfl,_,rfl,hR1⟩
 obtain rfl:=hR1.symm
 clear hR1
 obtain ⟨n,rfl⟩:∃ n:Nat,x38=(n:Int):=⟨x38.toNat,by omega⟩
 have hD:1≤D∧D≤5:=by omega
 have hn:1≤n∧n≤4:=by omega
 refine pur 1 rfl (Z2 ?_)
 refine Zd (ι:=(k:{k:Nat // k≤n})×OSl 62 3 (Sk.bnrows (List.replicate (k.1) Sk.eB))) (fun x=>⟨[(1,.slice a1 l1.length c1),(2,.int .u8 u),(7,.pointer (some ⟨bk,0,none⟩)),(8,.pointer (some ⟨b8,0,none⟩)),(38,.int .i64 (n:Int)),(39,.int .i64 (x.1.1:Int))],(b8,cel 60 [.int .i64 (D:Int),x.2.fs,.slice none 0 0,.slice none 0 0])::(bk,cel 111 [.slice a0 l0.length c0,.int .i64 (0+1+1),.int .u32 (m38)])::(x.2.G++H),R⟩) (fun x=>n-x.1.1) ⟨⟨0,Nat.zero_le _⟩,OSl.nil _ _⟩ ?_ (fun x=>?_)
 exact Zf (fun w h=>h.pull b8)
 obtain ⟨⟨k,hk⟩,oB⟩:=x
 dsimp only at hk oB ⊢
 refine sqt 1 rfl (pur 1 rfl (Z0 ?_))
 refine Z1 rfl ?_ ?_<;>intro hc0<;>try simp only [cS] at hc0
 refine Z3 (Z0 (Z2 (sqr 7 rfl (sp rfl (PE.fA Z24 rfl) rfl (spL rfl rfl (lh (v:=oB.fs) Zec rfl rfl) rfl (sp rfl (PE.build (out:=[_,_,_]) Zrc Zoj rfl rfl) rfl ?_))))))
 refine bsl (out:=[_,_,_]) rfl Zrk Zoj rfl rfl rfl rfl rfl rfl (fun b44=>?_)
 refine apO (oB) rfl ZqM rfl rfl (Z0y (row:=Sk.bnrow Sk.eB) rfl) rfl rfl ((by simp only [List.length_map,List.length_replicate,List.length_cons,List.length_nil];omega)) rfl (fun o45=>?_)
 refine sp rfl (PE.fA Z24 rfl) rfl ?_
 refine Zy (l':=[.int .i64 (D:Int),o45.fs,.slice none 0 0,.slice none 0 0]) rfl rfl rfl ZqY rfl (by rw [o45.cells.1];first | done | rfl) (by rw [o45.cells.1];simp [o45.cells.2]) (by rw [o45.cells.1];first | done | rfl) (by rw [o45.cells.1];first | done | exact Nat.le_of_ble_eq_true rfl) ?_
 refine sqr 2 rfl (sp rfl (PE.add rfl rfl (by omega)) rfl (pur 1 rfl ?_))
 exact Zb ⟨⟨k+1,by omega⟩,o45.cast (by simp [List.replicate_succ',Sk.bnrows])⟩ (fun w h=>h.del b44)
 obtain rfl:n=k:=by omega
 obtain ⟨ab,cb,he,hf⟩:=oB.freeze
 rw [show (Sk.bnrows (List.replicate n Sk.eB)).length=n by rw [List.length_map,List.length_replicate]] at he
 rw [he]
 refine Sy.heap (H':=(b8,cel 60 [.int .i64 (D:Int),(.slice ab n cb),.slice none 0 0,.slice none 0 0])::(bk,cel 111 [.slice a0 l0.length c0,.int .i64 (0+1+1),.int .u32 (m38)])::H) (fun w h=>hf (h.perm (ZdP [_,_] oB.G H))) ?_
 clear hf he
 refine Z7 (Z8 (Z8 (Zi (sqt 7 rfl (sp rfl (PE.fA Z0T rfl) rfl (spL rfl rfl (lh sc3 rfl rfl) rfl (sp rfl (PE.fA Z24 rfl) rfl (spL rfl rfl (lh (v:=.slice ab n cb) Zec rfl rfl) rfl (sp rfl (PE.build (out:=[_,_,_,_]) Zqw Zoi rfl rfl) rfl (alc rfl Zoi rfl (fun b9=>?_)))))))))))
 refine sto rfl rfl rfl Zqn rfl rfl rfl rfl ?_
 refine sqt 4 rfl (sp rfl (PE.build (out:=[_,_]) Z3Z Z1s rfl rfl) rfl (alc rfl Z1s rfl (fun b10=>?_)))
 refine sto rfl rfl rfl Z34 rfl rfl rfl rfl ?_
 refine pur 1 rfl (Z0 (sqt 1 rfl (pur 1 rfl (Z2 ?_))))
 refine Zd (ι:=(x:{x:(Nat×List Sk.SMov×List Sk.SMov×Int)×Int×Int // x.1.1≤4∧Sk.DI D n x.1.1 x.1.2.1 x.1.2.2.1 x.1.2.2.2∧(0≤x.2.1∧x.2.1≤2+202*(x.1.1:Int))∧(0≤x.2.2∧x.2.2≤4294967295)})×OSl 83 5 (Sk.mvrows (x.1.1.2.1))×OSl 83 5 (Sk.mvrows (x.1.1.2.2.1))) (fun x=>⟨[(1,.slice a1 l1.length c1),(2,.int .u8 u),(7,.pointer (some ⟨bk,0,none⟩)),(8,.pointer (some ⟨b8,0,none⟩)),(9,.pointer (some ⟨b9,0,none⟩)),(10,.pointer (some ⟨b10,0,none⟩)),(11,.int .i64 x.1.1.1.2.2.2),(54,.int .i64 (x.1.1.1.1:Int))],(b10,cel 37 [.int .i64 (Sk.smT (·.s.lo) (D:Int) (x.1.1.1.2.1)),.int .i64 (Sk.smT (·.s.hi) (D:Int) (x.1.1.1.2.1))])::(b9,cel 60 [.int .i64 (D:Int),(.slice ab n cb),x.2.2.fs,.slice none 0 0])::(b8,cel 60 [.int .i64 (D:Int),(.slice ab n cb),x.2.1.fs,.slice none 0 0])::(bk,cel 111 [.slice a0 l0.length c0,.int .i64 (x.1.1.2.1),.int .u32 (x.1.1.2.2)])::(x.2.1.G++(x.2.2.G++H)),RowsA ab 3 (Sk.bnrows (List.replicate n Sk.eB))::R⟩) (fun x=>4-x.1.1.1.1) ⟨⟨((0,[],[],0),0+1+1,m38),Nat.zero_le _,Sk.DI.start D n,by dsimp only;omega,by assumption⟩,OSl.nil _ _,OSl.nil _ _⟩ ?_ (fun x=>?_)
 exact Zf idH
 obtain ⟨⟨⟨⟨i,ms,ms1,rl⟩,tq,mx⟩,hi,hdi,htq,hmx⟩,o,o1⟩:=x
 dsimp only at hi hdi htq hmx o o1 ⊢
 have hbd:=hdi.bd
 have hml:=hdi.l
 have hml1:=hdi.l'
 refine sqt 1 rfl (pur 1 rfl (Z0 ?_))
 refine Z1 rfl ?_ ?_<;>intro hc1<;>try simp only [cS] at hc1
 refine Zw bk ?_
 refine Z3 (Z0 (Z2 (sqt 2 rfl (pur 2 rfl (sqt 12 rfl (pur 1 rfl ?_))))))
 refine cl rfl ZoL rfl rfl (Gt.c_Made l0 a0 c0 bk hl0 tq mx (by omega) hmx 0 5 (by omega) (by omega) _ _) ?_
 rintro _ _ R1 ⟨g,c,m,ag,cg,ah,ch,tq1,mx1,hmd,hcg,rfl,htq1,hmx1,rfl,hR1⟩
 obtain rfl:=hR1.symm
 clear hR1
 have hgm:=hmd.gok.many
 have hge:=hmd.gok.err
 have hcm:=hmd.cok.many
 have hcf:=hmd.cok.full
 have hce:=hmd.cok.empty
 have hmd4:Gt.MdOk 4 5 g c m:={ hmd with many:=Int.le_trans hmd.many (by decide) }
 have hmd6:Gt.MdOk 4 6 g c m:={ hmd4 with more:=Int.le_trans hmd4.more (by decide) }
 obtain ⟨b,hb⟩:=Gt.md_bnd hmd
 obtain ⟨hne,hn1,hn2⟩:=Gt.md_net hmd
 have hnt:=hmd.net
 have hb0:=hb.at_ 0 (by omega)
 obtain ⟨N1,hN1⟩:∃ x,x=(Gt.netP g c).1:=⟨_,rfl⟩
 obtain ⟨N2,hN2⟩:∃ x,x=(Gt.netP g c).2:=⟨_,rfl⟩
 simp only [← hN1,← hN2] at hn1
 simp only [← hN1,← hN2] at hn2
 simp only [← hN1,← hN2] at hne
 obtain ⟨W1,hW1⟩:∃ x,x=N1*Gt.bl b 0 / 40:=⟨_,rfl⟩
 obtain ⟨W2,hW2⟩:∃ x,x=N2*Gt.bh b 0 / 40:=⟨_,rfl⟩
 have hwg:=hb.wgt 0 (by omega)
 rw [← hN1,← hN2,← hW1,← hW2] at hwg
 have e4:=Gt.mul_b (a:=N2) (b:=Gt.bh b 0) (A:=2100) (B:=40) (by omega) (by omega) (by omega) (by omega)
 have e5:=Gt.mul_b (a:=N1) (b:=Gt.bl b 0) (A:=2100) (B:=40) (by omega) (by omega) (by omega) (by omega)
 have hW1n:0≤W1:=by omega
 have hW2n:W2≤2100:=by omega
 refine pur 4 rfl (alc rfl Zo7 rfl (fun b13=>alc rfl Z7B rfl (fun b14=>alc rfl Zkb rfl (fun b15=>?_))))
 refine Zy (l':=Gt.gtl g (g.sl ag cg)) rfl rfl rfl Zoa rfl rfl rfl rfl (nl rfl) ?_
 refine Zy (l':=Gt.ctl c (c.sl ah ch)) rfl rfl rfl Z7L rfl rfl rfl rfl (nl rfl) ?_
 refine Z2V rfl rfl rfl Zk5 rfl (by rw [Gt.ints_length];exact hmd.mix.len) rfl (Zs _) ?_
 refine sqt 9 rfl (spL rfl rfl (lhA (Gt.gtl g (g.sl ag cg)) Z5H rfl rfl rfl) rfl (spL rfl rfl (lhA (Gt.ctl c (c.sl ah ch)) Z2b rfl rfl rfl) rfl ?_))
 refine cl rfl Zll rfl rfl (Gt.c_Weight g ag cg (by omega) c ah ch (by omega) ((0:Nat):Int) _ _) ?_
 rintro _ _ R1 ⟨rfl,rfl,hR1⟩
 obtain rfl:=hR1.symm
 clear hR1
 rw [hwg]
 refine pur 3 rfl (alc rfl Z1s rfl (fun b16=>?_))
 refine sto rfl rfl rfl Z34 rfl rfl rfl rfl ?_
 refine pur 1 rfl (sqt 9 rfl (spL rfl rfl (lhA (Gt.gtl g (g.sl ag cg)) Z5H rfl rfl rfl) rfl (spL rfl rfl (lhA (Gt.ctl c (c.sl ah ch)) Z2b rfl rfl rfl) rfl ?_)))
 refine cl rfl ZoM rfl rfl (Gt.c_Net g ag cg (by omega) c ah ch (by omega) _ _) ?_
 rintro _ _ R1 ⟨rfl,rfl,hR1⟩
 obtain rfl:=hR1.symm
 clear hR1
 rw [hne]
 refine pur 3 rfl (alc rfl Z1s rfl (fun b18=>?_))
 refine sto rfl rfl rfl Z34 rfl rfl rfl rfl ?_
 refine pur 1 rfl (Z0 ?_)
 refine ZaM (ι:={x:Nat×Gt.Crt×Option Addr×Nat×Int×Int // Gt.wgtR g x.2.1 ((0:Nat):Int) = .tuple #[Gt.spv x.2.2.2.2.1 x.2.2.2.2.2,.int .i64 0]∧(W1≤x.2.2.2.2.1∧x.2.2.2.2.2≤W2)∧(∀ z,N1≤z→z≤N2→x.2.2.2.2.1≤z*Gt.nn m 0 / 40∧z*Gt.nn m 0 / 40≤x.2.2.2.2.2)∧x.2.1.hs.length≤6}) (fun x=>⟨[(1,.slice a1 l1.length c1),(2,.int .u8 u),(7,.pointer (some ⟨bk,0,none⟩)),(8,.pointer (some ⟨b8,0,none⟩)),(9,.pointer (some ⟨b9,0,none⟩)),(10,.pointer (some ⟨b10,0,none⟩)),(11,.int .i64 rl),(12,.int .i64 (i:Int)),(13,.pointer (some ⟨b13,0,none⟩)),(14,.pointer (some ⟨b14,0,none⟩)),(15,.pointer (some ⟨b15,0,none⟩)),(16,.pointer (some ⟨b16,0,none⟩)),(17,.int .i64 0),(18,.pointer (some ⟨b18,0,none⟩)),(19,.int .i64 0),(20,.pointer (some ⟨x.1.1,0,none⟩)),(21,.int .i64 0),(54,.int .i64 (i:Int))],(x.1.1,cel 68 (Gt.ctl x.1.2.1 (x.1.2.1.sl x.1.2.2.1 x.1.2.2.2.1)))::(b18,cel 37 [.int .i64 N1,.int .i64 N2])::(b16,cel 37 [.int .i64 W1,.int .i64 W2])::(b15,cel 69 (Ze m))::(b14,cel 68 (Gt.ctl c (c.sl ah ch)))::(b13,cel 65 (Gt.gtl g (g.sl ag cg)))::(bk,cel 111 [.slice a0 l0.length c0,.int .i64 (tq1),.int .u32 (mx1)])::(b10,cel 37 [.int .i64 (Sk.smT (·.s.lo) (D:Int) (ms)),.int .i64 (Sk.smT (·.s.hi) (D:Int) (ms))])::(b9,cel 60 [.int .i64 (D:Int),(.slice ab n cb),o1.fs,.slice none 0 0])::(b8,cel 60 [.int .i64 (D:Int),(.slice ab n cb),o.fs,.slice none 0 0])::(o.G++(o1.G++H)),RowsA x.1.2.2.1 5 (Gt.hrows x.1.2.1.hs)::RowsA ah 5 (Gt.hrows c.hs)::RowsA ag 5 (Gt.grows g.grs)::RowsA ab 3 (Sk.bnrows (List.replicate n Sk.eB))::R⟩) ?_ ?_
 refine Za [0,0,2,0,0,30,63,127,255,255,0,1535,4095] (.ld 0 (.tk 1 (.ld 3 (.ld 4 (.any (.alt 2 (.any (.alt 5 (.any (.alt 6 (tks 7 3 (.big 10 (.big 11 (.tk 12 .done)))) (.alt 10 (.big 6 (tks 7 3 (.big 11 (.tk 12 .done)))) .stop))) (.alt 10 (.big 5 (.big 6 (tks 7 3 (.big 11 (.tk 12 .done))))) .stop))) (.alt 10 (.big 2 (.big 5 (.big 6 (tks 7 3 (.big 11 (.tk 12 .done)))))) .stop))))))) Zl (by kernel_rfl) ?_
 refine ld rfl rfl (lhA (Gt.ctl c (c.sl ah ch)) Z2b rfl rfl rfl) rfl (Zg 1 rfl (ld rfl rfl (lhA (Gt.gtl g (g.sl ag cg)) Z5H rfl rfl rfl) rfl (ld rfl rfl (lhA (Ze (m)) Z5I rfl (rest:=[]) (by rw [List.append_nil];rfl) (by rw [Gt.ints_length];exact hmd.mix.len)) rfl ?_)))
 refine ZL ?_ ?_
 refine cl rfl Zp4 rfl rfl (Gt.c_Fill l1 a1 c1 hl1 _ _) ?_
 rintro _ _ R1 ⟨bj,mj,hmj,rfl,rfl,hR1⟩
 obtain rfl:=hR1.symm
 clear hR1
 refine bg (fun w hs=>⟨(lhA (Ze (m)) Z5I rfl (rest:=[]) (by rw [List.append_nil];rfl) (by rw [Gt.ints_length];exact hmd.mix.len)) w hs,(lhA (Gt.gtl g (g.sl ag cg)) Z5H rfl rfl rfl) w hs,(lhA (Gt.ctl c (c.sl ah ch)) Z2b rfl rfl rfl) w hs,trivial⟩) ?_
 refine ZL ?_ ?_
 refine Zw bj ?_
 refine cl rfl Zcs rfl rfl (Gt.c_Taken l1 a1 c1 bj hl1 0 mj (by omega) hmj g hmd.gok.miss (g.sl ag cg) m hmd.mix _ _) ?_
 rintro _ _ R1 ⟨h,tq4,mx4,hho,hhf,rfl,_,_,rfl,hR1⟩
 obtain rfl:=hR1.symm
 clear hR1
 refine Sy.heap (fun w h=>h.del bj) ?_
 obtain ⟨d,htk,hdd,hdh,hdf,hde⟩:=Gt.tak_md hmd4 (by omega) hho hhf
 refine bg (fun w hs=>⟨trivial,trivial,(lhA (Gt.ctl c (c.sl ah ch)) Z2b rfl rfl rfl) w hs,trivial⟩) ?_
 refine ZL ?_ ?_
 refine cl rfl Zfq rfl rfl (Gt.c_Take c ah ch (by omega) h _ _) ?_
 rintro v _ R1 ⟨a9,cd,hcd,hv,rfl,hR1⟩
 rw [htk] at hcd hv hR1
 dsimp only at hcd hv hR1
 obtain rfl:=hv
 obtain rfl:=hR1.symm
 clear hR1
 have hdm:=hdd.cok.many
 obtain ⟨b',hb'⟩:=Gt.md_bnd hdd
 obtain ⟨cl1,cl2,hmo⟩:=Gt.md_more (nh:=0) (nh':=0) hb hb' hdh hdf hde
 have hb0':=hb'.at_ 0 (by omega)
 have hm0:=hmo.at_ 0 (by omega)
 have hwg':=hb'.wgt 0 (by omega)
 rw [hmo.net,← hN1,← hN2] at hwg'
 refine bgT (Zg 3 rfl (alc rfl Z7B rfl (fun b20=>bgT ?_)))
 refine Zy (l':=Gt.ctl d (d.sl a9 cd)) rfl rfl rfl Z7L rfl rfl rfl rfl (nl rfl) ?_
 refine bgT (Zg 1 rfl ?_)
 exact Z2A ⟨(b20,d,a9,cd,N1*Gt.bl b' 0 / 40,N2*Gt.bh b' 0 / 40),hwg',by
   have e1:=Gt.wgh_at (n:=N1) (w:=N1) (x:=N2) (a:=Gt.bl b 0) (p:=Gt.bl b' 0) (z:=Gt.bh b' 0) hn1.1 (by omega) hb0.1 (by omega)
   have e3:=Gt.wgh_at (n:=N1) (w:=N2) (x:=N2) (a:=Gt.bl b' 0) (p:=Gt.bh b' 0) (z:=Gt.bh b 0) hn1.1 (by omega) hb0'.1 (by omega)
   rw [hW1,hW2]
   exact ⟨e1.1,e3.2⟩,fun z h1 h2=>Gt.wgh_at (n:=N1) (w:=z) (x:=N2) (a:=Gt.bl b' 0) (p:=Gt.nn m 0) (z:=Gt.bh b' 0) hn1.1 (by omega) hb0'.1 (by omega),by dsimp only;omega⟩ sbA (fun w h=>h.pull b20)
 refine ZL ?_ ?_
 refine alc rfl Z7B rfl (fun b20=>?_)
 refine bg (fun w hs=>⟨(lhA (Gt.ctl c (c.sl ah ch)) Z2b rfl rfl rfl) w hs,trivial⟩) ?_
 refine cl rfl Zfq rfl rfl (Gt.c_Take c ah ch (by omega) h _ _) ?_
 rintro v _ R1 ⟨a9,cd,hcd,hv,rfl,hR1⟩
 rw [htk] at hcd hv hR1
 dsimp only at hcd hv hR1
 obtain rfl:=hv
 obtain rfl:=hR1.symm
 clear hR1
 have hdm:=hdd.cok.many
 obtain ⟨b',hb'⟩:=Gt.md_bnd hdd
 obtain ⟨cl1,cl2,hmo⟩:=Gt.md_more (nh:=0) (nh':=0) hb hb' hdh hdf hde
 have hb0':=hb'.at_ 0 (by omega)
 have hm0:=hmo.at_ 0 (by omega)
 have hwg':=hb'.wgt 0 (by omega)
 rw [hmo.net,← hN1,← hN2] at hwg'
 refine bgT (Zg 3 rfl ?_)
 refine Zy (l':=Gt.ctl d (d.sl a9 cd)) rfl rfl rfl Z7L rfl rfl rfl rfl (nl rfl) ?_
 refine bgT (Zg 1 rfl ?_)
 exact Z2A ⟨(b20,d,a9,cd,N1*Gt.bl b' 0 / 40,N2*Gt.bh b' 0 / 40),hwg',by
   have e1:=Gt.wgh_at (n:=N1) (w:=N1) (x:=N2) (a:=Gt.bl b 0) (p:=Gt.bl b' 0) (z:=Gt.bh b' 0) hn1.1 (by omega) hb0.1 (by omega)
   have e3:=Gt.wgh_at (n:=N1) (w:=N2) (x:=N2) (a:=Gt.bl b' 0) (p:=Gt.bh b' 0) (z:=Gt.bh b 0) hn1.1 (by omega) hb0'.1 (by omega)
   rw [hW1,hW2]
   exact ⟨e1.1,e3.2⟩,fun z h1 h2=>Gt.wgh_at (n:=N1) (w:=z) (x:=N2) (a:=Gt.bl b' 0) (p:=Gt.nn m 0) (z:=Gt.bh b' 0) hn1.1 (by omega) hb0'.1 (by omega),by dsimp only;omega⟩ sbA (fun w h=>h.pull b20)
 exact Z0f
 refine ZL ?_ ?_
 refine alc rfl Z7B rfl (fun b20=>?_)
 refine bg (fun w hs=>⟨(lhA (Ze (m)) Z5I rfl (rest:=[]) (by rw [List.append_nil];rfl) (by rw [Gt.ints_length];exact hmd.mix.len)) w hs,(lhA (Gt.gtl g (g.sl ag cg)) Z5H rfl rfl rfl) w hs,(lhA (Gt.ctl c (c.sl ah ch)) Z2b rfl rfl rfl) w hs,trivial⟩) ?_
 refine Zw bj ?_
 refine cl rfl Zcs rfl rfl (Gt.c_Taken l1 a1 c1 bj hl1 0 mj (by omega) hmj g hmd.gok.miss (g.sl ag cg) m hmd.mix _ _) ?_
 rintro _ _ R1 ⟨h,tq4,mx4,hho,hhf,rfl,_,_,rfl,hR1⟩
 obtain rfl:=hR1.symm
 clear hR1
 refine Sy.heap (fun w h=>h.del bj) ?_
 obtain ⟨d,htk,hdd,hdh,hdf,hde⟩:=Gt.tak_md hmd4 (by omega) hho hhf
 refine bg (fun w hs=>⟨trivial,trivial,(lhA (Gt.ctl c (c.sl ah ch)) Z2b rfl rfl rfl) w hs,trivial⟩) ?_
 refine cl rfl Zfq rfl rfl (Gt.c_Take c ah ch (by omega) h _ _) ?_
 rintro v _ R1 ⟨a9,cd,hcd,hv,rfl,hR1⟩
 rw [htk] at hcd hv hR1
 dsimp only at hcd hv hR1
 obtain rfl:=hv
 obtain rfl:=hR1.symm
 clear hR1
 have hdm:=hdd.cok.many
 obtain ⟨b',hb'⟩:=Gt.md_bnd hdd
 obtain ⟨cl1,cl2,hmo⟩:=Gt.md_more (nh:=0) (nh':=0) hb hb' hdh hdf hde
 have hb0':=hb'.at_ 0 (by omega)
 have hm0:=hmo.at_ 0 (by omega)
 have hwg':=hb'.wgt 0 (by omega)
 rw [hmo.net,← hN1,← hN2] at hwg'
 refine bgT (Zg 3 rfl ?_)
 refine Zy (l':=Gt.ctl d (d.sl a9 cd)) rfl rfl rfl Z7L rfl rfl rfl rfl (nl rfl) ?_
 refine bgT (Zg 1 rfl ?_)
 exact Z2A ⟨(b20,d,a9,cd,N1*Gt.bl b' 0 / 40,N2*Gt.bh b' 0 / 40),hwg',by
   have e1:=Gt.wgh_at (n:=N1) (w:=N1) (x:=N2) (a:=Gt.bl b 0) (p:=Gt.bl b' 0) (z:=Gt.bh b' 0) hn1.1 (by omega) hb0.1 (by omega)
   have e3:=Gt.wgh_at (n:=N1) (w:=N2) (x:=N2) (a:=Gt.bl b' 0) (p:=Gt.bh b' 0) (z:=Gt.bh b 0) hn1.1 (by omega) hb0'.1 (by omega)
   rw [hW1,hW2]
   exact ⟨e1.1,e3.2⟩,fun z h1 h2=>Gt.wgh_at (n:=N1) (w:=z) (x:=N2) (a:=Gt.bl b' 0) (p:=Gt.nn m 0) (z:=Gt.bh b' 0) hn1.1 (by omega) hb0'.1 (by omega),by dsimp only;omega⟩ sbA (fun w h=>h.pull b20)
 exact Z0f
 refine ZL ?_ ?_
 refine alc rfl Z7B rfl (fun b20=>?_)
 refine bg (fun w hs=>⟨(lhA (Ze (m)) Z5I rfl (rest:=[]) (by rw [List.append_nil];rfl) (by rw [Gt.ints_length];exact hmd.mix.len)) w hs,(lhA (Gt.gtl g (g.sl ag cg)) Z5H rfl rfl rfl) w hs,(lhA (Gt.ctl c (c.sl ah ch)) Z2b rfl rfl rfl) w hs,trivial⟩) ?_
 refine cl rfl Zp4 rfl rfl (Gt.c_Fill l1 a1 c1 hl1 _ _) ?_
 rintro _ _ R1 ⟨bj,mj,hmj,rfl,rfl,hR1⟩
 obtain rfl:=hR1.symm
 clear hR1
 refine bg (fun w hs=>⟨(lhA (Ze (m)) Z5I rfl (rest:=[]) (by rw [List.append_nil];rfl) (by rw [Gt.ints_length];exact hmd.mix.len)) w hs,(lhA (Gt.gtl g (g.sl ag cg)) Z5H rfl rfl rfl) w hs,(lhA (Gt.ctl c (c.sl ah ch)) Z2b rfl rfl rfl) w hs,trivial⟩) ?_
 refine Zw bj ?_
 refine cl rfl Zcs rfl rfl (Gt.c_Taken l1 a1 c1 bj hl1 0 mj (by omega) hmj g hmd.gok.miss (g.sl ag cg) m hmd.mix _ _) ?_
 rintro _ _ R1 ⟨h,tq4,mx4,hho,hhf,rfl,_,_,rfl,hR1⟩
 obtain rfl:=hR1.symm
 clear hR1
 refine Sy.heap (fun w h=>h.del bj) ?_
 obtain ⟨d,htk,hdd,hdh,hdf,hde⟩:=Gt.tak_md hmd4 (by omega) hho hhf
 refine bg (fun w hs=>⟨trivial,trivial,(lhA (Gt.ctl c (c.sl ah ch)) Z2b rfl rfl rfl) w hs,trivial⟩) ?_
 refine cl rfl Zfq rfl rfl (Gt.c_Take c ah ch (by omega) h _ _) ?_
 rintro v _ R1 ⟨a9,cd,hcd,hv,rfl,hR1⟩
 rw [htk] at hcd hv hR1
 dsimp only at hcd hv hR1
 obtain rfl:=hv
 obtain rfl:=hR1.symm
 clear hR1
 have hdm:=hdd.cok.many
 obtain ⟨b',hb'⟩:=Gt.md_bnd hdd
 obtain ⟨cl1,cl2,hmo⟩:=Gt.md_more (nh:=0) (nh':=0) hb hb' hdh hdf hde
 have hb0':=hb'.at_ 0 (by omega)
 have hm0:=hmo.at_ 0 (by omega)
 have hwg':=hb'.wgt 0 (by omega)
 rw [hmo.net,← hN1,← hN2] at hwg'
 refine bgT (Zg 3 rfl ?_)
 refine Zy (l':=Gt.ctl d (d.sl a9 cd)) rfl rfl rfl Z7L rfl rfl rfl rfl (nl rfl) ?_
 refine bgT (Zg 1 rfl ?_)
 exact Z2A ⟨(b20,d,a9,cd,N1*Gt.bl b' 0 / 40,N2*Gt.bh b' 0 / 40),hwg',by
   have e1:=Gt.wgh_at (n:=N1) (w:=N1) (x:=N2) (a:=Gt.bl b 0) (p:=Gt.bl b' 0) (z:=Gt.bh b' 0) hn1.1 (by omega) hb0.1 (by omega)
   have e3:=Gt.wgh_at (n:=N1) (w:=N2) (x:=N2) (a:=Gt.bl b' 0) (p:=Gt.bh b' 0) (z:=Gt.bh b 0) hn1.1 (by omega) hb0'.1 (by omega)
   rw [hW1,hW2]
   exact ⟨e1.1,e3.2⟩,fun z h1 h2=>Gt.wgh_at (n:=N1) (w:=z) (x:=N2) (a:=Gt.bl b' 0) (p:=Gt.nn m 0) (z:=Gt.bh b' 0) hn1.1 (by omega) hb0'.1 (by omega),by dsimp only;omega⟩ sbA (fun w h=>h.pull b20)
 exact Z0f
 rintro ⟨⟨b20,d,a9,cd,D1,D2⟩,hwd,hWd,hDr,hdl⟩
 dsimp only at hwd hWd hDr hdl ⊢
 refine Z0 (sqt 17 rfl (pur 3 rfl ?_))
 refine Zq 87 rfl ?_ ?_<;>intro g87
 exact absurd g87 (by simp)
 refine pur 4 rfl ?_
 refine Zq 91 rfl ?_ ?_<;>intro g91
 exact absurd g91 (by simp)
 refine pur 4 rfl ?_
 refine Zq 95 rfl ?_ ?_<;>intro g95
 exact absurd g95 (by simp)
 refine spG rfl rfl rfl rfl (PE.fA ZH rfl) rfl ?_
 refine Z0e rfl rfl rfl rfl rfl (lh sc3 rfl rfl) rfl ?_
 refine spG rfl rfl rfl rfl (PE.fA ZI rfl) rfl ?_
 refine Z0e rfl rfl rfl rfl rfl (lh sc3 rfl rfl) rfl (pur 2 rfl ?_)
 refine Z1 rfl ?_ ?_<;>intro hc2
 exact absurd hc2 (by simp;omega)
 refine Z3 (Z0 (sqt 5 rfl (pur 1 rfl (sp rfl (PE.conv64 us5 ik3 rfl (by omega)) rfl (sp rfl (PE.rem rfl rfl (by omega)) rfl (pur 2 rfl ?_))))))
 refine Z5w (ι:={x:Gt.Crt×Option Addr×Nat×Int×Int // Gt.wgtR g x.1 ((0:Nat):Int) = .tuple #[Gt.spv x.2.2.2.1 x.2.2.2.2,.int .i64 0]∧(W1≤x.2.2.2.1∧x.2.2.2.2≤W2)∧(∀ z,N1≤z→z≤N2→x.2.2.2.1≤z*Gt.nn m 0 / 40∧z*Gt.nn m 0 / 40≤x.2.2.2.2)∧x.1.hs.length≤6}) (fun x=>⟨[(1,.slice a1 l1.length c1),(2,.int .u8 u),(7,.pointer (some ⟨bk,0,none⟩)),(8,.pointer (some ⟨b8,0,none⟩)),(9,.pointer (some ⟨b9,0,none⟩)),(10,.pointer (some ⟨b10,0,none⟩)),(11,.int .i64 rl),(12,.int .i64 (i:Int)),(13,.pointer (some ⟨b13,0,none⟩)),(15,.pointer (some ⟨b15,0,none⟩)),(16,.pointer (some ⟨b16,0,none⟩)),(18,.pointer (some ⟨b18,0,none⟩)),(20,.pointer (some ⟨b20,0,none⟩)),(54,.int .i64 (i:Int))],(b20,cel 68 (Gt.ctl x.1.1 (x.1.1.sl x.1.2.1 x.1.2.2.1)))::(b18,cel 37 [.int .i64 N1,.int .i64 N2])::(b16,cel 37 [.int .i64 W1,.int .i64 W2])::(b15,cel 69 (Ze m))::(b14,cel 68 (Gt.ctl c (c.sl ah ch)))::(b13,cel 65 (Gt.gtl g (g.sl ag cg)))::(bk,cel 111 [.slice a0 l0.length c0,.int .i64 (tq1),.int .u32 (mx1)])::(b10,cel 37 [.int .i64 (Sk.smT (·.s.lo) (D:Int) (ms)),.int .i64 (Sk.smT (·.s.hi) (D:Int) (ms))])::(b9,cel 60 [.int .i64 (D:Int),(.slice ab n cb),o1.fs,.slice none 0 0])::(b8,cel 60 [.int .i64 (D:Int),(.slice ab n cb),o.fs,.slice none 0 0])::(o.G++(o1.G++H)),RowsA x.1.2.1 5 (Gt.hrows x.1.1.hs)::RowsA ag 5 (Gt.grows g.grs)::RowsA ab 3 (Sk.bnrows (List.replicate n Sk.eB))::R⟩) ?_ ?_
 refine Z1 rfl ?_ ?_<;>intro hc3
 refine sqr 2 rfl (spL rfl rfl (lhA (Gt.ctl c (c.sl ah ch)) Z2b rfl rfl rfl) rfl ?_)
 refine Zy (l':=Gt.ctl c (c.sl ah ch)) rfl rfl rfl Z7L rfl rfl rfl rfl (nl rfl) ?_
 exact Z9n ⟨(c,ah,ch,W1,W2),hwg,⟨Int.le_refl _,Int.le_refl _⟩,fun z h1 h2=>by
   have:=Gt.wgh_at (n:=N1) (w:=z) (x:=N2) (a:=Gt.bl b 0) (p:=Gt.nn m 0) (z:=Gt.bh b 0) hn1.1 (by omega) hb0.1 (by omega)
   rw [hW1,hW2];exact this,by dsimp only;omega⟩ sbA (fun w h=>St.sub h)
 refine Z3 ?_
 exact Z1r ⟨(d,a9,cd,D1,D2),hwd,hWd,hDr,hdl⟩ (fun w h=>St.sub h)
 rintro ⟨⟨e,ae,ce,B1,B2⟩,hwe,hWB,hBr,hel⟩
 dsimp only at hwe hWB hBr hel ⊢
 refine sqt 9 rfl (spL rfl rfl (lhA (Gt.gtl g (g.sl ag cg)) Z5H rfl rfl rfl) rfl (spL rfl rfl (lhA (Gt.ctl e (e.sl ae ce)) Z2b rfl rfl rfl) rfl ?_))
 refine cl rfl Zll rfl rfl (Gt.c_Weight g ag cg (by omega) e ae ce (by omega) ((0:Nat):Int) _ _) ?_
 rintro _ _ R1 ⟨rfl,rfl,hR1⟩
 obtain rfl:=hR1.symm
 clear hR1
 rw [hwe]
 have hBN:=hBr N1 (Int.le_refl _) (by omega)
 refine pur 3 rfl (alc rfl Z1s rfl (fun b22=>?_))
 refine sto rfl rfl rfl Z34 rfl rfl rfl rfl ?_
 refine pur 1 rfl (Z0 (sqt 16 rfl (pur 3 rfl ?_)))
 refine Zq 116 rfl ?_ ?_<;>intro g116
 exact absurd g116 (by simp)
 refine spG rfl rfl rfl rfl (PE.fA ZH rfl) rfl ?_
 refine Z0e rfl rfl rfl rfl rfl (lh sc3 rfl rfl) rfl ?_
 refine spG rfl rfl rfl rfl (PE.fA ZH rfl) rfl ?_
 refine Z0e rfl rfl rfl rfl rfl (lh sc3 rfl rfl) rfl (pur 3 rfl ?_)
 refine Zq 123 rfl ?_ ?_<;>intro g123
 exact absurd g123 (by simp;omega)
 refine spG rfl rfl rfl rfl (PE.fA ZI rfl) rfl ?_
 refine Z0e rfl rfl rfl rfl rfl (lh sc3 rfl rfl) rfl ?_
 refine spG rfl rfl rfl rfl (PE.fA ZI rfl) rfl ?_
 refine Z0e rfl rfl rfl rfl rfl (lh sc3 rfl rfl) rfl (pur 2 rfl ?_)
 refine Z1 rfl ?_ ?_<;>intro hc4
 exact absurd hc4 (by simp;omega)
 refine Z3 (Z0 ?_)
 refine Za [0,1,0,0,8,0,32,120,248,508,1023,0,2048,8191,16383,32767] (.tk 0 (.ld 1 (.tk 2 (.tk 3 (.ld 4 (.tk 5 (.ld 6 (.tk 7 (.tk 8 (.tk 11 (.ld 12 (.big 9 (.tk 10 (tks 13 3 .done)))))))))))))) Zl (by kernel_rfl) ?_
 refine tk rfl (PE.fA ZH rfl) rfl (ld rfl rfl (lh sc3 rfl rfl) rfl (Zg 1 rfl (tk rfl (PE.fA ZI rfl) rfl (ld rfl rfl (lh sc3 rfl rfl) rfl (tk rfl (PE.fA ZH rfl) rfl (ld rfl rfl (lh sc3 rfl rfl) rfl (tk rfl (PE.sub rfl rfl (by omega)) rfl (tk rfl (PE.add rfl rfl (by omega)) rfl (tk rfl (PE.indexArr Z4y rfl rfl (by omega) (by omega)) rfl (ld rfl rfl (lh sc3 rfl (Gt.mix_at hmd.mix.len (k:=0) (by decide))) rfl ?_))))))))))
 refine Zw bk ?_
 refine cl rfl Z1h rfl rfl (Gt.c_Below l0 a0 c0 bk hl0 _ _ (by omega) (by assumption) _ _ _) ?_
 rintro _ _ R1 ⟨x139,m139,hx139,rfl,_,rfl,hR1⟩
 obtain rfl:=hR1.symm
 clear hR1
 have hr1:=hBr (N1+x139) (by omega) (by omega)
 have hmu:=Gt.mul_b (a:=N1+x139) (b:=Gt.nn m 0) (A:=2100) (B:=40) (by omega) (by omega) (by omega) (by omega)
 refine bg (fun w hs=>⟨(lh sc3 rfl (Gt.mix_at hmd.mix.len (k:=0) (by decide))) w hs,trivial,trivial,(lh sc3 rfl rfl) w hs,trivial⟩) ?_
 refine tk rfl (PE.add rfl rfl (by omega)) rfl (tk rfl (PE.mul rfl rfl (by omega)) rfl (tk rfl (PE.quo rfl rfl (by omega)) rfl (Zg 1 rfl (Z0 (sqt 10 rfl ?_)))))
 obtain ⟨r,hr⟩:∃ r,r=(N1+x139)*Gt.nn m 0 / 40:=⟨_,rfl⟩
 rw [← hr] at hr1 ⊢
 have hid:=Gt.mul_b (a:=(i:Int)) (b:=(D:Int)) (A:=4) (B:=5) (by omega) (by omega) (by omega) (by omega)
 have hid2:(i:Int)*(D:Int)≤3*(D:Int):=Int.mul_le_mul_of_nonneg_right (by omega) (by omega)
 obtain ⟨q,hq⟩:∃ q,q=(i:Int)*(D:Int) / 4:=⟨_,rfl⟩
 have hqb:0≤q∧q<D:=by omega
 refine pur 1 rfl (sp rfl (PE.fA ZH rfl) rfl (spL rfl rfl (lh sc3 rfl rfl) rfl (pur 2 rfl ?_)))
 refine Zq 149 rfl ?_ ?_<;>intro g149
 exact absurd g149 (by simp;omega)
 refine pur 1 rfl ?_
 refine spG rfl rfl rfl rfl (PE.fA ZI rfl) rfl ?_
 refine Z0e rfl rfl rfl rfl rfl (lh sc3 rfl rfl) rfl (pur 2 rfl ?_)
 refine Z1 rfl ?_ ?_<;>intro hc5
 exact absurd hc5 (by simp;omega)
 refine Z3 (Z0 ?_)
 refine Za [0,0,2,7,15,0,0,64,192,480,1023,2047] (.tk 0 (.tk 1 (.ld 2 (tks 3 4 (.ld 7 (.tk 8 (.big 9 (.tk 10 (.tk 11 .done))))))))) Zl (by kernel_rfl) ?_
 refine Zg 1 rfl (tk rfl (PE.fA Z0T rfl) rfl (ld rfl rfl (lh sc3 rfl rfl) rfl (tk rfl (PE.mul rfl rfl (by omega)) rfl (tk rfl (PE.quo rfl rfl (by omega)) rfl (Zg 1 rfl (tk rfl (PE.fA Z24 rfl) rfl (ld rfl rfl (lh (v:=.slice ab n cb) Zec rfl rfl) rfl (tk rfl (PE.lenSl Z86 rfl) rfl ?_))))))))
 refine Zw bk ?_
 refine cl rfl Z1h rfl rfl (Gt.c_Below l0 a0 c0 bk hl0 _ _ (by omega) (by assumption) _ _ _) ?_
 rintro _ _ R1 ⟨x164,m164,hx164,rfl,_,rfl,hR1⟩
 obtain rfl:=hR1.symm
 clear hR1
 rw [← hq]
 obtain ⟨hnx,hs1,hs2⟩:=hdi.next (q:=q) (b:=x164) (A1:=W1) (A2:=W2) (B1:=B1) (B2:=B2) (r:=r) hqb (by omega) (by omega)
 refine bg (fun w hs=>⟨trivial,(lh sc3 rfl rfl) w hs,trivial⟩) ?_
 refine Zg 2 rfl (sqt 13 rfl (pur 2 rfl (sp rfl (PE.fA ZH rfl) rfl (spL rfl rfl (lh sc3 rfl rfl) rfl (sp rfl (PE.quo rfl rfl (by omega)) rfl (sp rfl (PE.fA ZI rfl) rfl (spL rfl rfl (lh sc3 rfl rfl) rfl (sp rfl (PE.add rfl rfl (by omega)) rfl (sp rfl (PE.quo rfl rfl (by omega)) rfl (sp rfl (PE.build (out:=[_,_]) Z3Z Z1s rfl rfl) rfl (sp rfl (PE.build (out:=[_,_,_,_,_]) Zrf Zkc rfl rfl) rfl (alc rfl Zkc rfl (fun b26=>?_)))))))))))))
 refine Zy (l':=Sk.mvrow ⟨q,-1,x164,⟨W1 / 100,(W2+99) / 100⟩⟩) rfl rfl rfl Zpm rfl rfl rfl rfl (nl rfl) ?_
 refine sqt 7 rfl (sp rfl (PE.fA Z2l rfl) rfl (spL rfl rfl (lh (v:=o.fs) Zgn rfl rfl) rfl (spL rfl rfl (lhA (Sk.mvrow ⟨q,-1,x164,⟨W1 / 100,(W2+99) / 100⟩⟩) Zk3 rfl (rest:=[]) rfl rfl) rfl ?_)))
 refine bsl (out:=[_,_,_,_,_]) rfl ZqA Zkc rfl rfl rfl rfl rfl rfl (fun b179=>?_)
 refine apO (o) rfl Zqj rfl rfl (Z0y (row:=Sk.mvrow ⟨q,-1,x164,⟨W1 / 100,(W2+99) / 100⟩⟩) rfl) rfl rfl ((by simp only [List.length_map,List.length_cons,List.length_nil];omega)) rfl (fun o180=>?_)
 refine sp rfl (PE.fA Z2l rfl) rfl ?_
 refine Zy (l':=[.int .i64 (D:Int),.slice ab n cb,o180.fs,.slice none 0 0]) rfl rfl rfl Zqm rfl (by rw [o180.cells.1];first | done | rfl) (by rw [o180.cells.1];simp [o180.cells.2]) (by rw [o180.cells.1];first | done | rfl) (by rw [o180.cells.1];first | done | exact Nat.le_of_ble_eq_true rfl) ?_
 refine sqt 10 rfl (sp rfl (PE.fA ZH rfl) rfl (spL rfl rfl (lh sc3 rfl rfl) rfl (sp rfl (PE.quo rfl rfl (by omega)) rfl (sp rfl (PE.fA ZI rfl) rfl (spL rfl rfl (lh sc3 rfl rfl) rfl (sp rfl (PE.add rfl rfl (by omega)) rfl (sp rfl (PE.quo rfl rfl (by omega)) rfl (sp rfl (PE.build (out:=[_,_]) Z3Z Z1s rfl rfl) rfl (sp rfl (PE.fA Z5Z rfl) rfl ?_)))))))))
 refine Zy (l':=Sk.mvrow ⟨q,-1,x164,⟨B1 / 100,(B2+99) / 100⟩⟩) rfl rfl rfl Z34 rfl rfl rfl rfl (nl rfl) ?_
 refine sqt 7 rfl (sp rfl (PE.fA Z2l rfl) rfl (spL rfl rfl (lh (v:=o1.fs) Zgn rfl rfl) rfl (spL rfl rfl (lhA (Sk.mvrow ⟨q,-1,x164,⟨B1 / 100,(B2+99) / 100⟩⟩) Zk3 rfl (rest:=[]) rfl rfl) rfl ?_)))
 refine bsl (out:=[_,_,_,_,_]) rfl ZqA Zkc rfl rfl rfl rfl rfl rfl (fun b194=>?_)
 refine apO (o1) rfl Zqj rfl rfl (Z0y (row:=Sk.mvrow ⟨q,-1,x164,⟨B1 / 100,(B2+99) / 100⟩⟩) rfl) rfl rfl ((by simp only [List.length_map,List.length_cons,List.length_nil];omega)) rfl (fun o195=>?_)
 refine sp rfl (PE.fA Z2l rfl) rfl ?_
 refine Zy (l':=[.int .i64 (D:Int),.slice ab n cb,o195.fs,.slice none 0 0]) rfl rfl rfl Zqm rfl (by rw [o195.cells.1];first | done | rfl) (by rw [o195.cells.1];simp [o195.cells.2]) (by rw [o195.cells.1];first | done | rfl) (by rw [o195.cells.1];first | done | exact Nat.le_of_ble_eq_true rfl) ?_
 refine Za [0,1,0,4,12,31,0,64,0,256,768,1792,4032,0,0,24576,255,65791,204799,466943,1048575] (.tk 0 (.ld 1 (.tk 2 (.ld 3 (tks 4 3 (.ld 7 (.tk 8 (.ld 9 (tks 10 7 (.big 17 (.tk 18 (.big 19 (.tk 20 .done))))))))))))) Zl (by kernel_rfl) ?_
 refine tk rfl (PE.fA ZH rfl) rfl (ld rfl rfl (lh sc3 rfl rfl) rfl (tk rfl (PE.fA ZH rfl) rfl (ld rfl rfl (lh sc3 rfl rfl) rfl (tk rfl (PE.quo rfl rfl (by omega)) rfl (tk rfl (PE.add rfl rfl (by omega)) rfl (tk rfl (PE.fA ZI rfl) rfl (ld rfl rfl (lh sc3 rfl rfl) rfl (tk rfl (PE.fA ZI rfl) rfl (ld rfl rfl (lh sc3 rfl rfl) rfl (tk rfl (PE.add rfl rfl (by omega)) rfl (tk rfl (PE.quo rfl rfl (by omega)) rfl (tk rfl (PE.add rfl rfl (by omega)) rfl (Zg 2 rfl (tk rfl (PE.add rfl rfl (by omega)) rfl (tk rfl (PE.fA ZH rfl) rfl ?_)))))))))))))))
 refine Zy (l':=[.int .i64 (Sk.smT (·.s.lo) (D:Int) (ms)+W1 / 100),.int .i64 (Sk.smT (·.s.hi) (D:Int) (ms))]) rfl rfl rfl cn3 rfl rfl rfl rfl (nl rfl) ?_
 refine bg (fun w hs=>⟨(lh sc3 rfl rfl) w hs,trivial,trivial,trivial,trivial⟩) ?_
 refine tk rfl (PE.fA ZI rfl) rfl ?_
 refine Zy (l':=[.int .i64 (Sk.smT (·.s.lo) (D:Int) (ms)+W1 / 100),.int .i64 (Sk.smT (·.s.hi) (D:Int) (ms)+(W2+99) / 100)]) rfl rfl rfl cn3 rfl rfl rfl rfl (nl rfl) ?_
 refine bgT (Zg 1 rfl (sqr 2 rfl (sp rfl (PE.add rfl rfl (by omega)) rfl (pur 1 rfl ?_))))
 exact Zb ⟨⟨((i+1,ms++[⟨q,-1,x164,⟨W1 / 100,(W2+99) / 100⟩⟩],ms1++[⟨q,-1,x164,⟨B1 / 100,(B2+99) / 100⟩⟩],rl+r),tq1+1+1,m164),by dsimp only;omega,hnx,by dsimp only;omega,by assumption⟩,o180.cast (by simp [Sk.mvrows]),o195.cast (by simp [Sk.mvrows])⟩ (fun w h=>by
   dsimp only
   rw [hs1,hs2]
   exact St.sub (((((((((((((h.del b194).del b179).del b26).del b22).del b20).del b18).del b16).del b15).del b14).del b13).pull b8).pull b9).pull b10))
 obtain rfl:i=4:=by omega
 have hbr:=Sk.yD_brg hD hn hml hdi.ok
 have hbr1:=Sk.yD_brg hD hn hml1 hdi.ok'
 obtain ⟨am,cm,hem,hfm⟩:=o.freeze
 obtain ⟨an,cn,hen,hfn⟩:=o1.freeze
 rw [show (Sk.mvrows ms).length=ms.length from List.length_map _] at hem
 rw [show (Sk.mvrows ms1).length=ms1.length from List.length_map _] at hen
 rw [hem,hen]
 have ey:Sk.ydl (Sk.yD D n ms) ab am none cb cm 0=[.int .i64 (D:Int),.slice ab n cb,.slice am ms.length cm,.slice none 0 0]:=by unfold Sk.ydl;rw [show (Sk.yD D n ms).bins.length=n from List.length_replicate];rfl
 have ey1:Sk.ydl (Sk.yD D n ms1) ab an none cb cn 0=[.int .i64 (D:Int),.slice ab n cb,.slice an ms1.length cn,.slice none 0 0]:=by unfold Sk.ydl;rw [show (Sk.yD D n ms1).bins.length=n from List.length_replicate];rfl
 rw [← ey,← ey1]
 refine Sy.heap (H':=(b10,cel 37 [.int .i64 (Sk.smT (·.s.lo) (D:Int) (ms)),.int .i64 (Sk.smT (·.s.hi) (D:Int) (ms))])::(b9,cel 60 (Sk.ydl (Sk.yD D n ms1) ab an none cb cn 0))::(b8,cel 60 (Sk.ydl (Sk.yD D n ms) ab am none cb cm 0))::(bk,cel 111 [.slice a0 l0.length c0,.int .i64 (tq),.int .u32 (mx)])::H) (R':=RowsA none 4 (Sk.lvrows (Sk.yD D n ms).levels)::RowsA am 5 (Sk.mvrows (Sk.yD D n ms).moves)::RowsA ab 3 (Sk.bnrows (Sk.yD D n ms).bins)::RowsA none 4 (Sk.lvrows (Sk.yD D n ms1).levels)::RowsA an 5 (Sk.mvrows (Sk.yD D n ms1).moves)::RowsA ab 3 (Sk.bnrows (Sk.yD D n ms1).bins)::R) (fun w h=>by
   have h1:=hfm (h.perm (ZdP [_,_,_,_] o.G _))
   have h2:=hfn (h1.perm (ZdP [_,_,_,_] o1.G _))
   have h3:=h2.also (f:=RowsA none 4 []) (fun w9 _ i row hi=>by cases hi)
   exact St.sub (A:=RowsA none 4 []::RowsA am 5 (Sk.mvrows ms)::RowsA ab 3 (Sk.bnrows (List.replicate n Sk.eB))::RowsA none 4 []::RowsA an 5 (Sk.mvrows ms1)::RowsA ab 3 (Sk.bnrows (List.replicate n Sk.eB))::R) h3) ?_
 clear hfm hfn hem hen ey ey1
 refine Z7 (Z8 (Z8 (Zi (sqt 7 rfl (spL rfl rfl (lhA (Sk.ydl (Sk.yD D n ms) ab am none cb cm 0) ZeN rfl (rest:=[]) rfl rfl) rfl ?_)))))
 refine cl rfl ZlT rfl rfl (Sk.c_Whole (Sk.yD D n ms) ab am none cb cm 0 hbr.ok (Sk.brg_ex hbr) _ _) ?_
 rintro _ _ R1 ⟨L,oL,hL,rfl,rfl,hR1⟩
 obtain rfl:=hR1.symm
 clear hR1
 obtain rfl:=Sk.brg_list hbr hL
 obtain ⟨aL,cL,he,hf⟩:=oL.freeze
 rw [show (Sk.sprows (Sk.wlT (Sk.yD D n ms))).length=D+1 by rw [Sk.srl,Sk.wlT_len];rfl] at he
 rw [he]
 refine Sy.heap (fun w h=>hf h) ?_
 clear he hf
 refine pur 5 rfl (sqt 7 rfl (spL rfl rfl (lhA (Sk.ydl (Sk.yD D n ms1) ab an none cb cn 0) ZeN rfl (rest:=[]) rfl rfl) rfl ?_))
 refine cl rfl ZlT rfl rfl (Sk.c_Whole (Sk.yD D n ms1) ab an none cb cn 0 hbr1.ok (Sk.brg_ex hbr1) _ _) ?_
 rintro _ _ R1 ⟨M,oW,hM,rfl,rfl,hR1⟩
 obtain rfl:=hR1.symm
 clear hR1
 obtain rfl:=Sk.brg_list hbr1 hM
 obtain ⟨aW,cW,he,hf⟩:=oW.freeze
 rw [show (Sk.sprows (Sk.wlT (Sk.yD D n ms1))).length=D+1 by rw [Sk.srl,Sk.wlT_len];rfl] at he
 rw [he]
 refine Sy.heap (fun w h=>hf h) ?_
 clear he hf
 refine pur 5 rfl (Z0 (Z0 ?_))
 refine Za [0,1,3,7,15,31,63,127,255,127,639,1663,4095,8191,16383,32767,65535,32767,163839,524287,1048575,2097151,4194303,8388607,16777215,4194303,67108863,134217727,268435455,536870911,536870911,1610612735,4294967295,8589934591,536870911,34359738367,68719476735] (tks 0 10 (.ld 10 (tks 11 13 (.ld 24 (tks 25 6 (.ld 31 (.tk 32 (.ld 33 (.ld 34 (.tk 35 (.tk 36 .done))))))))))) Zl (by kernel_rfl) ?_
 have hms0:∀ x∈ms,0≤x.day:=fun x hx=>(hdi.ok x hx).1.1
 have hz1:Sk.smT (·.s.lo) ((0:Nat):Int) (ms)=0:=Sk.smT_zero _ hms0
 have hz2:Sk.smT (·.s.hi) ((0:Nat):Int) (ms)=0:=Sk.smT_zero _ hms0
 have hrl:=hdi.rl
 have hleD:=hdi.le (D:Int)
 refine Zj (a:=aL) (sz:=2) (rows:=Sk.sprows (Sk.wlT (Sk.yD D n ms))) (by intro h0;have:=congrArg List.length h0;rw [Sk.srl,Sk.wlT_len] at this;simp at this) (fun bL pL heL=>?_)
 subst heL
 refine Zj (a:=aW) (sz:=2) (rows:=Sk.sprows (Sk.wlT (Sk.yD D n ms1))) (by intro h0;have:=congrArg List.length h0;rw [Sk.srl,Sk.wlT_len] at this;simp at this) (fun bW pW heW=>?_)
 subst heW
 refine Zg 3 rfl ?_
 refine Zq 228 rfl ?_ ?_<;>intro g228
 exact absurd g228 (by simp)
 refine Zg 4 rfl ?_
 refine Zq 232 rfl ?_ ?_<;>intro g232
 exact absurd g232 (by simp)
 refine Zg 1 rfl ?_
 refine tkG rfl rfl rfl rfl (PE.lenSl Zdo rfl) rfl ?_
 refine tkG rfl rfl rfl rfl (PE.fA Z0T rfl) rfl ?_
 refine ldG rfl rfl rfl rfl rfl (lh (v:=.int .i64 (D:Int)) sc3 rfl rfl) rfl ?_
 refine tkG rfl rfl rfl rfl (PE.add rfl rfl (by omega)) rfl ?_
 refine Zg 3 rfl ?_
 refine Zq 240 rfl ?_ ?_<;>intro g240
 exact absurd g240 (by simp)
 refine Zg 1 rfl ?_
 refine tkG rfl rfl rfl rfl (PE.lenSl Zdo rfl) rfl ?_
 refine Zg 1 rfl ?_
 refine tkG rfl rfl rfl rfl (PE.lenSl Zdo rfl) rfl ?_
 refine Zg 3 rfl ?_
 refine Zq 247 rfl ?_ ?_<;>intro g247
 exact absurd g247 (by simp)
 refine Zg 1 rfl ?_
 refine tkG rfl rfl rfl rfl (PE.indexAddr ZfG rfl rfl (by decide) (by omega)) rfl ?_
 refine ldG rfl rfl rfl rfl rfl (lfA (i:=0) (row:=[.int .i64 (Sk.smT (·.s.lo) ((0:Nat):Int) (ms)),.int .i64 (Sk.smT (·.s.hi) ((0:Nat):Int) (ms))]) Z2R (Sk.sr_get (Sk.wlT_get (y:=Sk.yD D n ms) (t:=0) (Nat.zero_le _))) rfl) rfl ?_
 refine tkG rfl rfl rfl rfl (PE.build (out:=[_,_]) Z3Z Z1s rfl rfl) rfl ?_
 refine tkG rfl rfl rfl rfl (PE.neqAgg [Sk.smT (·.s.lo) ((0:Nat):Int) (ms),Sk.smT (·.s.hi) ((0:Nat):Int) (ms)] [0,0] (Z17 10000 37 true 2 Zb4) ZcJ rfl rfl rfl rfl) rfl ?_
 refine Zg 2 rfl ?_
 refine Zq 254 rfl ?_ ?_<;>intro g254
 exact absurd g254 (by simp;exact ⟨hz1,hz2⟩)
 refine Zg 1 rfl ?_
 refine tkG rfl rfl rfl rfl (PE.fA Z0T rfl) rfl ?_
 refine ldG rfl rfl rfl rfl rfl (lh (v:=.int .i64 (D:Int)) sc3 rfl rfl) rfl ?_
 refine tkG rfl rfl rfl rfl (PE.indexAddr ZfG rfl rfl (by omega) (by omega)) rfl ?_
 refine ldG rfl rfl rfl rfl rfl (lfA (i:=D) (row:=[.int .i64 (Sk.smT (·.s.lo) (D:Int) (ms)),.int .i64 (Sk.smT (·.s.hi) (D:Int) (ms))]) Z2R (Sk.sr_get (Sk.wlT_get (y:=Sk.yD D n ms) (t:=D) (Nat.le_refl _))) rfl) rfl (ldG rfl rfl rfl rfl rfl (lhA [.int .i64 (Sk.smT (·.s.lo) (D:Int) (ms)),.int .i64 (Sk.smT (·.s.hi) (D:Int) (ms))] Z2R rfl (rest:=[]) rfl rfl) rfl ?_)
 refine tkG rfl rfl rfl rfl (PE.neqAgg [Sk.smT (·.s.lo) (D:Int) (ms),Sk.smT (·.s.hi) (D:Int) (ms)] [Sk.smT (·.s.lo) (D:Int) (ms),Sk.smT (·.s.hi) (D:Int) (ms)] (Z17 10000 37 true 2 Zb4) ZcJ rfl rfl rfl rfl) rfl ?_
 refine Zg 1 rfl ?_
 refine Z1 rfl ?_ ?_<;>intro hc6
 exact absurd hc6 (by simp)
 refine Z3 (Z0 (sqt 3 rfl (pur 1 rfl (sp rfl (PE.lenSl Zdo rfl) rfl (pur 1 rfl (Z2 ?_))))))
 refine Zd (ι:={t:Nat // t≤D+1}) (fun t=>⟨[(7,.pointer (some ⟨bk,0,none⟩)),(8,.pointer (some ⟨b8,0,none⟩)),(11,.int .i64 rl),(27,.slice (some ⟨bL,pL,none⟩) (D+1) cL),(29,.slice (some ⟨bW,pW,none⟩) (D+1) cW),(264,.int .i64 ((D+1:Nat):Int)),(265,.int .i64 (t.1:Int))],(b10,cel 37 [.int .i64 (Sk.smT (·.s.lo) (D:Int) (ms)),.int .i64 (Sk.smT (·.s.hi) (D:Int) (ms))])::(b9,cel 60 (Sk.ydl (Sk.yD D n ms1) ab an none cb cn 0))::(b8,cel 60 (Sk.ydl (Sk.yD D n ms) ab am none cb cm 0))::(bk,cel 111 [.slice a0 l0.length c0,.int .i64 (tq),.int .u32 (mx)])::H,RowsA (some ⟨bW,pW,none⟩) 2 (Sk.sprows (Sk.wlT (Sk.yD D n ms1)))::RowsA (some ⟨bL,pL,none⟩) 2 (Sk.sprows (Sk.wlT (Sk.yD D n ms)))::R⟩) (fun t=>D+1-t.1) ⟨0,Nat.zero_le _⟩ ?_ (fun t=>?_)
 exact Zf (fun w h=>St.sub h)
 obtain ⟨t,ht⟩:=t
 dsimp only at ht ⊢
 refine sqt 1 rfl (pur 1 rfl (Z0 ?_))
 refine Z1 rfl ?_ ?_<;>intro hc7
 try simp only [cS] at hc7
 have htD:t≤D:=by omega
 have hle:=hdi.le (t:Int)
 refine Z3 (Z0 (Z2 (sqt 2 rfl (pur 2 rfl (Z0 ?_)))))
 refine Za [0,0,3,7,15,0,0,96,224,480,1023,2047,4095,4095,16383,32767,65535,4095,4095,397311,921599,1970175,4194303,8388607] (tks 0 4 (.ld 4 (tks 5 4 (.ld 9 (tks 10 6 (.ld 16 (tks 17 4 (.ld 21 (.tk 22 (.tk 23 .done)))))))))) Zl (by kernel_rfl) ?_
 refine Zg 2 rfl (tk rfl (PE.indexAddr ZfG rfl rfl (by omega) (by omega)) rfl (tk rfl (PE.fA ZH rfl) rfl (ld rfl rfl (lf (i:=t) (j:=0) (x:=.int .i64 (Sk.smT (·.s.lo) (t:Int) (ms1))) sc3 (Sk.sr_get (Sk.wlT_get (y:=Sk.yD D n ms1) (t:=t) htD)) rfl) rfl (Zg 2 rfl (tk rfl (PE.indexAddr ZfG rfl rfl (by omega) (by omega)) rfl (tk rfl (PE.fA ZH rfl) rfl (ld rfl rfl (lf (i:=t) (j:=0) (x:=.int .i64 (Sk.smT (·.s.lo) (t:Int) (ms))) sc3 (Sk.sr_get (Sk.wlT_get (y:=Sk.yD D n ms) (t:=t) htD)) rfl) rfl (Zg 2 rfl ?_))))))))
 refine Zq 279 rfl ?_ ?_<;>intro g279
 exact absurd g279 (by simp;omega)
 refine Zg 2 rfl ?_
 refine tkG rfl rfl rfl rfl (PE.indexAddr ZfG rfl rfl (by omega) (by omega)) rfl ?_
 refine tkG rfl rfl rfl rfl (PE.fA ZI rfl) rfl ?_
 refine ldG rfl rfl rfl rfl rfl (lf (i:=t) (j:=1) (x:=.int .i64 (Sk.smT (·.s.hi) (t:Int) (ms1))) sc3 (Sk.sr_get (Sk.wlT_get (y:=Sk.yD D n ms1) (t:=t) htD)) rfl) rfl (Zg 2 rfl ?_)
 refine tkG rfl rfl rfl rfl (PE.indexAddr ZfG rfl rfl (by omega) (by omega)) rfl ?_
 refine tkG rfl rfl rfl rfl (PE.fA ZI rfl) rfl ?_
 refine ldG rfl rfl rfl rfl rfl (lf (i:=t) (j:=1) (x:=.int .i64 (Sk.smT (·.s.hi) (t:Int) (ms))) sc3 (Sk.sr_get (Sk.wlT_get (y:=Sk.yD D n ms) (t:=t) htD)) rfl) rfl (Zg 2 rfl ?_)
 refine Z1 rfl ?_ ?_<;>intro hc8
 exact absurd hc8 (by simp;omega)
 refine Z3 (sqr 2 rfl (sp rfl (PE.add rfl rfl (by omega)) rfl (pur 1 rfl ?_)))
 exact Zb ⟨t+1,by omega⟩ idH
 refine Z7 (Z8 (Z8 (Zi (sqt 24 rfl (pur 1 rfl (sp rfl (PE.fA Z0T rfl) rfl (spL rfl rfl (lh (v:=.int .i64 (D:Int)) sc3 rfl rfl) rfl (sp rfl (PE.indexAddr ZfG rfl rfl (by omega) (by omega)) rfl (sp rfl (PE.fA ZH rfl) rfl (spL rfl rfl (lf (i:=D) (j:=0) (x:=.int .i64 (Sk.smT (·.s.lo) (D:Int) (ms1))) sc3 (Sk.sr_get (Sk.wlT_get (y:=Sk.yD D n ms1) (t:=D) (Nat.le_refl _))) rfl) rfl (sp rfl (PE.mul rfl rfl (by omega)) rfl (pur 3 rfl ?_))))))))))))
 refine Zq 302 rfl ?_ ?_<;>intro g302
 refine pur 2 rfl ?_
 refine spG rfl rfl rfl rfl (PE.fA Z0T rfl) rfl ?_
 refine Z0e rfl rfl rfl rfl rfl (lh (v:=.int .i64 (D:Int)) sc3 rfl rfl) rfl ?_
 refine spG rfl rfl rfl rfl (PE.indexAddr ZfG rfl rfl (by omega) (by omega)) rfl ?_
 refine spG rfl rfl rfl rfl (PE.fA ZI rfl) rfl ?_
 refine Z0e rfl rfl rfl rfl rfl (lf (i:=D) (j:=1) (x:=.int .i64 (Sk.smT (·.s.hi) (D:Int) (ms1))) sc3 (Sk.sr_get (Sk.wlT_get (y:=Sk.yD D n ms1) (t:=D) (Nat.le_refl _))) rfl) rfl ?_
 refine spG rfl rfl rfl rfl (PE.mul rfl rfl (by omega)) rfl ?_
 refine pur 3 rfl ?_
 refine Zq 313 rfl ?_ ?_<;>intro g313
 refine Z6x rfl rfl rfl rfl ZqS rfl rfl (ZbQ _ _) ?_
 refine pur 2 rfl (Z4 ?_)
 exact rtA rfl rfl rfl ⟨rfl,rfl,rfl⟩ (fun w h=>St.sub ((((h.del b10).del b9).del b8).del bk))
 exact absurd g313 (by simp;omega)
 exact absurd g302 (by simp;omega)
end Go.Proofs.YtcfdanhklbklkaaGreat
