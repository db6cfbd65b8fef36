/- Walks of the functions of the program, and the laws that join them: what the last theorem of this claim needs, in order. -/
import Derived.Test.YtclnhdkneegfkaaGreatWs5
namespace Go.Proofs.YtclnhdkneegfkaaGreat
set_option linter.unusedSimpArgs false
set_option linter.unusedVariables false
open Go
theorem Z9O:Z55 Tryz.prog 129=some 2:=by kernel_rfl
theorem Z1q:Z55 Tryz.prog 57=some 3:=by kernel_rfl
theorem Z7v:cal Tryz.prog 57=true:=by kernel_rfl
theorem Z7x:cal Tryz.prog 76=true:=by kernel_rfl
theorem Z1g:cal Tryz.prog 77=true:=by kernel_rfl
theorem ZfJ:cal Tryz.prog 80=true:=by kernel_rfl
theorem Zd5:Z0O Tryz.prog 129=some 2:=by kernel_rfl
theorem Zjb:elN Tryz.prog 54=some 2:=by kernel_rfl
theorem ZgZ:elN Tryz.prog 55=some 3:=by kernel_rfl
theorem Z0o:Z2X Tryz.prog 129 0=some 0:=by kernel_rfl
theorem Z0F:Z2X Tryz.prog 129 1=some 1:=by kernel_rfl
theorem Z5V:Z2X Tryz.prog 130 0=some 0:=by kernel_rfl
theorem Z2Z:Z2X Tryz.prog 130 1=some 1:=by kernel_rfl
theorem Z0L:Z2X Tryz.prog 57 0=some 0:=by kernel_rfl
theorem Z16:Z2X Tryz.prog 57 1=some 1:=by kernel_rfl
theorem Z1j:Z2X Tryz.prog 57 2=some 2:=by kernel_rfl
theorem Z58:Z7g Tryz.prog 54=true:=by kernel_rfl
theorem Z7D:Z7g Tryz.prog 55=true:=by kernel_rfl
theorem Z7h:Z3n Tryz.prog 54=true:=by kernel_rfl
theorem Z7P:Z3n Tryz.prog 55=true:=by kernel_rfl
theorem Zcm:Z09 Tryz.prog 129=some ([.int .i64 0,.int .i64 0]):=by kernel_rfl
theorem ZiF {n lo hi:Int} (h:decide (n<lo)=true):true=!(inB n lo hi):=by
 have:=of_decide_eq_true h
 unfold inB;rw [decide_eq_false (show ¬ lo≤n by omega)];rfl
theorem ZiE {n lo hi:Int} (h:decide (n<lo)=false):decide (hi<n)=!(inB n lo hi):=by
 have:=of_decide_eq_false h
 unfold inB;rw [decide_eq_true (show lo≤n by omega),Bool.true_and,← decide_not];exact decide_eq_decide.2 (by omega)
theorem Zdk {l:List Int} {v:Int} (h:∀ x∈l,x≠v):ZH l v=false:=by
 cases hb:ZH l v with
 | false=>rfl
 | true=>exact absurd rfl (h v (hasI_iff.1 hb))
theorem Z9E {l:List Int} {k:Nat} {x v:Int} (hx:l[k]?=some x) (h:∀ y∈l.take k,y≠v) (hn:x≠v):∀ y∈l.take (k+1),y≠v:=fun y hy=>by
 rw [List.take_add_one,hx] at hy
 rcases List.mem_append.1 hy with h1 | h1
 · exact h y h1
 · rw [List.mem_singleton.1 h1];exact hn
def fil (v:Int) (B k:Nat):List Int:=List.replicate k v++List.replicate (B-k) 0
theorem ZaW {v:Int} {B k:Nat} (h:k≤B):(fil v B k).length=B:=by unfold fil;rw [List.length_append,List.length_replicate,List.length_replicate];omega
theorem Zg3 {v:Int} {B k:Nat} (h:k<B):(fil v B k).set k v=fil v B (k+1):=by
 unfold fil
 rw [List.set_append_right _ _ (by rw [List.length_replicate];exact Nat.le_refl _),List.length_replicate,Nat.sub_self,show B-k=(B-(k+1))+1 by omega,List.replicate_succ,List.set_cons_zero,List.replicate_succ',List.append_assoc];rfl
theorem Zde (v:Int) (B:Nat):fil v B 0=List.replicate B 0:=by unfold fil;rfl
theorem Zg2 (v:Int) (B:Nat):fil v B B=List.replicate B v:=by unfold fil;rw [Nat.sub_self];exact List.append_nil _
theorem Lm.ltn {l:List Int} {m n:Nat} (h:Lm l m) (hm:m<2 ^ n):∀ x∈l,0≤x∧x.toNat<n:=fun x hx=>by
 have h1:=h.rg x hx
 refine ⟨h1.1,?_⟩
 rcases Nat.lt_or_ge x.toNat n with h2 | h2
 · exact h2
 · have h3:=(ZK (fun k hk=>(h.rg k hk).1) x.toNat).2 (by rw [show ((x.toNat:Nat):Int)=x by omega];exact hx)
   rw [h.ms] at h3
   rw [Nat.testBit_lt_two_pow (Nat.lt_of_lt_of_le hm (Nat.pow_le_pow_right (by decide) h2))] at h3;cases h3
theorem RwI.start (gs:List Gp) (c m B:Nat):RwI gs c m B 0 [] (List.replicate B (-1)):=⟨List.length_replicate,fun k hk=>by
 rw [Zg8]
 unfold na
 rw [List.getD_eq_getElem?_getD,List.getElem?_replicate,if_pos hk];rfl⟩
theorem Z4K (gs:List Gp) (cl now:List Int):∀ i,(nxt gs cl now i).length≤now.length+2*i
 | 0=>Nat.le_refl _
 | i+1=>by
   have ih:=Z4K gs cl now i
   unfold nxt
   cases gs[i]? with
   | none=>dsimp only;omega
   | some g =>
     dsimp only
     cases ZH cl i with
     | true=>rw [cond_true];omega
     | false =>
       rw [cond_false]
       cases ZH now g.a&&!ZH (nxt gs cl now i) g.b with
       | true =>
         dsimp only [cond_true]
         cases ZH now g.b&&!ZH (nxt gs cl now i++[g.b]) g.a with
         | true=>simp only [cond_true,List.length_append,List.length_singleton];omega
         | false=>simp only [cond_false,List.length_append,List.length_singleton];omega
       | false =>
         dsimp only [cond_false]
         cases ZH now g.b&&!ZH (nxt gs cl now i) g.a with
         | true=>simp only [cond_true,List.length_append,List.length_singleton];omega
         | false=>simp only [cond_false];omega
def nx1 (gs:List Gp) (cl now:List Int) (i:Nat) (g:Gp):List Int:=bif ZH now g.a&&!ZH (nxt gs cl now i) g.b then nxt gs cl now i++[g.b] else nxt gs cl now i
theorem Z8N {gs:List Gp} {cl now:List Int} {i:Nat} {g:Gp} (hg:gs[i]?=some g) (hc:ZH cl i=true):nxt gs cl now (i+1)=nxt gs cl now i:=by
 conv=>lhs;unfold nxt
 rw [hg];dsimp only;rw [hc];rfl
theorem Z8M {gs:List Gp} {cl now:List Int} {i:Nat} {g:Gp} (hg:gs[i]?=some g) (hc:ZH cl i=false):nxt gs cl now (i+1)=bif ZH now g.b&&!ZH (nx1 gs cl now i g) g.a then nx1 gs cl now i g++[g.a] else nx1 gs cl now i g:=by
 conv=>lhs;unfold nxt
 rw [hg];dsimp only;rw [hc];rfl
theorem ck2 {h:Hse} (h1:(!(inB h.bins 1 7))=true∨10<h.gaps.length∨8<h.sights.length):h.check=2:=by
 unfold Hse.check
 have:(!(inB h.bins 1 7)||decide (10<h.gaps.length)||decide (8<h.sights.length))=true:=by
   rcases h1 with h1 | h1 | h1
   · rw [h1];rfl
   · rw [decide_eq_true h1];simp
   · rw [decide_eq_true h1];simp
 rw [this];rfl
def Z4i (h:Hse) (k:Nat):Bool:=(h.gaps.take k).any fun g=>!(inB g.a 0 (h.bins-1))||!(inB g.b 0 (h.bins-1))
def Z1K (h:Hse) (k:Nat):Bool:=(h.gaps.take k).any fun g=>decide (g.a=g.b)
def Zh0 (h:Hse) (k:Nat):Bool:=(h.sights.take k).any fun s=>!(inB s.bin 0 (h.bins-1))
theorem Z2v {α:Type} {l:List α} {k:Nat} {x:α} {p:α→Bool} (hx:l[k]?=some x):(l.take (k+1)).any p=((l.take k).any p||p x):=by rw [List.take_add_one,hx,List.any_append];simp
theorem ZfN {h:Hse} (h1:inB h.bins 1 7=true) (h2:h.gaps.length≤10) (h3:h.sights.length≤8) (h4:(h.sights.all fun s=>inB s.week 0 9)=true):h.check=bif Z4i h h.gaps.length||Zh0 h h.sights.length then 1 else bif Z1K h h.gaps.length then 5 else 0:=by
 unfold Hse.check Z4i Zh0 Z1K
 rw [h1,decide_eq_false (show ¬ 10<h.gaps.length by omega),decide_eq_false (show ¬ 8<h.sights.length by omega),h4,List.take_length,List.take_length]
 have e1:(!(h.gaps.all fun g=>inB g.a 0 (h.bins-1)&&inB g.b 0 (h.bins-1)))=h.gaps.any fun g=>!(inB g.a 0 (h.bins-1))||!(inB g.b 0 (h.bins-1)):=by
   rw [List.not_all_eq_any_not]
   congr 1;funext g;rw [Bool.not_and]
 have e2:(!(h.sights.all fun s=>inB s.bin 0 (h.bins-1)))=h.sights.any fun s=>!(inB s.bin 0 (h.bins-1)):=List.not_all_eq_any_not
 have e3:(!(h.gaps.all fun g=>!decide (g=⟨g.b,g.a⟩)))=h.gaps.any fun g=>decide (g.a=g.b):=by
   rw [List.not_all_eq_any_not]
   congr 1;funext g
   rw [Bool.not_not]
   cases g with
   | mk a b=>exact decide_eq_decide.2 ⟨fun e=>by injection e,fun e=>by dsimp only at e;subst e;rfl⟩
 rw [e1,e2,e3];rfl
theorem ck3 {h:Hse} (h1:inB h.bins 1 7=true) (h2:h.gaps.length≤10) (h3:h.sights.length≤8) {s:Sgt} (hs:s∈h.sights) (h4:(!(inB s.week 0 9))=true):h.check=3:=by
 have e:(h.sights.all fun s=>inB s.week 0 9)=false:=List.all_eq_false.2 ⟨s,hs,by rw [Bool.not_eq_true'] at h4;rw [h4];decide⟩
 unfold Hse.check
 rw [h1,decide_eq_false (show ¬ 10<h.gaps.length by omega),decide_eq_false (show ¬ 8<h.sights.length by omega),e];rfl
theorem Zgx {l:List Sgt} {p:Sgt→Bool} (h:∀ x∈l.take l.length,p x=true):l.all p=true:=List.all_eq_true.2 fun x hx=>h x (by rw [List.take_length];exact hx)
theorem Z4w (n lo hi:Int) (H:Zf) (R:Z6) :
    FnV Tryz.prog 76 [.int .i64 n,.int .i64 lo,.int .i64 hi] H R (.bool (!(inB n lo hi))):=by
 refine Zl Tryz.func76 rfl Tryz.ntmps76 rfl ?_
 refine sqt 1 rfl (pur 1 rfl (sqt 9 rfl (pur 4 rfl ?_)))
 refine Zj 10 rfl ?_ ?_<;>intro g10
 refine pur 5 rfl (Z5 ?_)
 exact rtA rfl rfl rfl ⟨by first | exact congrArg Value.bool (ZiF g10) | exact congrArg Value.bool (ZiE g10),rfl,rfl⟩ drp
 refine pur 5 rfl (Z5 ?_)
 exact rtA rfl rfl rfl ⟨by first | exact congrArg Value.bool (ZiF g10) | exact congrArg Value.bool (ZiE g10),rfl,rfl⟩ drp
theorem Z0j (l:List Int) (a:Option Addr) (c:Nat) (v:Int) (hl:l.length≤9223372036854775807) (H:Zf) (R:Z6) [hL:MemRows a 1 (Z3 l) R] :
    FnV Tryz.prog 77 [.slice a l.length c,.int .i64 v] H R (.bool (ZH l v)):=by
 refine Zl Tryz.func77 rfl Tryz.ntmps77 rfl ?_
 refine sqt 1 rfl (pur 1 rfl (Z0 (sqt 1 rfl (pur 1 rfl (Z4 ?_)))))
 refine Ze (ι:={k:Nat // k≤l.length∧∀ x∈l.take k,x≠v}) (fun k=>⟨[(0,.slice a l.length c),(1,.int .i64 v),(5,.int .i64 (k.1:Int))],H,R⟩) (fun k=>l.length-k.1) ⟨0,Nat.zero_le _,by simp⟩ ?_ (fun k=>?_)
 exact Zi idH
 obtain ⟨k,hk,hn⟩:=k
 dsimp only at hk hn ⊢
 refine Z0 (sqt 4 rfl (pur 2 rfl (sp rfl (PE.lenSl Zy rfl) rfl (pur 1 rfl ?_))))
 refine Z1 rfl ?_ ?_<;>intro hc0<;>try simp only [cS] at hc0
 obtain ⟨x,hx⟩:∃ x,l[k]?=some x:=⟨_,List.getElem?_eq_getElem (by omega)⟩
 refine Zh (a:=a) (sz:=1) (rows:=Z3 l) (ne0 (by rw [irl];omega)) (fun ba oa he=>?_)
 subst he
 refine Z2 (Z0 (Z4 (sqt 6 rfl (pur 2 rfl (sp rfl (PE.indexAddr Z0c rfl rfl (by omega) (by omega)) rfl (spL rfl rfl (lf0 sc3 (ZB hx) rfl) rfl (pur 2 rfl ?_)))))))
 refine Z1 rfl ?_ ?_<;>intro hc1<;>try simp only [cS] at hc1
 have hh:ZH l v=true:=hasI_iff.2 (by rw [← hc1];exact List.mem_of_getElem? hx)
 refine sqt 1 rfl (pur 1 rfl (Z5 ?_))
 exact rtA rfl rfl rfl ⟨by simp only [ZU];rw [hh],rfl,rfl⟩ drp
 refine Z2 (sqr 3 rfl (pur 1 rfl (sp rfl (PE.add rfl rfl (by omega)) rfl (pur 1 rfl ?_))))
 exact Zb ⟨k+1,by omega,Z9E hx hn hc1⟩ idH
 obtain rfl:k=l.length:=by omega
 rw [List.take_length] at hn
 have hh:ZH l v=false:=Zdk hn
 refine Z9 (Za (Za (Zm (sqt 1 rfl (pur 1 rfl (Z5 ?_))))))
 exact rtA rfl rfl rfl ⟨by simp only [ZU];rw [hh],rfl,rfl⟩ drp
theorem ZfC (xs:List Int) (n:Nat) (hn:xs.length=n) (a:Option Addr) (c:Nat) (v:Int) (hl:xs.length≤9223372036854775807) (H:Zf) (R:Z6) [hR:MemRows a 1 (Z3 xs) R]:FnV Tryz.prog 77 [.slice a n c,.int .i64 v] H R (.bool (ZH xs v)):=by subst hn;exact Z0j xs a c v hl H R
set_option maxHeartbeats 400000 in
theorem Z1f (l:List Int) (a:Option Addr) (c:Nat) (n:Int) (hn:0≤n∧n≤1000000) (hl:l.length≤9223372036854775807) (hlc:l.length≤c) (H:Zf) (R:Z6) [hR:MemRows a 1 (Z3 l) R] :
    FnV Tryz.prog 57 [.slice a l.length c,.int .i64 n] H R (.int .i64 (ZM n l)):=by
 refine Zl Tryz.func57 rfl Tryz.ntmps57 rfl ?_
 refine sqt 1 rfl (pur 1 rfl (Z0 (sqt 1 rfl (pur 1 rfl (Z4 ?_)))))
 refine Ze (ι:={k:Nat // k≤l.length∧∀ x∈l.take k,inB x 0 (n-1)=true}) (fun k=>⟨[(0,.slice a l.length c),(1,.int .i64 n),(5,.int .i64 (k.1:Int))],H,R⟩) (fun k=>l.length-k.1) ⟨0,Nat.zero_le _,by simp⟩ ?_ (fun k=>?_)
 exact Zi idH
 obtain ⟨k,hk,hi⟩:=k
 dsimp only at hk hi ⊢
 refine Z0 (sqt 4 rfl (pur 2 rfl (sp rfl (PE.lenSl Zy rfl) rfl (pur 1 rfl ?_))))
 refine Z1 rfl ?_ ?_<;>intro hc0<;>try simp only [cS] at hc0
 obtain ⟨x,hx⟩:∃ x,l[k]?=some x:=⟨_,List.getElem?_eq_getElem (by omega)⟩
 refine Zh (a:=a) (sz:=1) (rows:=Z3 l) (ne0 (by rw [irl];omega)) (fun ba oa he=>?_)
 subst he
 refine Z2 (Z0 (Z4 (sqt 7 rfl (pur 2 rfl (sp rfl (PE.indexAddr Z0c rfl rfl (by omega) (by omega)) rfl (spL rfl rfl (lf0 sc3 (ZB hx) rfl) rfl (pur 1 rfl (sp rfl (PE.sub rfl rfl (by omega)) rfl ?_))))))))
 refine clV rfl Z7x rfl rfl (Z4w _ _ _ _ _) ?_
 refine Z1 rfl ?_ ?_<;>intro hc1
 have hx9:inB x 0 (n-1)=false:=by rw [← Bool.not_eq_true'];exact hc1
 have hall:(l.all fun k=>inB k 0 (n-1))=false:=List.all_eq_false.2 ⟨x,List.mem_of_getElem? hx,by rw [hx9];decide⟩
 refine sqt 1 rfl (pur 1 rfl (Z5 ?_))
 exact rtA rfl rfl rfl ⟨by simp only [ZU];unfold ZM;rw [hall];rfl,rfl,rfl⟩ drp
 have hx9:inB x 0 (n-1)=true:=by rw [← Bool.not_eq_false'];exact hc1
 refine Z2 (sqr 3 rfl (pur 1 rfl (sp rfl (PE.add rfl rfl (by omega)) rfl (pur 1 rfl ?_))))
 exact Zc ⟨k+1,by omega,fun y hy=>by
   rw [List.take_add_one,hx] at hy
   rcases List.mem_append.1 hy with h1 | h1
   · exact hi y h1
   · rw [List.mem_singleton.1 h1];exact hx9⟩ (by dsimp only;omega) sbA idH
 obtain rfl:k=l.length:=by omega
 rw [List.take_length] at hi
 have hall:(l.all fun k=>inB k 0 (n-1))=true:=List.all_eq_true.2 hi
 refine Z9 (Za (Za (Zm (Z0 (sqt 1 rfl (pur 1 rfl (Z4 ?_)))))))
 refine Ze (ι:={k:Nat // k≤l.length∧∀ i<k,Z53 l i=false}) (fun k=>⟨[(0,.slice a l.length c),(6,.int .i64 (k.1:Int))],H,R⟩) (fun k=>l.length-k.1) ⟨0,Nat.zero_le _,fun i hi=>absurd hi (Nat.not_lt_zero _)⟩ ?_ (fun k=>?_)
 exact Zi idH
 obtain ⟨k,hk,hd⟩:=k
 dsimp only at hk hd ⊢
 refine Z0 (sqt 4 rfl (pur 2 rfl (sp rfl (PE.lenSl Zy rfl) rfl (pur 1 rfl ?_))))
 refine Z1 rfl ?_ ?_<;>intro hc2<;>try simp only [cS] at hc2
 obtain ⟨x,hx⟩:∃ x,l[k]?=some x:=⟨_,List.getElem?_eq_getElem (by omega)⟩
 refine Zh (a:=a) (sz:=1) (rows:=Z3 l) (ne0 (by rw [irl];omega)) (fun ba oa he=>?_)
 subst he
 refine Z2 (Z0 (Z4 (Z0 ?_)))
 refine Zo [0,0,3,0,0,24,56,127] (tks 0 6 (.ld 6 (.big 7 .done))) ZF (by kernel_rfl) ?_
 refine Zu 2 rfl (tk rfl (PE.slHi (h:=k) Z03 rfl rfl (by omega)) rfl (Zu 2 rfl (tk rfl (PE.indexAddr Z0c rfl rfl (by omega) (by omega)) rfl (ld rfl rfl (lf0 sc3 (ZB hx) rfl) rfl ?_))))
 refine Sy.heap (fun w h=>(Z3D l k▸St.rowsTake (a:=some ⟨ba,oa,none⟩) (sz:=1) (rows:=Z3 l) h k)) ?_
 refine clV rfl Z1g rfl rfl (ZfC (l.take k) k (by rw [List.length_take];omega) (some ⟨ba,oa,none⟩) c x (by rw [List.length_take];omega) _ _) ?_
 refine bgT ?_
 refine Z1 rfl ?_ ?_<;>intro hc3<;>try simp only [cS] at hc3
 have hdk:Z53 l k=true:=by unfold Z53;rw [Z1n hx];exact hc3
 refine sqt 1 rfl (pur 1 rfl (Z5 ?_))
 exact rtA rfl rfl rfl ⟨by simp only [ZU];unfold ZM;rw [hall,ZaS (by omega) hdk];rfl,rfl,rfl⟩ drp
 have hd2:∀ i<k+1,Z53 l i=false:=fun i hi=>by
   rcases Nat.lt_or_ge i k with h1 | h1
   · exact hd i h1
   · obtain rfl:i=k:=by omega
     unfold Z53;rw [Z1n hx];exact hc3
 refine Z2 (sqr 3 rfl (pur 1 rfl (sp rfl (PE.add rfl rfl (by omega)) rfl (pur 1 rfl ?_))))
 exact Zb ⟨k+1,by omega,hd2⟩ (fun w h=>h.ftail)
 obtain rfl:k=l.length:=by omega
 refine Z9 (Za (Za (Zm (sqt 1 rfl (pur 1 rfl (Z5 ?_))))))
 exact rtA rfl rfl rfl ⟨by simp only [ZU];unfold ZM;rw [hall,Zev hd rfl];rfl,rfl,rfl⟩ drp
set_option maxHeartbeats 400000 in
theorem Zar (h:Hse) (ag as_:Option Addr) (cg cs:Nat) (hok:h.ok) (fr to_:List Int) (af at_:Option Addr) (cf ct:Nat) (hlf:fr.length≤1000000) (hlt:to_.length≤1000000) (hfc:fr.length≤cf) (htc:to_.length≤ct) (H:Zf) (R:Z6) [hF:MemRows af 1 (Z3 fr) R] [hT:MemRows at_ 1 (Z3 to_) R] :
    FnV Tryz.prog 22 [h.v (h.sg ag cg) (h.ss as_ cs),.slice af fr.length cf,.slice at_ to_.length ct] H R (.int .i64 (h.botE fr to_)):=by
 refine Zl Tryz.func22 rfl Tryz.ntmps22 rfl ?_
 refine sqt 2 rfl ?_
 have hbn:=hok.bins
 have hck:=hse_ok.2 hok
 refine bx rfl rfl rfl (fun b3=>pur 1 rfl (Z0 (sqt 5 rfl (pur 1 rfl (sp rfl (PE.fA Z0L rfl) rfl (spL rfl rfl (lh (v:=.int .i64 h.bins) sc3 rfl rfl) rfl ?_))))))
 refine clV rfl Z7v rfl rfl (Z1f fr af cf h.bins (by omega) (by omega) hfc _ _) ?_
 refine pur 1 rfl (sqt 2 rfl (pur 2 rfl ?_))
 refine Z1 rfl ?_ ?_<;>intro hc0<;>try simp only [cS] at hc0
 refine sqt 2 rfl (pur 2 rfl (Z5 ?_))
 exact rtA rfl rfl rfl ⟨by simp only [ZU];unfold Hse.botE;rw [hck,dT hc0];rfl,rfl,rfl⟩ (fun w h9=>h9.del b3)
 have hc0:ZM h.bins fr=0:=by omega
 refine Z2 (Z0 (sqt 5 rfl (pur 1 rfl (sp rfl (PE.fA Z0L rfl) rfl (spL rfl rfl (lh (v:=.int .i64 h.bins) sc3 rfl rfl) rfl ?_)))))
 refine clV rfl Z7v rfl rfl (Z1f to_ at_ ct h.bins (by omega) (by omega) htc _ _) ?_
 refine pur 1 rfl (sqt 2 rfl (pur 2 rfl ?_))
 refine Z1 rfl ?_ ?_<;>intro hc1<;>try simp only [cS] at hc1
 refine sqt 2 rfl (pur 2 rfl (Z5 ?_))
 exact rtA rfl rfl rfl ⟨by simp only [ZU];unfold Hse.botE;rw [hck,hc0,dT hc1];rfl,rfl,rfl⟩ (fun w h9=>h9.del b3)
 have hc1:ZM h.bins to_=0:=by omega
 refine Z2 (Z0 (sqt 1 rfl (pur 1 rfl (Z4 ?_))))
 refine Ze (ι:={k:Nat // k≤fr.length∧∀ x∈fr.take k,ZH to_ x=false}) (fun k=>⟨[(1,.slice af fr.length cf),(2,.slice at_ to_.length ct),(9,.int .i64 (k.1:Int))],(b3,cel 57 (htl h (h.sg ag cg) (h.ss as_ cs)))::H,R⟩) (fun k=>fr.length-k.1) ⟨0,Nat.zero_le _,by simp⟩ ?_ (fun k=>?_)
 exact Zi idH
 obtain ⟨k,hk,hn⟩:=k
 dsimp only at hk hn ⊢
 refine Z0 (sqt 4 rfl (pur 2 rfl (sp rfl (PE.lenSl Zy rfl) rfl (pur 1 rfl ?_))))
 refine Z1 rfl ?_ ?_<;>intro hc2<;>try simp only [cS] at hc2
 obtain ⟨x,hx⟩:∃ x,fr[k]?=some x:=⟨_,List.getElem?_eq_getElem (by omega)⟩
 refine Zh (a:=af) (sz:=1) (rows:=Z3 fr) (ne0 (by rw [irl];omega)) (fun ba oa he=>?_)
 subst he
 refine Z2 (Z0 (Z4 (sqt 6 rfl (pur 3 rfl (sp rfl (PE.indexAddr Z0c rfl rfl (by omega) (by omega)) rfl (spL rfl rfl (lf0 sc3 (ZB hx) rfl) rfl ?_))))))
 refine clV rfl Z1g rfl rfl (Z0j to_ at_ ct x (by omega) _ _) ?_
 refine Z1 rfl ?_ ?_<;>intro hc3<;>try simp only [cS] at hc3
 have hh:fr.any (ZH to_)=true:=List.any_eq_true.2 ⟨x,List.mem_of_getElem? hx,hc3⟩
 refine sqt 1 rfl (pur 1 rfl (Z5 ?_))
 exact rtA rfl rfl rfl ⟨by simp only [ZU];unfold Hse.botE;rw [hck,hc0,hc1,hh];rfl,rfl,rfl⟩ (fun w h9=>h9.del b3)
 refine Z2 (sqr 3 rfl (pur 1 rfl (sp rfl (PE.add rfl rfl (by omega)) rfl (pur 1 rfl ?_))))
 exact Zc ⟨k+1,by omega,fun y hy=>by
   rw [List.take_add_one,hx] at hy
   rcases List.mem_append.1 hy with h1 | h1
   · exact hn y h1
   · rw [List.mem_singleton.1 h1];exact hc3⟩ (by dsimp only;omega) sbA idH
 obtain rfl:k=fr.length:=by omega
 rw [List.take_length] at hn
 have hh:fr.any (ZH to_)=false:=List.any_eq_false.2 fun x hx=>by rw [hn x hx];decide
 refine Z9 (Za (Za (Zm (sqt 1 rfl (pur 1 rfl (Z5 ?_))))))
 exact rtA rfl rfl rfl ⟨by simp only [ZU];unfold Hse.botE;rw [hck,hc0,hc1,hh];rfl,rfl,rfl⟩ (fun w h9=>h9.del b3)
set_option maxHeartbeats 400000 in
theorem Z3e (h:Hse) (ag as_:Option Addr) (cg cs:Nat) (hlg:h.gaps.length≤9223372036854775807) (hls:h.sights.length≤9223372036854775807) (H:Zf) (R:Z6) [hG:MemRows ag 2 (Z7 h.gaps) R] [hS:MemRows as_ 3 (Z8 h.sights) R] :
    FnV Tryz.prog 21 [h.v (h.sg ag cg) (h.ss as_ cs)] H R (.int .i64 h.check):=by
 refine Zl Tryz.func21 rfl Tryz.ntmps21 rfl ?_
 refine sqt 2 rfl (bx rfl rfl rfl (fun b1=>pur 1 rfl (Z0 (sqt 15 rfl (sp rfl (PE.fA Z0L rfl) rfl (spL rfl rfl (lh (v:=.int .i64 h.bins) sc3 rfl rfl) rfl ?_))))))
 refine clV rfl Z7x rfl rfl (Z4w _ _ _ _ _) ?_
 refine pur 1 rfl ?_
 refine Zj 11 rfl ?_ ?_<;>intro g11
 refine pur 11 rfl ?_
 refine ZP rfl ?_
 refine sqt 1 rfl (pur 1 rfl (Z5 ?_))
 exact rtA rfl rfl rfl ⟨congrArg (Value.int .i64) ((ck2 (.inl g11)).symm),rfl,rfl⟩ (fun w h9=>h9.del b1)
 refine spG rfl rfl rfl rfl (PE.fA Z16 rfl) rfl ?_
 refine Z0m rfl rfl rfl rfl rfl (lh Z7h rfl rfl) rfl ?_
 refine spG rfl rfl rfl rfl (PE.lenSl Z58 rfl) rfl ?_
 refine pur 3 rfl ?_
 refine Zj 17 rfl ?_ ?_<;>intro g17
 refine pur 5 rfl ?_
 refine ZP rfl ?_
 refine sqt 1 rfl (pur 1 rfl (Z5 ?_))
 exact rtA rfl rfl rfl ⟨congrArg (Value.int .i64) ((ck2 (.inr (.inl (by have:=of_decide_eq_true g17;omega)))).symm),rfl,rfl⟩ (fun w h9=>h9.del b1)
 refine spG rfl rfl rfl rfl (PE.fA Z1j rfl) rfl ?_
 refine Z0m rfl rfl rfl rfl rfl (lh Z7P rfl rfl) rfl ?_
 refine spG rfl rfl rfl rfl (PE.lenSl Z7D rfl) rfl ?_
 refine pur 2 rfl ?_
 refine Z1 rfl ?_ ?_<;>intro hc0
 refine sqt 1 rfl (pur 1 rfl (Z5 ?_))
 exact rtA rfl rfl rfl ⟨congrArg (Value.int .i64) ((ck2 (.inr (.inr (by have:=of_decide_eq_true hc0;omega)))).symm),rfl,rfl⟩ (fun w h9=>h9.del b1)
 try simp only [cS] at hc0
 have hb7:inB h.bins 1 7=true:=by rw [← Bool.not_eq_false'];exact g11
 have hgl9:h.gaps.length≤10:=by first | omega | (simp only [decide_eq_false_iff_not] at g17;omega)
 have hsl9:h.sights.length≤8:=by omega
 have hbb:1≤h.bins∧h.bins≤7:=by simpa [inB] using hb7
 refine Z2 (sqt 2 rfl (pur 2 rfl (Z0 (sqt 1 rfl (pur 1 rfl (Z4 ?_))))))
 refine Ze (ι:={k:Nat // k≤h.gaps.length}) (fun k=>⟨[(1,.pointer (some ⟨b1,0,none⟩)),(3,.bool (Z4i h k.1)),(4,.bool (Z1K h k.1)),(5,.int .i64 (k.1:Int))],(b1,cel 57 (htl h (h.sg ag cg) (h.ss as_ cs)))::H,R⟩) (fun k=>h.gaps.length-k.1) ⟨0,Nat.zero_le _⟩ ?_ (fun k=>?_)
 exact Zi idH
 obtain ⟨k,hk⟩:=k
 dsimp only at hk ⊢
 refine Z0 (sqt 5 rfl (pur 1 rfl (sp rfl (PE.fA Z16 rfl) rfl (spL rfl rfl (lh Z7h rfl rfl) rfl (sp rfl (PE.lenSl Z58 rfl) rfl (pur 1 rfl ?_))))))
 refine Z1 rfl ?_ ?_<;>intro hc1<;>try simp only [cS] at hc1
 obtain ⟨g,hg⟩:∃ g,h.gaps[k]?=some g:=⟨_,List.getElem?_eq_getElem (by omega)⟩
 have e1:Z4i h (k+1)=(Z4i h k||(!(inB g.a 0 (h.bins-1))||!(inB g.b 0 (h.bins-1)))):=Z2v hg
 have e2:Z1K h (k+1)=(Z1K h k||decide (g.a=g.b)):=Z2v hg
 refine Zh (a:=ag) (sz:=2) (rows:=Z7 h.gaps) (ne0 (by rw [ZJ];omega)) (fun ba oa he=>?_)
 subst he
 refine Z2 (Z0 (Z4 (sqt 7 rfl (sp rfl (PE.fA Z16 rfl) rfl (spL rfl rfl (lh Z7h rfl rfl) rfl (pur 1 rfl (sp rfl (PE.indexAddr Zjb rfl rfl (by omega) (by omega)) rfl (spL rfl rfl (lfA Z9O (row:=grow g) (Z1l hg) rfl) rfl (alc rfl Zcm rfl (fun b6=>?_))))))))))
 refine ZG (l':=grow g) rfl rfl rfl Zd5 rfl rfl rfl rfl (nl rfl) ?_
 refine sqt 18 rfl (pur 2 rfl ?_)
 refine Zj 36 rfl ?_ ?_<;>intro g36
 refine pur 16 rfl (sqr 9 rfl (pur 2 rfl ?_))
 refine Zj 53 rfl ?_ ?_<;>intro g53
 refine pur 7 rfl (sqr 3 rfl (pur 1 rfl (sp rfl (PE.add rfl rfl (by omega)) rfl (pur 1 rfl ?_))))
 first
   | exact absurd g44 (by decide)
   | (have f1:Z4i h (k+1)=true:=by rw [e1,g36];rfl
      first
        | (have f2:Z1K h (k+1)=true:=by rw [e2,g53];rfl
           exact Zc ⟨k+1,by omega⟩ (by dsimp only;omega) (by rw [f1,f2];exact sbA) (fun w h=>h.del b6))
        | (have f2:Z1K h (k+1)=decide (g.a=g.b):=by rw [e2,g53];rfl
           exact Zc ⟨k+1,by omega⟩ (by dsimp only;omega) (by rw [f1,f2];exact sbA) (fun w h=>h.del b6)))
   | (have f1:Z4i h (k+1)=true:=by rw [e1,g36,g44];rfl
      first
        | (have f2:Z1K h (k+1)=true:=by rw [e2,g53];rfl
           exact Zc ⟨k+1,by omega⟩ (by dsimp only;omega) (by rw [f1,f2];exact sbA) (fun w h=>h.del b6))
        | (have f2:Z1K h (k+1)=decide (g.a=g.b):=by rw [e2,g53];rfl
           exact Zc ⟨k+1,by omega⟩ (by dsimp only;omega) (by rw [f1,f2];exact sbA) (fun w h=>h.del b6)))
   | (have f1:Z4i h (k+1)=!(inB g.b 0 (h.bins-1)):=by rw [e1,g36,g44];rfl
      first
        | (have f2:Z1K h (k+1)=true:=by rw [e2,g53];rfl
           exact Zc ⟨k+1,by omega⟩ (by dsimp only;omega) (by rw [f1,f2];exact sbA) (fun w h=>h.del b6))
        | (have f2:Z1K h (k+1)=decide (g.a=g.b):=by rw [e2,g53];rfl
           exact Zc ⟨k+1,by omega⟩ (by dsimp only;omega) (by rw [f1,f2];exact sbA) (fun w h=>h.del b6)))
 refine spG rfl rfl rfl rfl (PE.fA Z0o rfl) rfl ?_
 refine Z0m rfl rfl rfl rfl rfl (lh sc3 rfl rfl) rfl ?_
 refine spG rfl rfl rfl rfl (PE.fA Z0F rfl) rfl ?_
 refine Z0m rfl rfl rfl rfl rfl (lh sc3 rfl rfl) rfl (pur 3 rfl (sqr 3 rfl (pur 1 rfl (sp rfl (PE.add rfl rfl (by omega)) rfl (pur 1 rfl ?_)))))
 first
   | exact absurd g44 (by decide)
   | (have f1:Z4i h (k+1)=true:=by rw [e1,g36];rfl
      first
        | (have f2:Z1K h (k+1)=true:=by rw [e2,g53];rfl
           exact Zc ⟨k+1,by omega⟩ (by dsimp only;omega) (by rw [f1,f2];exact sbA) (fun w h=>h.del b6))
        | (have f2:Z1K h (k+1)=decide (g.a=g.b):=by rw [e2,g53];rfl
           exact Zc ⟨k+1,by omega⟩ (by dsimp only;omega) (by rw [f1,f2];exact sbA) (fun w h=>h.del b6)))
   | (have f1:Z4i h (k+1)=true:=by rw [e1,g36,g44];rfl
      first
        | (have f2:Z1K h (k+1)=true:=by rw [e2,g53];rfl
           exact Zc ⟨k+1,by omega⟩ (by dsimp only;omega) (by rw [f1,f2];exact sbA) (fun w h=>h.del b6))
        | (have f2:Z1K h (k+1)=decide (g.a=g.b):=by rw [e2,g53];rfl
           exact Zc ⟨k+1,by omega⟩ (by dsimp only;omega) (by rw [f1,f2];exact sbA) (fun w h=>h.del b6)))
   | (have f1:Z4i h (k+1)=!(inB g.b 0 (h.bins-1)):=by rw [e1,g36,g44];rfl
      first
        | (have f2:Z1K h (k+1)=true:=by rw [e2,g53];rfl
           exact Zc ⟨k+1,by omega⟩ (by dsimp only;omega) (by rw [f1,f2];exact sbA) (fun w h=>h.del b6))
        | (have f2:Z1K h (k+1)=decide (g.a=g.b):=by rw [e2,g53];rfl
           exact Zc ⟨k+1,by omega⟩ (by dsimp only;omega) (by rw [f1,f2];exact sbA) (fun w h=>h.del b6)))
 refine spG rfl rfl rfl rfl (PE.fA Z0o rfl) rfl ?_
 refine Z0m rfl rfl rfl rfl rfl (lh sc3 rfl rfl) rfl ?_
 refine spG rfl rfl rfl rfl (PE.fA Z0L rfl) rfl ?_
 refine Z0m rfl rfl rfl rfl rfl (lh (v:=.int .i64 h.bins) sc3 rfl rfl) rfl ?_
 refine spG rfl rfl rfl rfl (PE.sub rfl rfl (by omega)) rfl ?_
 refine Z0C rfl rfl rfl rfl Z7x rfl rfl (Z4w _ _ _ _ _) ?_
 refine pur 2 rfl ?_
 refine Zj 44 rfl ?_ ?_<;>intro g44
 refine pur 8 rfl (sqr 9 rfl (pur 2 rfl ?_))
 refine Zj 53 rfl ?_ ?_<;>intro g53
 refine pur 7 rfl (sqr 3 rfl (pur 1 rfl (sp rfl (PE.add rfl rfl (by omega)) rfl (pur 1 rfl ?_))))
 first
   | exact absurd g44 (by decide)
   | (have f1:Z4i h (k+1)=true:=by rw [e1,g36];rfl
      first
        | (have f2:Z1K h (k+1)=true:=by rw [e2,g53];rfl
           exact Zc ⟨k+1,by omega⟩ (by dsimp only;omega) (by rw [f1,f2];exact sbA) (fun w h=>h.del b6))
        | (have f2:Z1K h (k+1)=decide (g.a=g.b):=by rw [e2,g53];rfl
           exact Zc ⟨k+1,by omega⟩ (by dsimp only;omega) (by rw [f1,f2];exact sbA) (fun w h=>h.del b6)))
   | (have f1:Z4i h (k+1)=true:=by rw [e1,g36,g44];rfl
      first
        | (have f2:Z1K h (k+1)=true:=by rw [e2,g53];rfl
           exact Zc ⟨k+1,by omega⟩ (by dsimp only;omega) (by rw [f1,f2];exact sbA) (fun w h=>h.del b6))
        | (have f2:Z1K h (k+1)=decide (g.a=g.b):=by rw [e2,g53];rfl
           exact Zc ⟨k+1,by omega⟩ (by dsimp only;omega) (by rw [f1,f2];exact sbA) (fun w h=>h.del b6)))
   | (have f1:Z4i h (k+1)=!(inB g.b 0 (h.bins-1)):=by rw [e1,g36,g44];rfl
      first
        | (have f2:Z1K h (k+1)=true:=by rw [e2,g53];rfl
           exact Zc ⟨k+1,by omega⟩ (by dsimp only;omega) (by rw [f1,f2];exact sbA) (fun w h=>h.del b6))
        | (have f2:Z1K h (k+1)=decide (g.a=g.b):=by rw [e2,g53];rfl
           exact Zc ⟨k+1,by omega⟩ (by dsimp only;omega) (by rw [f1,f2];exact sbA) (fun w h=>h.del b6)))
 refine spG rfl rfl rfl rfl (PE.fA Z0o rfl) rfl ?_
 refine Z0m rfl rfl rfl rfl rfl (lh sc3 rfl rfl) rfl ?_
 refine spG rfl rfl rfl rfl (PE.fA Z0F rfl) rfl ?_
 refine Z0m rfl rfl rfl rfl rfl (lh sc3 rfl rfl) rfl (pur 3 rfl (sqr 3 rfl (pur 1 rfl (sp rfl (PE.add rfl rfl (by omega)) rfl (pur 1 rfl ?_)))))
 first
   | exact absurd g44 (by decide)
   | (have f1:Z4i h (k+1)=true:=by rw [e1,g36];rfl
      first
        | (have f2:Z1K h (k+1)=true:=by rw [e2,g53];rfl
           exact Zc ⟨k+1,by omega⟩ (by dsimp only;omega) (by rw [f1,f2];exact sbA) (fun w h=>h.del b6))
        | (have f2:Z1K h (k+1)=decide (g.a=g.b):=by rw [e2,g53];rfl
           exact Zc ⟨k+1,by omega⟩ (by dsimp only;omega) (by rw [f1,f2];exact sbA) (fun w h=>h.del b6)))
   | (have f1:Z4i h (k+1)=true:=by rw [e1,g36,g44];rfl
      first
        | (have f2:Z1K h (k+1)=true:=by rw [e2,g53];rfl
           exact Zc ⟨k+1,by omega⟩ (by dsimp only;omega) (by rw [f1,f2];exact sbA) (fun w h=>h.del b6))
        | (have f2:Z1K h (k+1)=decide (g.a=g.b):=by rw [e2,g53];rfl
           exact Zc ⟨k+1,by omega⟩ (by dsimp only;omega) (by rw [f1,f2];exact sbA) (fun w h=>h.del b6)))
   | (have f1:Z4i h (k+1)=!(inB g.b 0 (h.bins-1)):=by rw [e1,g36,g44];rfl
      first
        | (have f2:Z1K h (k+1)=true:=by rw [e2,g53];rfl
           exact Zc ⟨k+1,by omega⟩ (by dsimp only;omega) (by rw [f1,f2];exact sbA) (fun w h=>h.del b6))
        | (have f2:Z1K h (k+1)=decide (g.a=g.b):=by rw [e2,g53];rfl
           exact Zc ⟨k+1,by omega⟩ (by dsimp only;omega) (by rw [f1,f2];exact sbA) (fun w h=>h.del b6)))
 refine spG rfl rfl rfl rfl (PE.fA Z0F rfl) rfl ?_
 refine Z0m rfl rfl rfl rfl rfl (lh sc3 rfl rfl) rfl ?_
 refine spG rfl rfl rfl rfl (PE.fA Z0L rfl) rfl ?_
 refine Z0m rfl rfl rfl rfl rfl (lh (v:=.int .i64 h.bins) sc3 rfl rfl) rfl ?_
 refine spG rfl rfl rfl rfl (PE.sub rfl rfl (by omega)) rfl ?_
 refine Z0C rfl rfl rfl rfl Z7x rfl rfl (Z4w _ _ _ _ _) ?_
 refine pur 2 rfl (sqr 9 rfl (pur 2 rfl ?_))
 refine Zj 53 rfl ?_ ?_<;>intro g53
 refine pur 7 rfl (sqr 3 rfl (pur 1 rfl (sp rfl (PE.add rfl rfl (by omega)) rfl (pur 1 rfl ?_))))
 first
   | exact absurd g44 (by decide)
   | (have f1:Z4i h (k+1)=true:=by rw [e1,g36];rfl
      first
        | (have f2:Z1K h (k+1)=true:=by rw [e2,g53];rfl
           exact Zc ⟨k+1,by omega⟩ (by dsimp only;omega) (by rw [f1,f2];exact sbA) (fun w h=>h.del b6))
        | (have f2:Z1K h (k+1)=decide (g.a=g.b):=by rw [e2,g53];rfl
           exact Zc ⟨k+1,by omega⟩ (by dsimp only;omega) (by rw [f1,f2];exact sbA) (fun w h=>h.del b6)))
   | (have f1:Z4i h (k+1)=true:=by rw [e1,g36,g44];rfl
      first
        | (have f2:Z1K h (k+1)=true:=by rw [e2,g53];rfl
           exact Zc ⟨k+1,by omega⟩ (by dsimp only;omega) (by rw [f1,f2];exact sbA) (fun w h=>h.del b6))
        | (have f2:Z1K h (k+1)=decide (g.a=g.b):=by rw [e2,g53];rfl
           exact Zc ⟨k+1,by omega⟩ (by dsimp only;omega) (by rw [f1,f2];exact sbA) (fun w h=>h.del b6)))
   | (have f1:Z4i h (k+1)=!(inB g.b 0 (h.bins-1)):=by rw [e1,g36,g44];rfl
      first
        | (have f2:Z1K h (k+1)=true:=by rw [e2,g53];rfl
           exact Zc ⟨k+1,by omega⟩ (by dsimp only;omega) (by rw [f1,f2];exact sbA) (fun w h=>h.del b6))
        | (have f2:Z1K h (k+1)=decide (g.a=g.b):=by rw [e2,g53];rfl
           exact Zc ⟨k+1,by omega⟩ (by dsimp only;omega) (by rw [f1,f2];exact sbA) (fun w h=>h.del b6)))
 refine spG rfl rfl rfl rfl (PE.fA Z0o rfl) rfl ?_
 refine Z0m rfl rfl rfl rfl rfl (lh sc3 rfl rfl) rfl ?_
 refine spG rfl rfl rfl rfl (PE.fA Z0F rfl) rfl ?_
 refine Z0m rfl rfl rfl rfl rfl (lh sc3 rfl rfl) rfl (pur 3 rfl (sqr 3 rfl (pur 1 rfl (sp rfl (PE.add rfl rfl (by omega)) rfl (pur 1 rfl ?_)))))
 first
   | exact absurd g44 (by decide)
   | (have f1:Z4i h (k+1)=true:=by rw [e1,g36];rfl
      first
        | (have f2:Z1K h (k+1)=true:=by rw [e2,g53];rfl
           exact Zc ⟨k+1,by omega⟩ (by dsimp only;omega) (by rw [f1,f2];exact sbA) (fun w h=>h.del b6))
        | (have f2:Z1K h (k+1)=decide (g.a=g.b):=by rw [e2,g53];rfl
           exact Zc ⟨k+1,by omega⟩ (by dsimp only;omega) (by rw [f1,f2];exact sbA) (fun w h=>h.del b6)))
   | (have f1:Z4i h (k+1)=true:=by rw [e1,g36,g44];rfl
      first
        | (have f2:Z1K h (k+1)=true:=by rw [e2,g53];rfl
           exact Zc ⟨k+1,by omega⟩ (by dsimp only;omega) (by rw [f1,f2];exact sbA) (fun w h=>h.del b6))
        | (have f2:Z1K h (k+1)=decide (g.a=g.b):=by rw [e2,g53];rfl
           exact Zc ⟨k+1,by omega⟩ (by dsimp only;omega) (by rw [f1,f2];exact sbA) (fun w h=>h.del b6)))
   | (have f1:Z4i h (k+1)=!(inB g.b 0 (h.bins-1)):=by rw [e1,g36,g44];rfl
      first
        | (have f2:Z1K h (k+1)=true:=by rw [e2,g53];rfl
           exact Zc ⟨k+1,by omega⟩ (by dsimp only;omega) (by rw [f1,f2];exact sbA) (fun w h=>h.del b6))
        | (have f2:Z1K h (k+1)=decide (g.a=g.b):=by rw [e2,g53];rfl
           exact Zc ⟨k+1,by omega⟩ (by dsimp only;omega) (by rw [f1,f2];exact sbA) (fun w h=>h.del b6)))
 obtain rfl:k=h.gaps.length:=by omega
 refine Z9 (Za (Za (Zm (Z0 (sqt 1 rfl (pur 1 rfl (Z4 ?_)))))))
 refine Ze (ι:={k:Nat // k≤h.sights.length∧∀ x∈h.sights.take k,inB x.week 0 9=true}) (fun k=>⟨[(1,.pointer (some ⟨b1,0,none⟩)),(3,.bool (Z4i h h.gaps.length||Zh0 h k.1)),(4,.bool (Z1K h h.gaps.length)),(7,.int .i64 (k.1:Int))],(b1,cel 57 (htl h (h.sg ag cg) (h.ss as_ cs)))::H,R⟩) (fun k=>h.sights.length-k.1) ⟨0,Nat.zero_le _,by simp⟩ ?_ (fun k=>?_)
 exact Ze2 (by rw [show Zh0 h 0=false from rfl,Bool.or_false];exact sbA) idH
 obtain ⟨k,hk,hwk⟩:=k
 dsimp only at hk hwk ⊢
 refine Z0 (sqt 5 rfl (pur 1 rfl (sp rfl (PE.fA Z1j rfl) rfl (spL rfl rfl (lh Z7P rfl rfl) rfl (sp rfl (PE.lenSl Z7D rfl) rfl (pur 1 rfl ?_))))))
 refine Z1 rfl ?_ ?_<;>intro hc2<;>try simp only [cS] at hc2
 obtain ⟨x,hx⟩:∃ x,h.sights[k]?=some x:=⟨_,List.getElem?_eq_getElem (by omega)⟩
 have e3:Zh0 h (k+1)=(Zh0 h k||!(inB x.bin 0 (h.bins-1))):=Z2v hx
 refine Zh (a:=as_) (sz:=3) (rows:=Z8 h.sights) (ne0 (by rw [ZE];omega)) (fun bs os he=>?_)
 subst he
 refine Z2 (Z0 (Z4 (Z0 (sqt 7 rfl (sp rfl (PE.fA Z1j rfl) rfl (spL rfl rfl (lh Z7P rfl rfl) rfl (pur 1 rfl (sp rfl (PE.indexAddr ZgZ rfl rfl (by omega) (by omega)) rfl (sp rfl (PE.fA Z5V rfl) rfl (spL rfl rfl (lf (j:=0) sc3 (Z2q hx) rfl) rfl ?_))))))))))
 refine clV rfl Z7x rfl rfl (Z4w _ _ _ _ _) ?_
 refine Z1 rfl ?_ ?_<;>intro hc3
 refine sqt 1 rfl (pur 1 rfl (Z5 ?_))
 exact rtA rfl rfl rfl ⟨congrArg (Value.int .i64) ((ck3 hb7 (by omega) (by omega) (List.mem_of_getElem? hx) hc3).symm),rfl,rfl⟩ (fun w h9=>h9.del b1)
 refine Z2 ?_
 refine Zo [0,1,3,7,3,31,63,127,3,259,771,2047,4095,8191] (tks 0 3 (.ld 3 (tks 4 3 (.ld 7 (.tk 8 (.ld 9 (.tk 10 (.big 11 (.tk 12 (.tk 13 .done)))))))))) ZF (by kernel_rfl) ?_
 refine Zu 2 rfl ?_
 refine Zj 75 rfl ?_ ?_<;>intro g75
 refine Zu 1 rfl ?_
 refine ldN rfl rfl rfl rfl rfl rfl rfl rfl ?_
 refine Zu 3 rfl ?_
 refine ldN rfl rfl rfl rfl rfl rfl rfl rfl ?_
 refine Zu 1 rfl ?_
 refine ldN rfl rfl rfl rfl rfl rfl rfl rfl ?_
 refine Zu 1 rfl ?_
 refine spN rfl rfl rfl rfl rfl rfl rfl rfl ?_
 refine bgT (Zu 2 rfl (sqr 3 rfl (pur 1 rfl (sp rfl (PE.add rfl rfl (by omega)) rfl (pur 1 rfl ?_)))))
 exact Zc ⟨k+1,by omega,fun y hy=>by
   rw [List.take_add_one,hx] at hy
   rcases List.mem_append.1 hy with h1 | h1
   · exact hwk y h1
   · rw [List.mem_singleton.1 h1,← Bool.not_eq_false'];exact hc3⟩ (by dsimp only;omega) (by simp only [e3,← Bool.or_assoc];first | (rw [g75,Bool.true_or];exact sbA) | (rw [g75,Bool.false_or];exact sbA)) idH
 refine tkG rfl rfl rfl rfl (PE.fA Z1j rfl) rfl ?_
 refine ldG rfl rfl rfl rfl rfl (lh Z7P rfl rfl) rfl (Zu 1 rfl ?_)
 refine tkG rfl rfl rfl rfl (PE.indexAddr ZgZ rfl rfl (by omega) (by omega)) rfl ?_
 refine tkG rfl rfl rfl rfl (PE.fA Z2Z rfl) rfl ?_
 refine ldG rfl rfl rfl rfl rfl (lf (j:=1) sc3 (Z2q hx) rfl) rfl ?_
 refine tkG rfl rfl rfl rfl (PE.fA Z0L rfl) rfl ?_
 refine ldG rfl rfl rfl rfl rfl (lh (v:=.int .i64 h.bins) sc3 rfl rfl) rfl ?_
 refine tkG rfl rfl rfl rfl (PE.sub rfl rfl (by omega)) rfl ?_
 refine Z0C rfl rfl rfl rfl Z7x rfl rfl (Z4w _ _ _ _ _) ?_
 refine bgT (Zu 2 rfl (sqr 3 rfl (pur 1 rfl (sp rfl (PE.add rfl rfl (by omega)) rfl (pur 1 rfl ?_)))))
 exact Zc ⟨k+1,by omega,fun y hy=>by
   rw [List.take_add_one,hx] at hy
   rcases List.mem_append.1 hy with h1 | h1
   · exact hwk y h1
   · rw [List.mem_singleton.1 h1,← Bool.not_eq_false'];exact hc3⟩ (by dsimp only;omega) (by simp only [e3,← Bool.or_assoc];first | (rw [g75,Bool.true_or];exact sbA) | (rw [g75,Bool.false_or];exact sbA)) idH
 obtain rfl:k=h.sights.length:=by omega
 have hcr:=ZfN hb7 (by omega) (by omega) (Zgx hwk)
 refine Z9 (Za (Za (Zm (Z0 (sqt 1 rfl (pur 1 rfl ?_))))))
 refine Z1 rfl ?_ ?_<;>intro hc4
 refine sqt 1 rfl (pur 1 rfl (Z5 ?_))
 exact rtA rfl rfl rfl ⟨congrArg (Value.int .i64) (by rw [hcr,hc4];rfl),rfl,rfl⟩ (fun w h9=>h9.del b1)
 refine Z2 (Z0 (sqt 1 rfl (pur 1 rfl ?_)))
 refine Z1 rfl ?_ ?_<;>intro hc5
 refine sqt 1 rfl (pur 1 rfl (Z5 ?_))
 exact rtA rfl rfl rfl ⟨congrArg (Value.int .i64) (by rw [hcr,hc4,hc5];rfl),rfl,rfl⟩ (fun w h9=>h9.del b1)
 refine Z2 (sqt 1 rfl (pur 1 rfl (Z5 ?_)))
 exact rtA rfl rfl rfl ⟨congrArg (Value.int .i64) (by rw [hcr,hc4,hc5];rfl),rfl,rfl⟩ (fun w h9=>h9.del b1)
set_option maxHeartbeats 600000 in
theorem Zas (h:Hse) (ag as_:Option Addr) (cg cs:Nat) (hgl:h.gaps.length≤10) (now cz:List Int) (an ac:Option Addr) (cn cc:Nat) (hnl:now.length≤1000000) (hcl:cz.length≤1000000) (H:Zf) (R:Z6) [hG:MemRows ag 2 (Z7 h.gaps) R] [hN:MemRows an 1 (Z3 now) R] [hC:MemRows ac 1 (Z3 cz) R] :
    Fn Tryz.prog 80 [h.v (h.sg ag cg) (h.ss as_ cs),.slice an now.length cn,.slice ac cz.length cc] H R (fun v H' R'=>∃ a c,v = .slice a (Z0R h.gaps cz now).length c∧(Z0R h.gaps cz now).length≤c∧H'=H∧R'=RowsA a 1 (Z3 (Z0R h.gaps cz now))::R):=by
 refine Zl Tryz.func80 rfl Tryz.ntmps80 rfl ?_
 refine sqt 2 rfl (bx rfl rfl rfl (fun b3=>pur 1 rfl (sqt 4 rfl ?_)))
 refine Zec rfl Z03 rfl (fun o10 ho10=>?_)
 refine pur 1 rfl ?_
 refine apO (news:=Z3 now) o10 rfl Z1v rfl rfl (Z2o) (irl _) (by simp [ZO,Z3,Value.oneCell']) (by rw [irl];simp only [List.length_nil];omega) rfl (fun o12=>?_)
 refine pur 1 rfl (Z0 (sqt 1 rfl (pur 1 rfl (Z4 ?_))))
 refine Ze (ι:=(i:{i:Nat // i≤h.gaps.length})×OSl 3 1 (Z3 (nxt h.gaps cz now (i.1)))) (fun y=>⟨[(1,.slice an now.length cn),(2,.slice ac cz.length cc),(3,.pointer (some ⟨b3,0,none⟩)),(7,y.2.fs),(8,.int .i64 (y.1.1:Int))],y.2.G++((b3,cel 57 (htl h (h.sg ag cg) (h.ss as_ cs)))::H),R⟩) (fun y=>h.gaps.length-y.1.1) ⟨⟨0,Nat.zero_le _⟩,o12.cast (by simp [nxt,Z3])⟩ ?_ (fun y=>?_)
 exact Zi idH
 obtain ⟨⟨i,hi⟩,o⟩:=y
 dsimp only at hi o ⊢
 have hnx:=Z4K h.gaps cz now i
 have hnx2:=Z4K h.gaps cz now (i+1)
 refine Z0 (sqt 5 rfl (pur 1 rfl (sp rfl (PE.fA Z16 rfl) rfl (spL rfl rfl (lh Z7h rfl rfl) rfl (sp rfl (PE.lenSl Z58 rfl) rfl (pur 1 rfl ?_))))))
 refine Z1 rfl ?_ ?_<;>intro hc0<;>try simp only [cS] at hc0
 obtain ⟨g,hg⟩:∃ g,h.gaps[i]?=some g:=⟨_,List.getElem?_eq_getElem (by omega)⟩
 refine Zh (a:=ag) (sz:=2) (rows:=Z7 h.gaps) (ne0 (by rw [ZJ];omega)) (fun ba oa he=>?_)
 subst he
 refine Z2 (Z0 (Z4 (sqt 7 rfl (sp rfl (PE.fA Z16 rfl) rfl (spL rfl rfl (lh Z7h rfl rfl) rfl (pur 1 rfl (sp rfl (PE.indexAddr Zjb rfl rfl (by omega) (by omega)) rfl (spL rfl rfl (lfA Z9O (row:=grow g) (Z1l hg) rfl) rfl (alc rfl Zcm rfl (fun b9=>?_))))))))))
 refine ZG (l':=grow g) rfl rfl rfl Zd5 rfl rfl rfl rfl (nl rfl) ?_
 refine Z0 (sqt 3 rfl (pur 2 rfl ?_))
 refine clV rfl Z1g rfl rfl (Z0j cz ac cc (i:Int) (by omega) _ _) ?_
 refine Z1 rfl ?_ ?_<;>intro hc1<;>try simp only [cS] at hc1
 refine Z9 (Za (Zm (sqr 3 rfl (pur 1 rfl (sp rfl (PE.add rfl rfl (by omega)) rfl (pur 1 rfl ?_))))))
 exact Zb ⟨⟨i+1,by omega⟩,o.cast (by rw [Z8N hg hc1])⟩ (fun w h9=>h9.del b9)
 have hop:=Z8M (now:=now) hg hc1
 have hx1:(nx1 h.gaps cz now i g).length≤now.length+2*i+1:=by unfold nx1;cases ZH now g.a&&!ZH (nxt h.gaps cz now i) g.b<;>simp<;>omega
 refine Sy.heap (H':=o.G++((b9,cel 129 (grow g))::_)) (fun w h9=>h9.perm (ZI [_] _ _)) ?_
 refine Z2 (Z0 (sqt 11 rfl (pur 1 rfl (sp rfl (PE.fA Z0o rfl) rfl (spL rfl rfl (lh sc3 rfl rfl) rfl ?_)))))
 refine clV rfl Z1g rfl rfl (Z0j now an cn g.a (by omega) _ _) ?_
 refine pur 1 rfl ?_
 refine Zj 32 rfl ?_ ?_<;>intro g32
 refine pur 1 rfl ?_
 refine spG rfl rfl rfl rfl (PE.fA Z0F rfl) rfl ?_
 refine Z0m rfl rfl rfl rfl rfl (lh sc3 rfl rfl) rfl ?_
 refine Z0C rfl rfl rfl rfl Z1g rfl rfl (FnV.lendO o (fun v=>[v,.int .i64 g.b]) (fun a5 c5 _=>by rw [irl];exact Z0j (nxt h.gaps cz now (i)) a5 c5 g.b (by omega) _ _)) ?_
 refine pur 2 rfl ?_
 refine ZL (ι:=OSl 3 1 (Z3 (nx1 h.gaps cz now i g))) (fun o=>⟨[(1,.slice an now.length cn),(2,.slice ac cz.length cc),(3,.pointer (some ⟨b3,0,none⟩)),(7,o.fs),(8,.int .i64 (i:Int)),(9,.pointer (some ⟨b9,0,none⟩))],o.G++((b9,cel 129 (grow g))::(b3,cel 57 (htl h (h.sg (some ⟨ba,oa,none⟩) cg) (h.ss as_ cs)))::H),R⟩) ?_ ?_
 refine Z1 rfl ?_ ?_<;>intro hc2
 refine sqr 6 rfl (pur 1 rfl (sp rfl (PE.fA Z0F rfl) rfl (spL rfl rfl (lh sc3 rfl rfl) rfl ?_)))
 refine bsl (out:=[_]) rfl Z03 zl3 rfl rfl rfl rfl rfl rfl (fun b42=>?_)
 refine apO (o) rfl Z1v rfl rfl (Z02 (row:=[.int .i64 g.b]) rfl) rfl rfl ((by rw [irl];simp only [List.length_singleton];omega)) rfl (fun o43=>?_)
 refine pur 1 rfl ?_
 first | exact Zk (o43.cast (by unfold nx1;simp [Z3, *])) (fun w h9=>h9.del b42) | exact Zk (o.cast (by unfold nx1;simp [Z3, *])) idH
 refine Z2 ?_
 first | exact Zk (o43.cast (by unfold nx1;simp [Z3, *])) (fun w h9=>h9.del b42) | exact Zk (o.cast (by unfold nx1;simp [Z3, *])) idH
 clear hnx2
 intro o
 dsimp only
 refine sqt 11 rfl (pur 1 rfl (sp rfl (PE.fA Z0F rfl) rfl (spL rfl rfl (lh sc3 rfl rfl) rfl ?_)))
 refine clV rfl Z1g rfl rfl (Z0j now an cn g.b (by omega) _ _) ?_
 refine pur 1 rfl ?_
 refine Zj 48 rfl ?_ ?_<;>intro g48
 refine pur 1 rfl ?_
 refine spG rfl rfl rfl rfl (PE.fA Z0o rfl) rfl ?_
 refine Z0m rfl rfl rfl rfl rfl (lh sc3 rfl rfl) rfl ?_
 refine Z0C rfl rfl rfl rfl Z1g rfl rfl (FnV.lendO o (fun v=>[v,.int .i64 g.a]) (fun a5 c5 _=>by rw [irl];exact Z0j (nx1 h.gaps cz now i g) a5 c5 g.a (by omega) _ _)) ?_
 refine pur 2 rfl ?_
 refine Z1 rfl ?_ ?_<;>intro hc3
 refine sqr 6 rfl (pur 1 rfl (sp rfl (PE.fA Z0o rfl) rfl (spL rfl rfl (lh sc3 rfl rfl) rfl ?_)))
 refine bsl (out:=[_]) rfl Z03 zl3 rfl rfl rfl rfl rfl rfl (fun b58=>?_)
 refine apO (o) rfl Z1v rfl rfl (Z02 (row:=[.int .i64 g.a]) rfl) rfl rfl ((by rw [irl];simp only [List.length_singleton];omega)) rfl (fun o59=>?_)
 refine pur 1 rfl (sqr 3 rfl (pur 1 rfl (sp rfl (PE.add rfl rfl (by omega)) rfl (pur 1 rfl ?_))))
 first | exact Zd ⟨⟨i+1,by omega⟩,o59.cast (by rw [hop];simp [Z3, *])⟩ (by dsimp only;omega) (fun w h9=>((h9.del b58).del b9)) | exact Zd ⟨⟨i+1,by omega⟩,o.cast (by rw [hop];simp [Z3, *])⟩ (by dsimp only;omega) (fun w h9=>h9.del b9)
 refine Z2 (sqr 3 rfl (pur 1 rfl (sp rfl (PE.add rfl rfl (by omega)) rfl (pur 1 rfl ?_))))
 first | exact Zd ⟨⟨i+1,by omega⟩,o59.cast (by rw [hop];simp [Z3, *])⟩ (by dsimp only;omega) (fun w h9=>((h9.del b58).del b9)) | exact Zd ⟨⟨i+1,by omega⟩,o.cast (by rw [hop];simp [Z3, *])⟩ (by dsimp only;omega) (fun w h9=>h9.del b9)
 refine pur 6 rfl ?_
 refine Zz rfl ?_
 refine Z2 (sqr 3 rfl (pur 1 rfl (sp rfl (PE.add rfl rfl (by omega)) rfl (pur 1 rfl ?_))))
 first | exact Zd ⟨⟨i+1,by omega⟩,o59.cast (by rw [hop];simp [Z3, *])⟩ (by dsimp only;omega) (fun w h9=>((h9.del b58).del b9)) | exact Zd ⟨⟨i+1,by omega⟩,o.cast (by rw [hop];simp [Z3, *])⟩ (by dsimp only;omega) (fun w h9=>h9.del b9)
 refine pur 6 rfl ?_
 refine ZL (ι:=OSl 3 1 (Z3 (nx1 h.gaps cz now i g))) (fun o=>⟨[(1,.slice an now.length cn),(2,.slice ac cz.length cc),(3,.pointer (some ⟨b3,0,none⟩)),(7,o.fs),(8,.int .i64 (i:Int)),(9,.pointer (some ⟨b9,0,none⟩))],o.G++((b9,cel 129 (grow g))::(b3,cel 57 (htl h (h.sg (some ⟨ba,oa,none⟩) cg) (h.ss as_ cs)))::H),R⟩) ?_ ?_
 refine Zz rfl ?_
 refine Z2 ?_
 first | exact Zk (o43.cast (by unfold nx1;simp [Z3, *])) (fun w h9=>h9.del b42) | exact Zk (o.cast (by unfold nx1;simp [Z3, *])) idH
 clear hnx2
 intro o
 dsimp only
 refine sqt 11 rfl (pur 1 rfl (sp rfl (PE.fA Z0F rfl) rfl (spL rfl rfl (lh sc3 rfl rfl) rfl ?_)))
 refine clV rfl Z1g rfl rfl (Z0j now an cn g.b (by omega) _ _) ?_
 refine pur 1 rfl ?_
 refine Zj 48 rfl ?_ ?_<;>intro g48
 refine pur 1 rfl ?_
 refine spG rfl rfl rfl rfl (PE.fA Z0o rfl) rfl ?_
 refine Z0m rfl rfl rfl rfl rfl (lh sc3 rfl rfl) rfl ?_
 refine Z0C rfl rfl rfl rfl Z1g rfl rfl (FnV.lendO o (fun v=>[v,.int .i64 g.a]) (fun a5 c5 _=>by rw [irl];exact Z0j (nx1 h.gaps cz now i g) a5 c5 g.a (by omega) _ _)) ?_
 refine pur 2 rfl ?_
 refine Z1 rfl ?_ ?_<;>intro hc3
 refine sqr 6 rfl (pur 1 rfl (sp rfl (PE.fA Z0o rfl) rfl (spL rfl rfl (lh sc3 rfl rfl) rfl ?_)))
 refine bsl (out:=[_]) rfl Z03 zl3 rfl rfl rfl rfl rfl rfl (fun b58=>?_)
 refine apO (o) rfl Z1v rfl rfl (Z02 (row:=[.int .i64 g.a]) rfl) rfl rfl ((by rw [irl];simp only [List.length_singleton];omega)) rfl (fun o59=>?_)
 refine pur 1 rfl (sqr 3 rfl (pur 1 rfl (sp rfl (PE.add rfl rfl (by omega)) rfl (pur 1 rfl ?_))))
 first | exact Zd ⟨⟨i+1,by omega⟩,o59.cast (by rw [hop];simp [Z3, *])⟩ (by dsimp only;omega) (fun w h9=>((h9.del b58).del b9)) | exact Zd ⟨⟨i+1,by omega⟩,o.cast (by rw [hop];simp [Z3, *])⟩ (by dsimp only;omega) (fun w h9=>h9.del b9)
 refine Z2 (sqr 3 rfl (pur 1 rfl (sp rfl (PE.add rfl rfl (by omega)) rfl (pur 1 rfl ?_))))
 first | exact Zd ⟨⟨i+1,by omega⟩,o59.cast (by rw [hop];simp [Z3, *])⟩ (by dsimp only;omega) (fun w h9=>((h9.del b58).del b9)) | exact Zd ⟨⟨i+1,by omega⟩,o.cast (by rw [hop];simp [Z3, *])⟩ (by dsimp only;omega) (fun w h9=>h9.del b9)
 refine pur 6 rfl ?_
 refine Zz rfl ?_
 refine Z2 (sqr 3 rfl (pur 1 rfl (sp rfl (PE.add rfl rfl (by omega)) rfl (pur 1 rfl ?_))))
 first | exact Zd ⟨⟨i+1,by omega⟩,o59.cast (by rw [hop];simp [Z3, *])⟩ (by dsimp only;omega) (fun w h9=>((h9.del b58).del b9)) | exact Zd ⟨⟨i+1,by omega⟩,o.cast (by rw [hop];simp [Z3, *])⟩ (by dsimp only;omega) (fun w h9=>h9.del b9)
 obtain rfl:i=h.gaps.length:=by omega
 obtain ⟨an9,cn9,he,hcn9,hzz⟩:=(o.cast (show _=Z3 (Z0R h.gaps cz now) from rfl)).freezeC
 rw [irl] at hcn9
 rw [show o.fs=_ from he,irl]
 refine Sy.heap (H':=_) (fun w h9=>hzz h9) ?_
 clear he hzz
 refine Z9 (Za (Za (Zm (sqt 2 rfl (pur 2 rfl (Z5 ?_))))))
 exact rtA rfl rfl rfl ⟨an9,cn9,rfl,hcn9,rfl,rfl⟩ (fun w h9=>h9.del b3)
set_option maxHeartbeats 600000 in
theorem Z1X (h:Hse) (ag as_:Option Addr) (cg cs:Nat) (hok:h.ok) (fr cz:List Int) (af acl:Option Addr) (cf ccz:Nat) (hfr:ZM h.bins fr=0) (hcl:∀ x∈cz,0≤x) (hcll:cz.length≤1000000) (H:Zf) (R:Z6) [hG:MemRows ag 2 (Z7 h.gaps) R] [hF:MemRows af 1 (Z3 fr) R] [hC:MemRows acl 1 (Z3 cz) R] :
    Fn Tryz.prog 58 [h.v (h.sg ag cg) (h.ss as_ cs),.slice af fr.length cf,.slice acl cz.length ccz] H R (fun v H' R'=>∃ (a:Option Addr) (c:Nat),v = .slice a h.bins.toNat c∧H'=H∧R'=RowsA a 1 (Z3 (wkL h.gaps (msk cz) (msk fr) h.bins.toNat))::R):=by
 refine Zl Tryz.func58 rfl Tryz.ntmps58 rfl ?_
 refine sqt 2 rfl ?_
 have hbn:=hok.bins
 have hgl:=hok.gl
 obtain ⟨B,hB⟩:∃ B:Nat,h.bins=B:=⟨h.bins.toNat,by omega⟩
 rw [show h.bins.toNat=B by omega]
 have hlm:=Lm.of (show h.bins≤7 by omega) hfr
 have hfr9:=(ZQ hfr).1
 have hmB:msk fr<2 ^ B:=Z0Y fun x hx=>by have:=hfr9 x hx;omega
 have hwB:Wth h.gaps B:=fun g hg=>by have:=hok.gaps g hg;omega
 have hg7:∀ g∈h.gaps,(0≤g.a∧g.a<7)∧0≤g.b∧g.b<7:=fun g hg=>by have:=hok.gaps g hg;omega
 have hcb:∀ i:Nat,ZH cz (i:Int)=(msk cz).testBit i:=fun i=>Z2k hcl i
 refine bx rfl rfl rfl (fun b3=>pur 1 rfl (sqt 4 rfl (sp rfl (PE.fA Z0L rfl) rfl (spL rfl rfl (lh (v:=.int .i64 h.bins) sc3 rfl rfl) rfl ?_))))
 rw [hB]
 refine mkS rfl Z1v zl3 rfl rfl (Nat.le_refl _) ⟨by omega,by omega⟩ rfl (fun b14=>?_)
 rw [Zgs,← Zde (-1)]
 refine pur 1 rfl (sqt 2 rfl (pur 2 rfl (Z0 (sqt 1 rfl (pur 1 rfl (Z4 ?_))))))
 refine Ze (ι:={k:Nat // k≤B}) (fun x=>⟨[(2,.slice acl cz.length ccz),(3,.pointer (some ⟨b3,0,none⟩)),(7,.slice (some ⟨b14,0,none⟩) B B),(8,.slice af fr.length cf),(9,.int .i64 (x.1:Int))],(b14,cel 3 (Zw (fil (-1) B x.1)))::(b3,cel 57 (htl h (h.sg ag cg) (h.ss as_ cs)))::H,R⟩) (fun x=>B-x.1) ⟨0,by omega⟩ ?_ (fun x=>?_)
 exact Zi idH
 obtain ⟨k,hk⟩:=x
 dsimp only at hk ⊢
 refine Z0 (sqt 4 rfl (pur 1 rfl (sp rfl (PE.fA Z0L rfl) rfl (spL rfl rfl (lh (v:=.int .i64 h.bins) sc3 rfl rfl) rfl ?_))))
 rw [hB]
 refine pur 1 rfl ?_
 refine Z1 rfl ?_ ?_<;>intro hc0<;>try simp only [cS] at hc0
 refine Z2 (Z0 (Z4 (sqr 4 rfl (pur 2 rfl (sp rfl (PE.indexAddr Z0c rfl rfl (by omega) (by omega)) rfl ?_)))))
 refine ZG (l':=Zw ((fil (-1) B k).set k (-1))) rfl rfl rfl cn3 rfl rfl rfl (Z0T (by rw [ZaW hk];omega) (by show 0+((k:Nat):Int).toNat*1=k;omega)) (by rw [Zp,ZaW hk];show 0+((k:Nat):Int).toNat*1+1≤_;omega) ?_
 refine sqr 3 rfl (pur 1 rfl (sp rfl (PE.add rfl rfl (by omega)) rfl (pur 1 rfl ?_)))
 rw [Zg3 (by omega)]
 exact Zb ⟨k+1,by omega⟩ idH
 obtain rfl:k=B:=by omega
 rw [Zg2]
 have hst:=RwI.start h.gaps (msk cz) (msk fr) k
 have hfl7:=hlm.few
 refine Z9 (Za (Za (Zm (Z0 (sqt 1 rfl (pur 1 rfl (Z4 ?_)))))))
 refine Sy.heap (fun w h9=>h9.also (f:=RowsA af 1 (Z3 fr)) (fun w' hg=>hg _ hF.mem)) ?_
 refine Ze (ι:={x:(Nat×List Int)×(List Int×Option Addr×Nat) // x.1.1≤k∧Lm x.2.1 (lv h.gaps (msk cz) (msk fr) x.1.1)∧RwI h.gaps (msk cz) (msk fr) k (x.1.1) ([]) x.1.2}) (fun x=>⟨[(2,.slice acl cz.length ccz),(3,.pointer (some ⟨b3,0,none⟩)),(7,.slice (some ⟨b14,0,none⟩) k k),(8,.slice x.1.2.2.1 x.1.2.1.length x.1.2.2.2),(10,.int .i64 (x.1.1.1:Int))],(b14,cel 3 (Zw (x.1.1.2)))::(b3,cel 57 (htl h (h.sg ag cg) (h.ss as_ cs)))::H,RowsA x.1.2.2.1 1 (Z3 x.1.2.1)::R⟩) (fun x=>k-x.1.1.1) ⟨((0,List.replicate k (-1)),(fr,af,cf)),Nat.zero_le _,hlm,hst⟩ ?_ (fun x=>?_)
 exact Zi idH
 obtain ⟨⟨⟨w,o⟩,⟨now,an,cn⟩⟩,hw,hnl,hrw⟩:=x
 dsimp only at hw hnl hrw ⊢
 have hn7:=hnl.few
 have hnB:=hnl.ltn (Z9r hwB hmB w)
 refine Z0 (sqt 4 rfl (pur 1 rfl (sp rfl (PE.fA Z0L rfl) rfl (spL rfl rfl (lh (v:=.int .i64 h.bins) sc3 rfl rfl) rfl ?_))))
 rw [hB]
 refine pur 1 rfl ?_
 refine Z1 rfl ?_ ?_<;>intro hc1<;>try simp only [cS] at hc1
 refine Z2 (Z0 (Z4 (Z0 (sqt 1 rfl (pur 1 rfl (Z4 ?_))))))
 refine Ze (ι:={x:Nat×List Int // x.1≤now.length∧RwI h.gaps (msk cz) (msk fr) k (w) (now.take x.1) x.2}) (fun x=>⟨[(2,.slice acl cz.length ccz),(3,.pointer (some ⟨b3,0,none⟩)),(7,.slice (some ⟨b14,0,none⟩) k k),(8,.slice an now.length cn),(10,.int .i64 (w:Int)),(11,.int .i64 (x.1.1:Int))],(b14,cel 3 (Zw (x.1.2)))::(b3,cel 57 (htl h (h.sg ag cg) (h.ss as_ cs)))::H,RowsA an 1 (Z3 now)::R⟩) (fun x=>now.length-x.1.1) ⟨(0,o),Nat.zero_le _,hrw⟩ ?_ (fun x=>?_)
 exact Zi idH
 obtain ⟨⟨i,o⟩,hi,hrw⟩:=x
 dsimp only at hi hrw ⊢
 have hol:=hrw.len
 refine Z0 (sqt 4 rfl (pur 2 rfl (sp rfl (PE.lenSl Zy rfl) rfl (pur 1 rfl ?_))))
 refine Z1 rfl ?_ ?_<;>intro hc2<;>try simp only [cS] at hc2
 obtain ⟨x,hx⟩:∃ x,now[i]?=some x:=⟨_,List.getElem?_eq_getElem (by omega)⟩
 have hxB:=hnB x (List.mem_of_getElem? hx)
 obtain ⟨u,rfl⟩:∃ u:Nat,x=u:=⟨x.toNat,by omega⟩
 have htk:now.take (i+1)=now.take i++[(u:Int)]:=Z4V hx
 refine Zh (a:=an) (sz:=1) (rows:=Z3 now) (ne0 (by rw [irl];omega)) (fun ba oa he=>?_)
 subst he
 refine Z2 (Z0 (Z4 (sqt 8 rfl (pur 3 rfl (sp rfl (PE.indexAddr Z0c rfl rfl (by omega) (by omega)) rfl (spL rfl rfl (lf0 sc3 (ZB hx) rfl) rfl (sp rfl (PE.indexAddr Z0c rfl rfl (by omega) (by omega)) rfl (spL rfl rfl (lh sc3 rfl (Z0G (w:=o) (k:=u) (by omega) (by show 0+((u:Nat):Int).toNat*1=u;omega))) rfl (pur 1 rfl ?_)))))))))
 refine Z1 rfl ?_ ?_<;>intro hc3<;>try simp only [cS] at hc3
 have hr9:=hrw.put hxB (by rw [Int.toNat_natCast];exact hc3)
 rw [Int.toNat_natCast,← htk] at hr9
 refine sqr 8 rfl (pur 3 rfl (sp rfl (PE.indexAddr Z0c rfl rfl (by omega) (by omega)) rfl (spL rfl rfl (lf0 sc3 (ZB hx) rfl) rfl (pur 1 rfl (sp rfl (PE.indexAddr Z0c rfl rfl (by omega) (by omega)) rfl ?_)))))
 refine ZG (l':=Zw (o.set u (w:Int))) rfl rfl rfl cn3 rfl rfl rfl (Z0T (by omega) (by show 0+((u:Nat):Int).toNat*1=u;omega)) (by rw [Zp,hol];show 0+((u:Nat):Int).toNat*1+1≤_;omega) ?_
 refine sqr 3 rfl (pur 1 rfl (sp rfl (PE.add rfl rfl (by omega)) rfl (pur 1 rfl ?_)))
 exact Zb ⟨(i+1,o.set u (w:Int)),by dsimp only;omega,hr9⟩ idH
 have hr9:=hrw.skip hxB (by rw [Int.toNat_natCast];omega)
 rw [← htk] at hr9
 refine Z2 (sqr 3 rfl (pur 1 rfl (sp rfl (PE.add rfl rfl (by omega)) rfl (pur 1 rfl ?_))))
 exact Zb ⟨(i+1,o),by dsimp only;omega,hr9⟩ idH
 obtain rfl:i=now.length:=by omega
 rw [List.take_length] at hrw
 have hrw2:=hrw.week hnl
 refine Z9 (Za (Za (Zm (sqr 5 rfl (spL rfl rfl (lhA (htl h (h.sg ag cg) (h.ss as_ cs)) Z1q rfl rfl rfl) rfl (pur 2 rfl ?_))))))
 refine cl rfl ZfJ rfl rfl (Zas h ag as_ cg cs hgl now cz an acl cn ccz (by omega) hcll _ _) ?_
 rintro _ _ R1 ⟨a9,c9,rfl,hc9,rfl,hR1⟩
 obtain rfl:=hR1.symm
 clear hR1
 refine pur 1 rfl (sqr 3 rfl (pur 1 rfl (sp rfl (PE.add rfl rfl (by omega)) rfl (pur 1 rfl ?_))))
 exact Zb ⟨((w+1,o),(Z0R h.gaps cz now,a9,c9)),by dsimp only;omega,Z7K hg7 hcb hnl,hrw2⟩ (fun w h9=>h9.facts (fun g hg=>by simp only [List.mem_cons] at hg ⊢;rcases hg with h8 | h8<;>simp [h8]))
 obtain rfl:w=k:=by omega
 obtain rfl:=hrw.done (by omega) (by omega) hwB hmB
 refine Sy.heap (fun w9 h9=>St.rows (sz:=1) (rows:=Z3 (wkL h.gaps (msk cz) (msk fr) w)) (rest:=[]) (by rw [List.append_nil,show (Z3 (wkL h.gaps (msk cz) (msk fr) w)).flatten=Zw (wkL h.gaps (msk cz) (msk fr) w) from Z1c _];exact h9) (fun r hr=>by obtain ⟨x,_,rfl⟩:=List.mem_map.1 hr;rfl)) ?_
 refine Z9 (Za (Za (Zm (sqt 2 rfl (pur 2 rfl (Z5 ?_))))))
 exact rtA rfl rfl rfl ⟨_,w,rfl,rfl,rfl⟩ (fun w9 h9=>(h9.del b3).facts (fun g hg=>by simp only [List.mem_cons] at hg ⊢;rcases hg with h8 | h8<;>simp [h8]))
theorem Zcu:Z55 Tryz.prog 130=some 3:=by kernel_rfl
theorem Zkz:apT Tryz.prog 54=some (129,2,16):=by kernel_rfl
theorem ZkA:apT Tryz.prog 55=some (130,3,24):=by kernel_rfl
theorem Zek:cal Tryz.prog 112=true:=by kernel_rfl
theorem ZhF:cal Tryz.prog 125=true:=by kernel_rfl
theorem ZhG:cal Tryz.prog 126=true:=by kernel_rfl
theorem Z7w:cal Tryz.prog 58=true:=by kernel_rfl
theorem Z7y:cal Tryz.prog 78=true:=by kernel_rfl
theorem ZjN:cal Tryz.prog 85=true:=by kernel_rfl
theorem ZjO:cal Tryz.prog 86=true:=by kernel_rfl
theorem ZfQ:Z0O Tryz.prog 130=some 3:=by kernel_rfl
theorem ZkF:Z0O Tryz.prog 54=some 1:=by kernel_rfl
theorem ZkG:Z0O Tryz.prog 55=some 1:=by kernel_rfl
theorem ZgY:Z0O Tryz.prog 57=some 3:=by kernel_rfl
theorem Zk1:Tryz.prog.eqGuardType Tryz.prog.depth 30=false:=by kernel_rfl
theorem Z7B:Z2X Tryz.prog 130 2=some 2:=by kernel_rfl
theorem ZkO:Z2m Tryz.prog 57=some [(0,1),(1,1),(2,1)]:=by kernel_rfl
theorem ZkS:slE Tryz.prog 54=some (129,2):=by kernel_rfl
theorem ZkT:slE Tryz.prog 55=some (130,3):=by kernel_rfl
theorem Ze7:Z09 Tryz.prog 130=some ([.int .i64 0,.int .i64 0,.bool false]):=by kernel_rfl
theorem ZgT:Z09 Tryz.prog 57=some ([.int .i64 0,.slice none 0 0,.slice none 0 0]):=by kernel_rfl
theorem ZcJ (xs ys:List Gp) (a a2:Option Addr) (c c2:Nat) (hl:xs.length≤9223372036854775807) (hl2:ys.length≤9223372036854775807) (H:Zf) (R:Z6) [hR:MemRows a 2 (Z7 xs) R] [hR2:MemRows a2 2 (Z7 ys) R] :
    FnV Tryz.prog 125 [.slice a xs.length c,.slice a2 ys.length c2] H R (.bool (decide (xs=ys))):=by
 refine Zl Tryz.func125 rfl Tryz.ntmps125 rfl ?_
 refine sqt 1 rfl (pur 1 rfl (Z0 (sqt 5 rfl (pur 1 rfl (sp rfl (PE.lenSl Z1s rfl) rfl (pur 1 rfl (sp rfl (PE.lenSl Z1s rfl) rfl (pur 1 rfl ?_))))))))
 refine Z1 rfl ?_ ?_<;>intro hc0
 have hne:xs≠ys:=fun e=>by subst e;simp at hc0
 refine sqt 1 rfl (pur 1 rfl (Z5 ?_))
 exact rtA rfl rfl rfl ⟨by first | (simp only [ZU];rw [dT heq];done) | (simp only [ZU];rw [dF hne]),rfl,rfl⟩ idH
 have hle:xs.length=ys.length:=by simp only [cS] at hc0;omega
 refine Z2 (Z0 (sqt 3 rfl (pur 1 rfl (sp rfl (PE.lenSl Z1s rfl) rfl (pur 1 rfl (Z4 ?_))))))
 refine Ze (ι:={k:Nat // k≤xs.length∧xs.take k=ys.take k}) (fun k=>⟨[(0,.slice a xs.length c),(1,.slice a2 ys.length c2),(12,.int .i64 xs.length),(13,.int .i64 k.1)],H,R⟩) (fun k=>xs.length-k.1) ⟨0,by simp⟩ ?_ (fun k=>?_)
 exact Zi idH
 obtain ⟨k,hk,hn⟩:=k
 dsimp only
 refine sqt 1 rfl (pur 1 rfl (Z0 ?_))
 refine Z1 rfl ?_ ?_<;>intro hc1
 simp only [cS] at hc1
 obtain ⟨x,hx⟩:∃ x,xs[k]?=some x:=⟨_,List.getElem?_eq_getElem (by omega)⟩
 obtain ⟨z,hz⟩:∃ z,ys[k]?=some z:=⟨_,List.getElem?_eq_getElem (by omega)⟩
 refine Zh (a:=a) (sz:=2) (rows:=Z7 xs) (by intro h0;simp [Z7] at h0;simp [h0] at hx) (fun b off he=>?_)
 subst he
 refine Zh (a:=a2) (sz:=2) (rows:=Z7 ys) (by intro h0;simp [Z7] at h0;simp [h0] at hz) (fun b2 off2 he=>?_)
 subst he
 refine Z2 (Z0 (Z4 (sqt 2 rfl (pur 2 rfl (Z0 ?_)))))
 refine Zo [0,0,3,7,0,0,48,112,255] (tks 0 3 (.ld 3 (tks 4 3 (.ld 7 (.tk 8 .done))))) ZF (by kernel_rfl) ?_
 refine Zu 2 rfl (tk rfl (PE.indexAddr Z8r rfl rfl (by omega) (by omega)) rfl (ld rfl rfl (lfA Z7d (row:=grow x) (by simp [Z7,hx]) rfl) rfl (Zu 2 rfl (tk rfl (PE.indexAddr Z8r rfl rfl (by omega) (by omega)) rfl (ld rfl rfl (lfA Z7d (row:=grow z) (by simp [Z7,hz]) rfl) rfl (tk rfl (PE.neqAgg [x.a,x.b] [z.a,z.b] (Z2K 10000 34 true 2 Zio) Ziq rfl rfl rfl rfl) rfl ?_))))))
 refine Z1 rfl ?_ ?_<;>intro hc2
 have hne:xs≠ys:=fun e=>by subst e;rw [hx] at hz;cases hz;simp at hc2
 refine sqt 1 rfl (pur 1 rfl (Z5 ?_))
 exact rtA rfl rfl rfl ⟨by first | (simp only [ZU];rw [dT heq];done) | (simp only [ZU];rw [dF hne]),rfl,rfl⟩ idH
 have hxz:x=z:=by cases x;cases z;simpa using hc2
 refine Z2 (sqr 2 rfl (sp rfl (PE.add rfl rfl (by omega)) rfl (pur 1 rfl ?_)))
 exact Zb ⟨k+1,by omega,by rw [List.take_add_one,List.take_add_one,hn,hx,hz,hxz]⟩ idH
 simp only [cS] at hc1
 obtain rfl:k=xs.length:=by omega
 have heq:xs=ys:=by
   rw [List.take_length] at hn
   exact hn.trans (by rw [hle];exact List.take_length)
 refine Z9 (Za (Za (Zm (sqt 1 rfl (pur 1 rfl (Z5 ?_))))))
 exact rtA rfl rfl rfl ⟨by first | (simp only [ZU];rw [dT heq];done) | (simp only [ZU];rw [dF hne]),rfl,rfl⟩ idH
def chS (P:Program):Nat→List Field→List Bool→Bool
 | _,[],[]=>true
 | o, f :: fs, b :: bs => !(f.name == "_") && Nat.beq f.offset o && (match P.underlying f.type with | some (.int _) => !b | some .bool => b | _ => false) && chS P (o + 1) fs bs
 | _,_,_=>false
def chT (P:Program) (T:Nat) (bs:List Bool):Bool:=match P.underlying T with
 | some (.struct fs)=>chS P 0 fs.toList bs&&!(P.stoodInHeld T)
 | _=>false
def scV (b:Bool):Value→Bool
 | .int .i64 _=>!b
 | .bool _=>b
 | _=>false
def kOK:List Bool→List Value→Bool
 | [],[]=>true
 | b::bs,v::vs=>scV b v&&kOK bs vs
 | _,_=>false
def scE:Value→Value→Bool
 | .int _ x,.int _ y=>x == y
 | .bool x,.bool y=>x == y
 | _,_=>false
def Zcv:List Value→List Value→Bool
 | v::vs,w::ws=>scE v w&&Zcv vs ws
 | _,_=>true
theorem ZdQ {P:Program} {d e:Nat} {b:Bool} {v u:Value} (h:(match P.underlying e with | some (.int _)=>!b | some .bool=>b | _=>false)=true) (hv:scV b v=true) (hu:scV b u=true) (w:World):(Op.equalIn (d+1) e v u).run P w = .ok (scE v u) w:=by
 cases b with
 | false =>
   match v,hv with
   | .int .i64 x,_ =>
     match u,hu with
     | .int .i64 y,_ =>
       cases ht:P.underlying e with
       | none=>rw [ht] at h;cases h
       | some t =>
         rw [ht] at h
         cases t with
         | int k=>exact run_equalIn_int w d e _ _ x y ht
         | _=>cases h
 | true =>
   match v,hv with
   | .bool x,_ =>
     match u,hu with
     | .bool y,_ =>
       cases ht:P.underlying e with
       | none=>rw [ht] at h;cases h
       | some t =>
         rw [ht] at h
         cases t with
         | bool=>exact run_equalIn_bool w d e x y ht
         | _=>cases h
theorem Z71 {P:Program} {e:Nat} {b:Bool} (h:(match P.underlying e with | some (.int _)=>!b | some .bool=>b | _=>false)=true) (pre vs:List Value) (v:Value) (w:World):(part e (pre++v::vs).toArray pre.length).run P w = .ok v w:=by
 have hs:Z3n P e=true:=by
   cases ht:P.underlying e with
   | none=>rw [ht] at h;cases h
   | some t =>
     rw [ht] at h
     cases t with
     | int k=>simp [Z3n,ht]
     | bool=>simp [Z3n,ht]
     | _=>cases h
 unfold part
 simp only [Sem.run_bind,Z0X hs,Result.andThen]
 simp [Sem.run_pure]
theorem Z8Z {P:Program} {d:Nat}:∀ (fs:List Field) (bs:List Bool) (vs ws pre pre2:List Value),chS P pre.length fs bs=true→kOK bs vs=true→kOK bs ws=true→pre.length=pre2.length→∀ w,
   (Op.eqFields (d+1) (pre++vs).toArray (pre2++ws).toArray fs).run P w = .ok (Zcv vs ws) w
 | [],bs,vs,ws,pre,pre2,h,hv,hw,hp,w=>by
   match bs,h with
   | [],_ =>
     match vs,hv with
     | [],_=>simp [Op.eqFields,Sem.run_pure,Zcv]
 | f::fs,bs,vs,ws,pre,pre2,h,hv,hw,hp,w=>by
   match bs,h with
   | b::bs,h =>
     match vs,hv with
     | v::vs,hv =>
       match ws,hw with
       | u::ws,hw =>
         simp only [chS,Bool.and_eq_true,Bool.not_eq_true'] at h
         obtain ⟨⟨⟨h1,h2⟩,h3⟩,h4⟩:=h
         simp only [kOK,Bool.and_eq_true] at hv hw
         have h2:=Nat.eq_of_beq_eq_true h2
         have hn' : f.name ≠ "_" := by simpa using h1
         have p1:=Z71 h3 pre vs v w
         have p2:=Z71 h3 pre2 ws u w
         have p3:=ZdQ (d:=d) h3 hv.1 hw.1 w
         have ih:=Z8Z (d:=d) fs bs vs ws (pre++[v]) (pre2++[u]) (by rw [List.length_append];exact h4) hv.2 hw.2 (by rw [List.length_append,List.length_append,hp];rfl) w
         rw [List.append_assoc,List.append_assoc] at ih
         simp only [List.singleton_append] at ih
         rw [← hp] at p2
         rw [← h2] at p1 p2
         simp only [Op.eqFields,hn',ne_eq,not_false_eq_true,if_true,Sem.run_bind,p1,p2,p3,Result.andThen]
         cases hc:scE v u with
         | true=>simp [Zcv,hc,ih]
         | false=>simp [Zcv,hc,Sem.run_pure]
section pe
variable {P:Program} {L:Zv} {d:Option Tmp} {ty:TypeId} {pos:String} {af:Array Edge} {g:Option (Nat×Bool)}
theorem PE.neqS {T U:Nat} {x y:Operand} (vs ws:List Value) (bs:List Bool) (hT:chT P T bs=true) (hg:P.eqGuardType P.depth T=false) (hx:ev L x=some (.agg vs.toArray)) (hy:ev L y=some (.agg ws.toArray)) (kv:kOK bs vs=true) (kw:kOK bs ws=true) :
   PE P L ⟨d,.binOp .neq T x y U,ty,pos,af,g⟩ (.bool (!(Zcv vs ws))):=fun ρ hρ w=>by
 have hb:binOp .neq T (.agg vs.toArray) (.agg ws.toArray)=(do pure (.bool (!(← Op.equal T (.agg vs.toArray) (.agg ws.toArray))))):=rfl
 unfold chT at hT
 split at hT
 · rename_i fs hu
   simp only [Bool.and_eq_true,Bool.not_eq_true'] at hT
   have hf:P.fieldsOf T=fs:=by simp [Program.fieldsOf,hu]
   have he:(Op.equal T (.agg vs.toArray) (.agg ws.toArray)).run P w = .ok (Zcv vs ws) w:=by
     show (Op.equalIn (9999+1) T (.agg vs.toArray) (.agg ws.toArray)).run P w=_
     rw [run_equalIn_struct w 9999 T _ _ (by rw [hu,hf]) hT.2,hf]
     exact Z8Z (d:=9998) fs.toList bs vs ws [] [] hT.1 kv kw rfl w
   simp only [execOp,hρ _ _ hx,hρ _ _ hy,Sem.run_bind,Z1o hg,hb,he,Result.andThen,Sem.run_pure]
 · cases hT
end pe
theorem Zif {h:Hse} (hk:h.ok):h.clrR=(Z1E (fun k=>!ZH (h.clr h.sights (-1) 0) k) h.bins.toNat,0):=by
 unfold Hse.clrR
 rw [hse_ok.2 hk];rfl
def Z9A (a b:Hse):Bool:=decide (a.bins=b.bins)&&decide (a.gaps=b.gaps)&&decide (a.sights=b.sights)
theorem sameH_iff {a b:Hse}:Z9A a b=true↔a=b:=by
 unfold Z9A
 simp only [Bool.and_eq_true,decide_eq_true_eq]
 constructor
 · rintro ⟨⟨h1,h2⟩,h3⟩
   cases a;cases b;simp_all
 · rintro rfl;exact ⟨⟨rfl,rfl⟩,rfl⟩
theorem Zit (a b:List Gp):Z7 (a++b)=Z7 a++Z7 b:=List.map_append
def Zco (h:Hse):Bool:=decide (14<h.gaps.length)||decide (12<h.sights.length)
def Zdt (l:List (List Int)):Bool:=l.any (fun x=>decide (14<x.length))||decide (14<l.length)
theorem Zh5 {l:List (List Int)} (h:∀ x∈l.take l.length,¬ 14<x.length):l.any (fun x=>decide (14<x.length))=false:=List.any_eq_false.2 fun x hx=>by
 rw [List.take_length] at h
 simpa using h x hx
theorem Zfb {l:List (List Int)} {x:List Int} (hx:x∈l) (h:14<x.length):l.any (fun x=>decide (14<x.length))=true:=List.any_eq_true.2 ⟨x,hx,decide_eq_true h⟩
theorem Z3o (m k:Nat):((m>>>k:Nat):Int) / 2=((m>>>(k+1):Nat):Int):=by rw [Nat.shiftRight_succ];omega
theorem Z7R (m k:Nat):decide (((m>>>k:Nat):Int)%2=1)=decide (m / 2 ^ k%2=1):=by rw [Nat.shiftRight_eq_div_pow];exact decide_eq_decide.2 (by omega)
theorem ZbS (m k:Nat):decide (((m>>>k:Nat):Int)%2=1)=m.testBit k:=by
 rw [Z7R]
 rw [Nat.testBit_eq_decide_div_mod_eq]
theorem Zgw {m k:Nat} (h:m<2 ^ 10) (hp:0<((m>>>k:Nat):Int)):k<10:=by
 rcases Nat.lt_or_ge k 10 with h1 | h1
 · exact h1
 · have:m>>>k=0:=by rw [Nat.shiftRight_eq_div_pow];exact Nat.div_eq_of_lt (Nat.lt_of_lt_of_le h (Nat.pow_le_pow_right (by decide) h1))
   omega
theorem Zcg {gs:List Gp} {m k:Nat} {w:Int} (hw:w≤9):(decide (0≤wkC gs 0 m k)&&decide (wkC gs 0 m k≤w))=decide (wk gs 0 m k≤w):=by
 unfold wkC
 have hn:=Z6p gs 0 m k
 by_cases h:far≤wk gs 0 m k
 · rw [decide_eq_true h,cond_true,decide_eq_false (by decide),Bool.false_and,decide_eq_false (by unfold far at h;omega)]
 · rw [decide_eq_false h,cond_false,decide_eq_true hn.1,Bool.true_and]
def ZbI (h:Hse) (m set:Nat):Bool:=(List.range h.sights.length).all fun i=>match h.sights[i]? with
 | some s=>!(set.testBit i)||exS h.gaps m s
 | none=>true
theorem Zgu {h:Hse} {m set k:Nat} (hk:h.sights.length≤k) (hi:∀ i,i<k→∀ s,h.sights[i]?=some s→(!(set.testBit i)||exS h.gaps m s)=true):ZbI h m set=true:=List.all_eq_true.2 fun i hm=>by
 have h1:=List.mem_range.1 hm
 rw [List.getElem?_eq_getElem h1]
 exact hi i (by omega) _ (List.getElem?_eq_getElem h1)
theorem ZeR {h:Hse} {m set k:Nat} {s:Sgt} (hs:h.sights[k]?=some s) (hb:set.testBit k=true) (he:exS h.gaps m s=false):ZbI h m set=false:=List.all_eq_false.2 ⟨k,List.mem_range.2 (List.getElem?_eq_some_iff.1 hs).1,by rw [hs];dsimp only;rw [hb,he];decide⟩
theorem Zgt {h:Hse} {m:Nat}:ZbI h m (2 ^ h.sights.length-1)=Z1D h.gaps m h.sights:=by
 rw [Bool.eq_iff_iff]
 unfold ZbI Z1D
 rw [List.all_eq_true,List.all_eq_true]
 constructor
 · intro h1 s hs
   obtain ⟨i,hi⟩:=List.getElem?_of_mem hs
   have hil:=(List.getElem?_eq_some_iff.1 hi).1
   have h2:=h1 i (List.mem_range.2 hil)
   rw [hi] at h2
   dsimp only at h2
   rw [Nat.testBit_two_pow_sub_one,decide_eq_true hil] at h2
   exact h2
 · intro h1 i hi
   have hil:=List.mem_range.1 hi
   rw [List.getElem?_eq_getElem hil]
   dsimp only
   rw [h1 _ (List.getElem_mem hil),Bool.or_true]
def Z3u (h:Hse) (k i:Nat):Bool:=(h.sights.take i).any fun s=>!s.seen&&decide (wk h.gaps 0 (2 ^ k) s.bin.toNat≤s.week)
theorem Zd4 {h:Hse} (k:Nat):Z3u h k h.sights.length=!(Z5W h.gaps h.sights k):=by
 unfold Z3u Z5W
 rw [List.take_length,List.not_all_eq_any_not]
 congr 1;funext s
 rw [Bool.not_or]
 congr 1
 rw [← decide_not]
 exact decide_eq_decide.2 (by omega)
theorem ZfP {h:Hse} (hk:h.ok):h.clrR.1=Z1E (fun k=>Z3u h k h.sights.length) h.bins.toNat:=by
 rw [Zif hk]
 refine Z9q fun k hk7=>?_
 rw [Zd4]
 congr 1
 have h1:Z5Q h.gaps h.sights (-1) 0 k=Z5W h.gaps h.sights k:=rfl
 rw [Bool.eq_iff_iff,hasI_iff,clr_mem,← h1]
 constructor
 · rintro ⟨j,_,h3,h4⟩
   obtain rfl:k=j:=by omega
   exact h3
 · intro h3;exact ⟨k,hk7,h3,rfl⟩
theorem ZcK (xs ys:List Sgt) (a a2:Option Addr) (c c2:Nat) (hl:xs.length≤9223372036854775807) (hl2:ys.length≤9223372036854775807) (H:Zf) (R:Z6) [hR:MemRows a 3 (Z8 xs) R] [hR2:MemRows a2 3 (Z8 ys) R] :
    FnV Tryz.prog 126 [.slice a xs.length c,.slice a2 ys.length c2] H R (.bool (decide (xs=ys))):=by
 refine Zl Tryz.func126 rfl Tryz.ntmps126 rfl ?_
 refine sqt 1 rfl (pur 1 rfl (Z0 (sqt 5 rfl (pur 1 rfl (sp rfl (PE.lenSl Z2l rfl) rfl (pur 1 rfl (sp rfl (PE.lenSl Z2l rfl) rfl (pur 1 rfl ?_))))))))
 refine Z1 rfl ?_ ?_<;>intro hc0
 have hne:xs≠ys:=fun e=>by subst e;simp at hc0
 refine sqt 1 rfl (pur 1 rfl (Z5 ?_))
 exact rtA rfl rfl rfl ⟨by first | (simp only [ZU];rw [dT heq];done) | (simp only [ZU];rw [dF hne]),rfl,rfl⟩ idH
 have hle:xs.length=ys.length:=by simp only [cS] at hc0;omega
 refine Z2 (Z0 (sqt 3 rfl (pur 1 rfl (sp rfl (PE.lenSl Z2l rfl) rfl (pur 1 rfl (Z4 ?_))))))
 refine Ze (ι:={k:Nat // k≤xs.length∧xs.take k=ys.take k}) (fun k=>⟨[(0,.slice a xs.length c),(1,.slice a2 ys.length c2),(12,.int .i64 xs.length),(13,.int .i64 k.1)],H,R⟩) (fun k=>xs.length-k.1) ⟨0,by simp⟩ ?_ (fun k=>?_)
 exact Zi idH
 obtain ⟨k,hk,hn⟩:=k
 dsimp only
 refine sqt 1 rfl (pur 1 rfl (Z0 ?_))
 refine Z1 rfl ?_ ?_<;>intro hc1
 simp only [cS] at hc1
 obtain ⟨x,hx⟩:∃ x,xs[k]?=some x:=⟨_,List.getElem?_eq_getElem (by omega)⟩
 obtain ⟨z,hz⟩:∃ z,ys[k]?=some z:=⟨_,List.getElem?_eq_getElem (by omega)⟩
 refine Zh (a:=a) (sz:=3) (rows:=Z8 xs) (by intro h0;simp [Z8] at h0;simp [h0] at hx) (fun b off he=>?_)
 subst he
 refine Zh (a:=a2) (sz:=3) (rows:=Z8 ys) (by intro h0;simp [Z8] at h0;simp [h0] at hz) (fun b2 off2 he=>?_)
 subst he
 refine Z2 (Z0 (Z4 (sqt 2 rfl (pur 2 rfl (Z0 ?_)))))
 refine Zo [0,0,3,7,0,0,48,112,255] (tks 0 3 (.ld 3 (tks 4 3 (.ld 7 (.tk 8 .done))))) ZF (by kernel_rfl) ?_
 refine Zu 2 rfl (tk rfl (PE.indexAddr Zdb rfl rfl (by omega) (by omega)) rfl (ld rfl rfl (lfA Z6r (row:=ZY x) (by simp [Z8,hx]) rfl) rfl (Zu 2 rfl (tk rfl (PE.indexAddr Zdb rfl rfl (by omega) (by omega)) rfl (ld rfl rfl (lfA Z6r (row:=ZY z) (by simp [Z8,hz]) rfl) rfl (tk rfl (PE.neqS (ZY x) (ZY z) [false,false,true] (by kernel_rfl) Zk1 rfl rfl rfl rfl) rfl ?_))))))
 refine Z1 rfl ?_ ?_<;>intro hc2
 have hne:xs≠ys:=fun e=>by subst e;rw [hx] at hz;cases hz;simp [Zcv,scE,ZY] at hc2
 refine sqt 1 rfl (pur 1 rfl (Z5 ?_))
 exact rtA rfl rfl rfl ⟨by first | (simp only [ZU];rw [dT heq];done) | (simp only [ZU];rw [dF hne]),rfl,rfl⟩ idH
 have hxz:x=z:=by cases x;cases z;simpa [Zcv,scE,ZY,and_assoc] using hc2
 refine Z2 (sqr 2 rfl (sp rfl (PE.add rfl rfl (by omega)) rfl (pur 1 rfl ?_)))
 exact Zb ⟨k+1,by omega,by rw [List.take_add_one,List.take_add_one,hn,hx,hz,hxz]⟩ idH
 simp only [cS] at hc1
 obtain rfl:k=xs.length:=by omega
 have heq:xs=ys:=by
   rw [List.take_length] at hn
   exact hn.trans (by rw [hle];exact List.take_length)
 refine Z9 (Za (Za (Zm (sqt 1 rfl (pur 1 rfl (Z5 ?_))))))
 exact rtA rfl rfl rfl ⟨by first | (simp only [ZU];rw [dT heq];done) | (simp only [ZU];rw [dF hne]),rfl,rfl⟩ idH
theorem ZcE (xs ys:List Gp) (a a2:Option Addr) (c c2:Nat) (hl:xs.length≤9223372036854775807) (hl2:ys.length≤9223372036854775807) (H:Zf) (R:Z6) [hR:MemRows a 2 (Z7 xs) R] [hR2:MemRows a2 2 (Z7 ys) R] :
    FnV Tryz.prog 85 [.slice a xs.length c,.slice a2 ys.length c2] H R (.bool (decide (xs=ys))):=by
 refine Zl Tryz.func85 rfl Tryz.ntmps85 rfl ?_
 refine sqt 1 rfl (pur 1 rfl (sqt 4 rfl (pur 2 rfl ?_)))
 refine clV rfl ZhF rfl rfl (ZcJ xs ys a a2 c c2 hl hl2 _ _) ?_
 refine pur 1 rfl (Z5 ?_)
 exact rtA rfl rfl rfl ⟨rfl,rfl,rfl⟩ drp
theorem ZcF (xs ys:List Sgt) (a a2:Option Addr) (c c2:Nat) (hl:xs.length≤9223372036854775807) (hl2:ys.length≤9223372036854775807) (H:Zf) (R:Z6) [hR:MemRows a 3 (Z8 xs) R] [hR2:MemRows a2 3 (Z8 ys) R] :
    FnV Tryz.prog 86 [.slice a xs.length c,.slice a2 ys.length c2] H R (.bool (decide (xs=ys))):=by
 refine Zl Tryz.func86 rfl Tryz.ntmps86 rfl ?_
 refine sqt 1 rfl (pur 1 rfl (sqt 4 rfl (pur 2 rfl ?_)))
 refine clV rfl ZhG rfl rfl (ZcK xs ys a a2 c c2 hl hl2 _ _) ?_
 refine pur 1 rfl (Z5 ?_)
 exact rtA rfl rfl rfl ⟨rfl,rfl,rfl⟩ drp
theorem Z5L (h:Hse) (ag as_:Option Addr) (cg cs:Nat) (hlg:h.gaps.length≤9223372036854775807) (hls:h.sights.length≤9223372036854775807) (H:Zf) (R:Z6) :
    FnV Tryz.prog 56 [h.v (h.sg ag cg) (h.ss as_ cs)] H R (.bool (Zco h)):=by
 refine Zl Tryz.func56 rfl Tryz.ntmps56 rfl ?_
 refine sqt 2 rfl (bx rfl rfl rfl (fun b1=>pur 1 rfl (sqt 11 rfl (sp rfl (PE.fA ZT rfl) rfl (spL rfl rfl (lh Z2g rfl rfl) rfl (sp rfl (PE.lenSl Z1s rfl) rfl (pur 2 rfl ?_)))))))
 refine Zj 7 rfl ?_ ?_<;>intro g7
 refine pur 6 rfl (Z5 ?_)
 exact rtA rfl rfl rfl ⟨congrArg Value.bool (show true=Zco h by unfold Zco;rw [dT (by have:=of_decide_eq_true g7;omega)];rfl),rfl,rfl⟩ (fun w h9=>h9.del b1)
 refine spG rfl rfl rfl rfl (PE.fA ZN rfl) rfl ?_
 refine Z0m rfl rfl rfl rfl rfl (lh Z1L rfl rfl) rfl ?_
 refine spG rfl rfl rfl rfl (PE.lenSl Z2l rfl) rfl ?_
 refine pur 3 rfl (Z5 ?_)
 exact rtA rfl rfl rfl ⟨congrArg Value.bool (show _=Zco h by unfold Zco;rw [dF (show ¬ 14<h.gaps.length by have:=of_decide_eq_false g7;omega),Bool.false_or];exact decide_eq_decide.2 (by omega)),rfl,rfl⟩ (fun w h9=>h9.del b1)
theorem Z6D (pl:List PL) (ap:Option Addr) (cp:Nat) (hpl:pl.length≤9223372036854775807) (hpx:∀ x∈pl,x.l.length≤9223372036854775807) (H:Zf) (R:Z6) [hP:MemRows ap 1 (Zg pl) R] :
    FnV Tryz.prog 16 [.slice ap pl.length cp] H R (.bool (Zdt (lls pl))):=by
 refine Zl Tryz.func16 rfl Tryz.ntmps16 rfl ?_
 refine sqt 1 rfl (pur 1 rfl (Z0 (sqt 3 rfl (pur 1 rfl (sp rfl (PE.lenSl Z0J rfl) rfl (pur 1 rfl (Z4 ?_)))))))
 refine Ze (ι:={k:Nat // k≤pl.length∧∀ x∈(lls pl).take k,¬ 14<x.length}) (fun k=>⟨[(0,.slice ap pl.length cp),(5,.slice ap pl.length cp),(6,.int .i64 pl.length),(7,.int .i64 k.1)],H,R⟩) (fun k=>pl.length-k.1) ⟨0,Nat.zero_le _,by simp⟩ ?_ (fun k=>?_)
 exact Zi idH
 obtain ⟨k,hk,hn⟩:=k
 dsimp only at hk hn ⊢
 refine sqt 1 rfl (pur 1 rfl (Z0 ?_))
 refine Z1 rfl ?_ ?_<;>intro hc0<;>try simp only [cS] at hc0
 obtain ⟨x,hx⟩:∃ x,pl[k]?=some x:=⟨_,List.getElem?_eq_getElem (by omega)⟩
 have hgx:=Z1m hx
 have hxl:=hpx x (List.mem_of_getElem? hx)
 refine Zh (a:=ap) (sz:=1) (rows:=Zg pl) (ne0 (by rw [Zt];omega)) (fun ba oa he=>?_)
 subst he
 refine Z2 (Z0 (Z4 (sqt 3 rfl (sp rfl (PE.indexAddr Z4A rfl rfl (by omega) (by omega)) rfl (spL rfl rfl (lf0 Z1t (Z0M hx) rfl) rfl (pur 1 rfl (sqt 3 rfl (pur 1 rfl (sp rfl (PE.lenSl Zy rfl) rfl (pur 1 rfl ?_))))))))))
 refine Z1 rfl ?_ ?_<;>intro hc1<;>try simp only [cS] at hc1
 have ha:=Zfb (List.mem_of_getElem? hgx) (show 14<x.l.length by omega)
 refine sqt 1 rfl (pur 1 rfl (Z5 ?_))
 exact rtA rfl rfl rfl ⟨congrArg Value.bool (show true=Zdt (lls pl) by unfold Zdt;rw [ha];rfl),rfl,rfl⟩ drp
 refine Z2 (sqr 2 rfl (sp rfl (PE.add rfl rfl (by omega)) rfl (pur 1 rfl ?_)))
 exact Zc ⟨k+1,by omega,fun y hy=>by
   rw [List.take_add_one,hgx] at hy
   rcases List.mem_append.1 hy with h1 | h1
   · exact hn y h1
   · rw [List.mem_singleton.1 h1];omega⟩ (by dsimp only;omega) sbA idH
 obtain rfl:k=pl.length:=by omega
 have hll:=Z04 pl
 have ha:=Zh5 (l:=lls pl) (by rw [hll];exact hn)
 refine Z9 (Za (Za (Zm (sqt 4 rfl (pur 1 rfl (sp rfl (PE.lenSl Z0J rfl) rfl (pur 2 rfl (Z5 ?_))))))))
 exact rtA rfl rfl rfl ⟨congrArg Value.bool (show _=Zdt (lls pl) by unfold Zdt;rw [ha,Bool.false_or];exact decide_eq_decide.2 (by omega)),rfl,rfl⟩ drp
set_option maxHeartbeats 400000 in
theorem Z3f (h:Hse) (ag as_:Option Addr) (cg cs:Nat) (hlg:h.gaps.length≤1000000) (hls:h.sights.length≤1000000) (H:Zf) (R:Z6) [hG:MemRows ag 2 (Z7 h.gaps) R] [hS:MemRows as_ 3 (Z8 h.sights) R] :
    Fn Tryz.prog 18 [h.v (h.sg ag cg) (h.ss as_ cs)] H R (fun v H' R'=>∃ (ax ay:Option Addr) (cx cy:Nat),v=h.v (h.sg ax cx) (h.ss ay cy)∧H'=H∧R'=RowsA ay 3 (Z8 h.sights)::RowsA ax 2 (Z7 h.gaps)::R):=by
 refine Zl Tryz.func18 rfl Tryz.ntmps18 rfl ?_
 refine sqt 2 rfl (bx rfl rfl rfl (fun b1=>alc rfl ZgT rfl (fun b2=>sqt 5 rfl (sp rfl (PE.fA Z0h rfl) rfl (spL rfl rfl (lh (v:=.int .i64 h.bins) sc3 rfl rfl) rfl (sp rfl (PE.build (out:=htl h (.slice none 0 0) (.slice none 0 0)) ZkO ZgT rfl rfl) rfl (alc rfl ZgT rfl (fun b3=>?_))))))))
 refine ZG (l':=htl h (.slice none 0 0) (.slice none 0 0)) rfl rfl rfl ZgY rfl rfl rfl rfl (nl rfl) ?_
 refine Z0 (sqt 4 rfl (sp rfl (PE.fA ZT rfl) rfl (spL rfl rfl (lh Z2g rfl rfl) rfl (sp rfl (PE.lenSl Z1s rfl) rfl (pur 1 rfl (Z4 ?_))))))
 refine Ze (ι:=(k:{k:Nat // k≤h.gaps.length})×OSl 129 2 (Z7 (h.gaps.take k.1))) (fun x=>⟨[(1,.pointer (some ⟨b1,0,none⟩)),(2,.pointer (some ⟨b2,0,none⟩)),(3,.pointer (some ⟨b3,0,none⟩)),(12,h.sg ag cg),(13,.int .i64 h.gaps.length),(14,.int .i64 x.1.1)],x.2.G++((b3,cel 57 (htl h x.2.fs (.slice none 0 0)))::(b2,cel 57 (htl ⟨0,[],[]⟩ (.slice none 0 0) (.slice none 0 0)))::(b1,cel 27 (htl h (h.sg ag cg) (h.ss as_ cs)))::H),R⟩) (fun x=>h.gaps.length-x.1.1) ⟨⟨0,by omega⟩,OSl.nil _ _⟩ ?_ (fun x=>?_)
 exact Zi idH
 obtain ⟨⟨k,hk⟩,o⟩:=x
 dsimp only at hk o ⊢
 refine sqt 1 rfl (pur 1 rfl (Z0 ?_))
 refine Z1 rfl ?_ ?_<;>intro hc0<;>try simp only [cS] at hc0
 obtain ⟨x,hx⟩:∃ x,h.gaps[k]?=some x:=⟨_,List.getElem?_eq_getElem (by omega)⟩
 refine Zh (a:=ag) (sz:=2) (rows:=Z7 h.gaps) (ne0 (by rw [ZJ];omega)) (fun ba oa he=>?_)
 subst he
 refine Z2 (Z0 (Z4 (sqt 4 rfl (sp rfl (PE.indexAddr Z8r rfl rfl (by omega) (by omega)) rfl (spL rfl rfl (lfA Z7d (row:=grow x) (Z1l hx) rfl) rfl (alc rfl Z51 rfl (fun b5=>?_)))))))
 refine ZG (l':=grow x) rfl rfl rfl ZfR rfl rfl rfl rfl (nl rfl) ?_
 refine sqr 7 rfl (sp rfl (PE.fA Z16 rfl) rfl (spL rfl rfl (lh Z7h rfl rfl) rfl (spL rfl rfl (lhA (grow x) Z7d rfl rfl rfl) rfl ?_)))
 refine bsl (out:=[_,_]) rfl ZkS Zcm rfl rfl rfl rfl rfl rfl (fun b21=>?_)
 refine apO (o) rfl Zkz rfl rfl (Z02 (row:=grow x) rfl) rfl rfl ((by rw [ZJ,List.length_take];simp only [List.length_singleton];omega)) rfl (fun o22=>?_)
 refine sp rfl (PE.fA Z16 rfl) rfl ?_
 refine ZG (l':=htl h o22.fs (.slice none 0 0)) rfl rfl rfl ZkF rfl (by rw [o22.cells.1];first | done | rfl) (by rw [o22.cells.1];simp [o22.cells.2]) (by rw [o22.cells.1];first | done | rfl) (by rw [o22.cells.1];first | done | exact Nat.le_of_ble_eq_true rfl) ?_
 refine sqr 2 rfl (sp rfl (PE.add rfl rfl (by omega)) rfl (pur 1 rfl ?_))
 exact Zb ⟨⟨k+1,by omega⟩,o22.cast (by rw [Z4V hx,Zit];rfl)⟩ (fun w h9=>(h9.del b21).del b5)
 obtain rfl:k=h.gaps.length:=by omega
 obtain ⟨ax,cx,he,hcx,hf⟩:=(o.cast (show _=Z7 h.gaps by rw [List.take_length])).freezeC
 rw [ZJ] at hcx
 rw [show o.fs=_ from he,ZJ]
 refine Sy.heap (fun w h9=>hf h9) ?_
 clear he hf
 refine Z9 (Za (Za (Zm (Z0 (sqt 4 rfl (sp rfl (PE.fA ZN rfl) rfl (spL rfl rfl (lh Z1L rfl rfl) rfl (sp rfl (PE.lenSl Z2l rfl) rfl (pur 1 rfl (Z4 ?_))))))))))
 refine Ze (ι:=(k:{k:Nat // k≤h.sights.length})×OSl 130 3 (Z8 (h.sights.take k.1))) (fun x=>⟨[(1,.pointer (some ⟨b1,0,none⟩)),(2,.pointer (some ⟨b2,0,none⟩)),(3,.pointer (some ⟨b3,0,none⟩)),(26,h.ss as_ cs),(27,.int .i64 h.sights.length),(28,.int .i64 x.1.1)],x.2.G++((b3,cel 57 (htl h (.slice ax h.gaps.length cx) x.2.fs))::(b2,cel 57 (htl ⟨0,[],[]⟩ (.slice none 0 0) (.slice none 0 0)))::(b1,cel 27 (htl h (h.sg ag cg) (h.ss as_ cs)))::H),RowsA ax 2 (Z7 h.gaps)::R⟩) (fun x=>h.sights.length-x.1.1) ⟨⟨0,by omega⟩,OSl.nil _ _⟩ ?_ (fun x=>?_)
 exact Zi idH
 obtain ⟨⟨k,hk⟩,o⟩:=x
 dsimp only at hk o ⊢
 refine sqt 1 rfl (pur 1 rfl (Z0 ?_))
 refine Z1 rfl ?_ ?_<;>intro hc1<;>try simp only [cS] at hc1
 obtain ⟨x,hx⟩:∃ x,h.sights[k]?=some x:=⟨_,List.getElem?_eq_getElem (by omega)⟩
 refine Zh (a:=as_) (sz:=3) (rows:=Z8 h.sights) (ne0 (by rw [ZE];omega)) (fun bs os he=>?_)
 subst he
 refine Z2 (Z0 (Z4 (sqt 4 rfl (sp rfl (PE.indexAddr Zdb rfl rfl (by omega) (by omega)) rfl (spL rfl rfl (lfA Z6r (row:=ZY x) (Z2q hx) rfl) rfl (alc rfl Z41 rfl (fun b7=>?_)))))))
 refine ZG (l':=ZY x) rfl rfl rfl ZjZ rfl rfl rfl rfl (nl rfl) ?_
 refine sqr 7 rfl (sp rfl (PE.fA Z1j rfl) rfl (spL rfl rfl (lh Z7P rfl rfl) rfl (spL rfl rfl (lhA (ZY x) Z6r rfl rfl rfl) rfl ?_)))
 refine bsl (out:=[_,_,_]) rfl ZkT Ze7 rfl rfl rfl rfl rfl rfl (fun b35=>?_)
 refine apO (o) rfl ZkA rfl rfl (Z02 (row:=ZY x) rfl) rfl rfl ((by rw [ZE,List.length_take];simp only [List.length_singleton];omega)) rfl (fun o36=>?_)
 refine sp rfl (PE.fA Z1j rfl) rfl ?_
 refine ZG (l':=htl h (.slice ax h.gaps.length cx) o36.fs) rfl rfl rfl ZkG rfl (by rw [o36.cells.1];first | done | rfl) (by rw [o36.cells.1];simp [o36.cells.2]) (by rw [o36.cells.1];first | done | rfl) (by rw [o36.cells.1];first | done | exact Nat.le_of_ble_eq_true rfl) ?_
 refine sqr 2 rfl (sp rfl (PE.add rfl rfl (by omega)) rfl (pur 1 rfl ?_))
 exact Zb ⟨⟨k+1,by omega⟩,o36.cast (by rw [Z4V hx,Z2Q];rfl)⟩ (fun w h9=>(h9.del b35).del b7)
 obtain rfl:k=h.sights.length:=by omega
 obtain ⟨ay,cy,he,hcy,hf⟩:=(o.cast (show _=Z8 h.sights by rw [List.take_length])).freezeC
 rw [ZE] at hcy
 rw [show o.fs=_ from he,ZE]
 refine Sy.heap (fun w h9=>hf h9) ?_
 clear he hf
 refine Z9 (Za (Za (Zm (sqt 2 rfl (spL rfl rfl (lhA (htl h (.slice ax h.gaps.length cx) (.slice ay h.sights.length cy)) Z1q rfl rfl rfl) rfl ?_)))))
 refine ZG (l':=htl h (.slice ax h.gaps.length cx) (.slice ay h.sights.length cy)) rfl rfl rfl ZgY rfl rfl rfl rfl (nl rfl) ?_
 refine Z5 ?_
 exact Zn (vs:=[_]) rfl (.cons (RV.cell rfl (lhA (htl h (.slice ax h.gaps.length cx) (.slice ay h.sights.length cy)) Z1q rfl rfl rfl)) .nil) rfl ⟨ax,ay,cx,cy,rfl,rfl,rfl⟩ (fun w h9=>((h9.del b3).del b2).del b1)
theorem Z4y (h q:Hse) (ag as_ ax ay:Option Addr) (cg cs cx cy:Nat) (hlg:h.gaps.length≤9223372036854775807) (hls:h.sights.length≤9223372036854775807) (hqg:q.gaps.length≤9223372036854775807) (hqs:q.sights.length≤9223372036854775807) (H:Zf) (R:Z6) [hG:MemRows ag 2 (Z7 h.gaps) R] [hS:MemRows as_ 3 (Z8 h.sights) R] [hX:MemRows ax 2 (Z7 q.gaps) R] [hY:MemRows ay 3 (Z8 q.sights) R] :
    FnV Tryz.prog 29 [h.v (h.sg ag cg) (h.ss as_ cs),q.v (q.sg ax cx) (q.ss ay cy)] H R (.bool (Z9A h q)):=by
 refine Zl Tryz.func29 rfl Tryz.ntmps29 rfl ?_
 refine sqt 3 rfl (bx rfl rfl rfl (fun b2=>bx rfl rfl rfl (fun b3=>pur 1 rfl (sqt 20 rfl (sp rfl (PE.fA Z0h rfl) rfl (spL rfl rfl (lh (v:=.int .i64 h.bins) sc3 rfl rfl) rfl (sp rfl (PE.fA Z0h rfl) rfl (spL rfl rfl (lh (v:=.int .i64 q.bins) sc3 rfl rfl) rfl (pur 2 rfl ?_)))))))))
 refine Zj 10 rfl ?_ ?_<;>intro g10
 refine spG rfl rfl rfl rfl (PE.fA ZT rfl) rfl ?_
 refine Z0m rfl rfl rfl rfl rfl (lh Z2g rfl rfl) rfl ?_
 refine spG rfl rfl rfl rfl (PE.fA ZT rfl) rfl ?_
 refine Z0m rfl rfl rfl rfl rfl (lh Z2g rfl rfl) rfl ?_
 refine Z0C rfl rfl rfl rfl ZjN rfl rfl (ZcE h.gaps q.gaps ag ax cg cx hlg hqg _ _) ?_
 refine pur 2 rfl ?_
 refine Zj 17 rfl ?_ ?_<;>intro g17
 refine spG rfl rfl rfl rfl (PE.fA ZN rfl) rfl ?_
 refine Z0m rfl rfl rfl rfl rfl (lh Z1L rfl rfl) rfl ?_
 refine spG rfl rfl rfl rfl (PE.fA ZN rfl) rfl ?_
 refine Z0m rfl rfl rfl rfl rfl (lh Z1L rfl rfl) rfl ?_
 refine Z0C rfl rfl rfl rfl ZjO rfl rfl (ZcF h.sights q.sights as_ ay cs cy hls hqs _ _) ?_
 refine pur 2 rfl (Z5 ?_)
 exact rtA rfl rfl rfl ⟨by simp only [ZU,Z9A];first | (rw [g10,g17];rfl) | (rw [g10];rfl),rfl,rfl⟩ (fun w h9=>(h9.del b3).del b2)
 refine pur 7 rfl (Z5 ?_)
 exact rtA rfl rfl rfl ⟨by simp only [ZU,Z9A];first | (rw [g10,g17];rfl) | (rw [g10];rfl),rfl,rfl⟩ (fun w h9=>(h9.del b3).del b2)
 refine pur 14 rfl (Z5 ?_)
 exact rtA rfl rfl rfl ⟨by simp only [ZU,Z9A];first | (rw [g10,g17];rfl) | (rw [g10];rfl),rfl,rfl⟩ (fun w h9=>(h9.del b3).del b2)
theorem Z2T (n:Nat) (hn:n≤20) (H:Zf) (R:Z6) :
    FnV Tryz.prog 78 [.int .i64 (n:Int)] H R (.int .i64 ((2 ^ n:Nat):Int)):=by
 refine Zl Tryz.func78 rfl Tryz.ntmps78 rfl ?_
 refine sqt 1 rfl (pur 1 rfl (sqt 1 rfl (pur 1 rfl (Z0 (sqt 1 rfl (pur 1 rfl (Z4 ?_)))))))
 refine Ze (ι:={k:Nat // k≤n}) (fun k=>⟨[(0,.int .i64 (n:Int)),(3,.int .i64 ((2 ^ k.1:Nat):Int)),(4,.int .i64 (k.1:Int))],H,R⟩) (fun k=>n-k.1) ⟨0,Nat.zero_le _⟩ ?_ (fun k=>?_)
 exact Zi idH
 obtain ⟨k,hk⟩:=k
 dsimp only at hk ⊢
 have hp:=Nat.pow_le_pow_right (show 0<2 by decide) (show k≤20 by omega)
 have h20:(2:Nat) ^ 20=1048576:=rfl
 have hps:=Nat.pow_succ 2 k
 refine Z0 (sqt 3 rfl (pur 3 rfl ?_))
 refine Z1 rfl ?_ ?_<;>intro hc0<;>try simp only [cS] at hc0
 refine Z2 (Z0 (Z4 (sqr 3 rfl (pur 1 rfl (sp rfl (PE.mul rfl rfl (by omega)) rfl (pur 1 rfl (sqr 3 rfl (pur 1 rfl (sp rfl (PE.add rfl rfl (by omega)) rfl (pur 1 rfl ?_))))))))))
 rw [show (2:Int)*((2 ^ k:Nat):Int)=((2 ^ (k+1):Nat):Int) by omega]
 exact Zb ⟨k+1,by omega⟩ idH
 obtain rfl:k=n:=by omega
 refine Z9 (Za (Za (Zm (sqt 2 rfl (pur 2 rfl (Z5 ?_))))))
 exact rtA rfl rfl rfl ⟨rfl,rfl,rfl⟩ drp
theorem Z3y (s:Nat) (hs:s<2 ^ 10) (H:Zf) (R:Z6) :
    Fn Tryz.prog 79 [.int .i64 (s:Int)] H R (fun v H' R'=>∃ o:OSl 3 1 (Z3 (Zs s)),v=o.fs∧H'=o.G++H∧R'=R):=by
 refine Zl Tryz.func79 rfl Tryz.ntmps79 rfl ?_
 refine sqt 1 rfl ?_
 have h10:(2:Nat) ^ 10=1024:=rfl
 rw [show (s:Int)=((s>>>0:Nat):Int) from rfl]
 refine pur 1 rfl (sqt 1 rfl (pur 1 rfl (Z0 (sqt 1 rfl (pur 1 rfl (Z4 ?_))))))
 refine Ze (ι:=(k:{k:Nat // k≤10})×OSl 3 1 (Z3 (Z9s s k.1))) (fun x=>⟨[(0,.int .i64 ((s>>>x.1.1:Nat):Int)),(3,x.2.fs),(4,.int .i64 (x.1.1:Int))],x.2.G++H,R⟩) (fun x=>10-x.1.1) ⟨⟨0,by omega⟩,OSl.nil _ _⟩ ?_ (fun x=>?_)
 exact Zi idH
 obtain ⟨⟨k,hk⟩,o⟩:=x
 dsimp only at hk o ⊢
 have hml:=Z63 s k
 have hsk:s>>>k≤s:=Nat.shiftRight_le _ _
 refine Z0 (sqt 2 rfl (pur 2 rfl ?_))
 refine Z1 rfl ?_ ?_<;>intro hc0<;>try simp only [cS] at hc0
 have hk4:=Zgw hs hc0
 refine Z2 (Z0 (Z4 (Z0 (sqt 3 rfl (pur 1 rfl (sp rfl (PE.rem rfl rfl ⟨Int.natCast_nonneg _,by decide⟩) rfl (pur 1 rfl ?_)))))))
 refine Z1 rfl ?_ ?_<;>intro hc1
 rw [Z7R] at hc1
 have eb:=Zbn (of_decide_eq_true hc1)
 refine sqr 5 rfl (pur 2 rfl ?_)
 refine bsl (out:=[_]) rfl Z03 zl3 rfl rfl rfl rfl rfl rfl (fun b14=>?_)
 refine apO (o) rfl Z1v rfl rfl (Z02 (row:=[.int .i64 (k:Int)]) rfl) rfl rfl ((by rw [irl];simp only [List.length_singleton];omega)) rfl (fun o15=>?_)
 refine pur 1 rfl (sqr 3 rfl (pur 1 rfl (sp rfl (PE.quo rfl rfl ⟨Int.natCast_nonneg _,by omega,by decide⟩) rfl ?_)))
 rw [Z3o]
 refine pur 1 rfl (sqr 3 rfl (pur 1 rfl (sp rfl (PE.add rfl rfl (by omega)) rfl (pur 1 rfl ?_))))
 first
   | exact Zd ⟨⟨k+1,by omega⟩,o15.cast (by rw [eb];simp [Z3])⟩ (by dsimp only;omega) (fun w h=>h.del b14)
   | exact Zd ⟨⟨k+1,by omega⟩,o.cast (by rw [eb])⟩ (by dsimp only;omega) idH
 rw [Z7R] at hc1
 have eb:=Z64 (of_decide_eq_false hc1)
 refine Z2 (sqr 3 rfl (pur 1 rfl (sp rfl (PE.quo rfl rfl ⟨Int.natCast_nonneg _,by omega,by decide⟩) rfl ?_)))
 rw [Z3o]
 refine pur 1 rfl (sqr 3 rfl (pur 1 rfl (sp rfl (PE.add rfl rfl (by omega)) rfl (pur 1 rfl ?_))))
 first
   | exact Zd ⟨⟨k+1,by omega⟩,o15.cast (by rw [eb];simp [Z3])⟩ (by dsimp only;omega) (fun w h=>h.del b14)
   | exact Zd ⟨⟨k+1,by omega⟩,o.cast (by rw [eb])⟩ (by dsimp only;omega) idH
 have hz:s / 2 ^ k=0:=by
   have h5:s>>>k=0:=Nat.le_zero.1 (Int.ofNat_le.1 hc0)
   rw [Nat.shiftRight_eq_div_pow] at h5;exact h5
 refine Z9 (Za (Za (Zm (sqt 2 rfl (pur 2 rfl (Z5 ?_))))))
 exact rtA rfl rfl rfl ⟨o.cast (by rw [Zbl hz (by omega)]),rfl,rfl,rfl⟩ idH
set_option maxHeartbeats 400000 in
theorem Zeg (h:Hse) (ag as_:Option Addr) (cg cs:Nat) (hok:h.ok) (fr:List Int) (af:Option Addr) (cf:Nat) (hfr:ZM h.bins fr=0) (set:Nat) (hst:set<2 ^ 10) (H:Zf) (R:Z6) [hG:MemRows ag 2 (Z7 h.gaps) R] [hS:MemRows as_ 3 (Z8 h.sights) R] [hF:MemRows af 1 (Z3 fr) R] :
    FnV Tryz.prog 112 [h.v (h.sg ag cg) (h.ss as_ cs),.slice af fr.length cf,.int .i64 (set:Int)] H R (.bool (ZbI h (msk fr) set)):=by
 refine Zl Tryz.func112 rfl Tryz.ntmps112 rfl ?_
 refine sqt 2 rfl ?_
 have hbn:=hok.bins
 have hsl:=hok.sl
 obtain ⟨B,hB⟩:∃ B:Nat,h.bins=B:=⟨h.bins.toNat,by omega⟩
 have hBt:h.bins.toNat=B:=by omega
 have h10:(2:Nat) ^ 10=1024:=rfl
 rw [show (set:Int)=((set>>>0:Nat):Int) from rfl]
 refine Sy.heap (fun w h9=>St.norows (sz:=1) h9) ?_
 refine bx rfl rfl rfl (fun b3=>pur 1 rfl (sqt 4 rfl (spL rfl rfl (lhA (htl h (h.sg ag cg) (h.ss as_ cs)) Z1q rfl rfl rfl) rfl (pur 1 rfl ?_))))
 refine cl rfl Z7w rfl rfl (Z1X h ag as_ cg cs hok fr [] af none cf 0 hfr (fun x hx=>by cases hx) (by decide) _ _) ?_
 rintro _ _ R1 ⟨aw,cw,rfl,rfl,hR1⟩
 obtain rfl:=hR1.symm
 clear hR1
 rw [hBt]
 refine pur 1 rfl (Z0 (sqt 1 rfl ?_))
 rw [show msk []=0 from rfl]
 refine pur 1 rfl (Z4 ?_)
 refine Ze (ι:={k:Nat // k≤h.sights.length∧∀ i,i<k→∀ s,h.sights[i]?=some s→(!(set.testBit i)||exS h.gaps (msk fr) s)=true}) (fun k=>⟨[(2,.int .i64 ((set>>>k.1:Nat):Int)),(3,.pointer (some ⟨b3,0,none⟩)),(7,.slice aw B cw),(8,.int .i64 (k.1:Int))],(b3,cel 57 (htl h (h.sg ag cg) (h.ss as_ cs)))::H,RowsA aw 1 (Z3 (wkL h.gaps 0 (msk fr) B))::RowsA none 1 []::R⟩) (fun k=>h.sights.length-k.1) ⟨0,Nat.zero_le _,fun i hi=>absurd hi (Nat.not_lt_zero _)⟩ ?_ (fun k=>?_)
 exact Zi idH
 obtain ⟨k,hk,hall⟩:=k
 dsimp only at hk hall ⊢
 have hsk:set>>>k≤set:=Nat.shiftRight_le _ _
 refine Z0 (sqt 5 rfl (pur 1 rfl (sp rfl (PE.fA Z1j rfl) rfl (spL rfl rfl (lh Z7P rfl rfl) rfl (sp rfl (PE.lenSl Z7D rfl) rfl (pur 1 rfl ?_))))))
 refine Z1 rfl ?_ ?_<;>intro hc0<;>try simp only [cS] at hc0
 obtain ⟨x,hx⟩:∃ x,h.sights[k]?=some x:=⟨_,List.getElem?_eq_getElem (by omega)⟩
 have hso:=hok.sights x (List.mem_of_getElem? hx)
 have hex:exS h.gaps (msk fr) x=(decide (wk h.gaps 0 (msk fr) x.bin.toNat≤x.week) == x.seen):=rfl
 have hxb:x.bin.toNat<B:=by have:=hso.2;omega
 have hgw:=Z0Z (l:=(wkL h.gaps 0 (msk fr) B)) (k:=x.bin.toNat) (by rw [Z14];exact hxb)
 rw [Z50 hxb] at hgw
 have hwc:=Zcg (gs:=h.gaps) (m:=(msk fr)) (k:=x.bin.toNat) hso.1.2
 have hgw2:(Z3 (wkL h.gaps 0 (msk fr) B))[x.bin.toNat]?=some [.int .i64 (wkC h.gaps 0 (msk fr) x.bin.toNat)]:=ZB hgw
 generalize wkC h.gaps 0 (msk fr) x.bin.toNat=wx at *
 refine Zh (a:=aw) (sz:=1) (rows:=Z3 (wkL h.gaps 0 (msk fr) B)) (by intro h0;have:=congrArg List.length h0;rw [irl,Z14] at this;simp only [List.length_nil] at this;omega) (fun bw ow hew=>?_)
 subst hew
 refine Zh (a:=as_) (sz:=3) (rows:=Z8 h.sights) (ne0 (by rw [ZE];omega)) (fun bs os he=>?_)
 subst he
 refine Z2 (Z0 (Z4 (sqt 7 rfl (sp rfl (PE.fA Z1j rfl) rfl (spL rfl rfl (lh Z7P rfl rfl) rfl (pur 1 rfl (sp rfl (PE.indexAddr ZgZ rfl rfl (by omega) (by omega)) rfl (spL rfl rfl (lfA Zcu (row:=ZY x) (Z2q hx) rfl) rfl (alc rfl Ze7 rfl (fun b9=>?_))))))))))
 refine ZG (l':=ZY x) rfl rfl rfl ZfQ rfl rfl rfl rfl (nl rfl) ?_
 refine Z0 (Z0 ?_)
 refine Zo [0,1,3,7,15,31,15,15,143,463,975,1999,4047,8143,8143,24527,65487,131023,8143,270287,1048527,2097103,4194303,8388607] (tks 0 5 (.ld 5 (.tk 6 (.tk 7 (.ld 8 (.tk 9 (.ld 10 (tks 11 4 (.ld 15 (.tk 16 (.ld 17 (.tk 18 (.ld 19 (tks 20 4 .done)))))))))))))) ZF (by kernel_rfl) ?_
 refine Zu 1 rfl (tk rfl (PE.rem rfl rfl ⟨Int.natCast_nonneg _,by decide⟩) rfl (Zu 2 rfl ?_))
 refine Zj 28 rfl ?_ ?_<;>intro g28
 rw [ZbS] at g28
 refine tkG rfl rfl rfl rfl (PE.fA Z7B rfl) rfl ?_
 refine ldG rfl rfl rfl rfl rfl (lh sc4 rfl rfl) rfl (Zu 1 rfl ?_)
 refine tkG rfl rfl rfl rfl (PE.fA Z2Z rfl) rfl ?_
 refine ldG rfl rfl rfl rfl rfl (lh sc3 rfl rfl) rfl ?_
 skip
 refine tkG rfl rfl rfl rfl (PE.indexAddr Z0c rfl rfl (by omega) (by omega)) rfl ?_
 refine ldG rfl rfl rfl rfl rfl (lf0 sc3 hgw2 rfl) rfl (Zu 2 rfl ?_)
 refine Zj 37 rfl ?_ ?_<;>intro g37
 refine Zu 1 rfl ?_
 refine tkG rfl rfl rfl rfl (PE.fA Z2Z rfl) rfl ?_
 refine ldG rfl rfl rfl rfl rfl (lh sc3 rfl rfl) rfl ?_
 refine tkG rfl rfl rfl rfl (PE.indexAddr Z0c rfl rfl (by omega) (by omega)) rfl ?_
 refine ldG rfl rfl rfl rfl rfl (lf0 sc3 hgw2 rfl) rfl ?_
 refine tkG rfl rfl rfl rfl (PE.fA Z5V rfl) rfl ?_
 refine ldG rfl rfl rfl rfl rfl (lh sc3 rfl rfl) rfl (Zu 2 rfl ?_)
 refine tkG rfl rfl rfl rfl (PE.neqBool ub4 rfl rfl) rfl ?_
 refine Zu 1 rfl ?_
 refine Z1 rfl ?_ ?_<;>intro hc1
 refine sqt 1 rfl (pur 1 rfl (Z5 ?_))
 exact rtA rfl rfl rfl ⟨by
   simp only [ZU]
   have he0:exS h.gaps (msk fr) x=false:=by
     rw [hex,← hwc]
     first
       | (rw [g37,Bool.true_and];cases hs9:x.seen<;>rw [hs9] at hc1<;>simp_all)
       | (rw [g37,Bool.false_and];cases hs9:x.seen<;>rw [hs9] at hc1<;>simp_all)
   rw [ZeR hx g28 he0],rfl,rfl⟩ (fun w h9=>St.sub ((h9.del b9).del b3))
 have hk1:(!(set.testBit k)||exS h.gaps (msk fr) x)=true:=by
   rw [hex,← hwc]
   first
     | (rw [g28];rfl)
     | (rw [g28,g37,Bool.true_and];cases hs9:x.seen<;>rw [hs9] at hc1<;>simp_all)
     | (rw [g28,g37,Bool.false_and];cases hs9:x.seen<;>rw [hs9] at hc1<;>simp_all)
 refine Z2 (sqr 3 rfl (pur 1 rfl (sp rfl (PE.quo rfl rfl ⟨Int.natCast_nonneg _,by omega,by decide⟩) rfl ?_)))
 rw [Z3o]
 refine pur 1 rfl (sqr 3 rfl (pur 1 rfl (sp rfl (PE.add rfl rfl (by omega)) rfl (pur 1 rfl ?_))))
 exact Zc ⟨k+1,by omega,fun i hi s hs=>by
   rcases Nat.lt_or_ge i k with h1 | h1
   · exact hall i h1 s hs
   · obtain rfl:i=k:=by omega
     rw [hx] at hs
     obtain rfl:=Option.some.inj hs
     exact hk1⟩ (by dsimp only;omega) sbA (fun w h9=>h9.del b9)
 refine Zu 2 rfl ?_
 refine ldN rfl rfl rfl rfl rfl rfl rfl rfl ?_
 refine Zu 1 rfl ?_
 refine ldN rfl rfl rfl rfl rfl rfl rfl rfl ?_
 refine Zu 1 rfl ?_
 refine ldN rfl rfl rfl rfl rfl rfl rfl rfl ?_
 refine Zu 2 rfl ?_
 refine tkG rfl rfl rfl rfl (PE.neqBool ub4 rfl rfl) rfl ?_
 refine Zu 1 rfl ?_
 refine Z1 rfl ?_ ?_<;>intro hc1
 refine sqt 1 rfl (pur 1 rfl (Z5 ?_))
 exact rtA rfl rfl rfl ⟨by
   simp only [ZU]
   have he0:exS h.gaps (msk fr) x=false:=by
     rw [hex,← hwc]
     first
       | (rw [g37,Bool.true_and];cases hs9:x.seen<;>rw [hs9] at hc1<;>simp_all)
       | (rw [g37,Bool.false_and];cases hs9:x.seen<;>rw [hs9] at hc1<;>simp_all)
   rw [ZeR hx g28 he0],rfl,rfl⟩ (fun w h9=>St.sub ((h9.del b9).del b3))
 have hk1:(!(set.testBit k)||exS h.gaps (msk fr) x)=true:=by
   rw [hex,← hwc]
   first
     | (rw [g28];rfl)
     | (rw [g28,g37,Bool.true_and];cases hs9:x.seen<;>rw [hs9] at hc1<;>simp_all)
     | (rw [g28,g37,Bool.false_and];cases hs9:x.seen<;>rw [hs9] at hc1<;>simp_all)
 refine Z2 (sqr 3 rfl (pur 1 rfl (sp rfl (PE.quo rfl rfl ⟨Int.natCast_nonneg _,by omega,by decide⟩) rfl ?_)))
 rw [Z3o]
 refine pur 1 rfl (sqr 3 rfl (pur 1 rfl (sp rfl (PE.add rfl rfl (by omega)) rfl (pur 1 rfl ?_))))
 exact Zc ⟨k+1,by omega,fun i hi s hs=>by
   rcases Nat.lt_or_ge i k with h1 | h1
   · exact hall i h1 s hs
   · obtain rfl:i=k:=by omega
     rw [hx] at hs
     obtain rfl:=Option.some.inj hs
     exact hk1⟩ (by dsimp only;omega) sbA (fun w h9=>h9.del b9)
 rw [ZbS] at g28
 have hk1:(!(set.testBit k)||exS h.gaps (msk fr) x)=true:=by rw [g28];rfl
 refine Zu 1 rfl ?_
 refine ldN rfl rfl rfl rfl rfl rfl rfl rfl ?_
 refine Zu 2 rfl ?_
 refine ldN rfl rfl rfl rfl rfl rfl rfl rfl ?_
 refine Zu 1 rfl ?_
 refine ldN rfl rfl rfl rfl rfl rfl rfl rfl ?_
 refine Zu 2 rfl ?_
 repeat refine tkU rfl rfl rfl rfl rfl rfl rfl ?_
 refine ldU rfl rfl rfl rfl rfl rfl rfl ?_
 refine tkU rfl rfl rfl rfl rfl rfl rfl ?_
 refine ldU rfl rfl rfl rfl rfl rfl rfl ?_
 refine tkU rfl rfl rfl rfl rfl rfl rfl ?_
 refine ldU rfl rfl rfl rfl rfl rfl rfl ?_
 refine tkU rfl rfl rfl rfl rfl rfl rfl ?_
 refine Zu 3 rfl ?_
 refine Zz rfl ?_
 refine Z2 (sqr 3 rfl (pur 1 rfl (sp rfl (PE.quo rfl rfl ⟨Int.natCast_nonneg _,by omega,by decide⟩) rfl ?_)))
 rw [Z3o]
 refine pur 1 rfl (sqr 3 rfl (pur 1 rfl (sp rfl (PE.add rfl rfl (by omega)) rfl (pur 1 rfl ?_))))
 exact Zc ⟨k+1,by omega,fun i hi s hs=>by
   rcases Nat.lt_or_ge i k with h1 | h1
   · exact hall i h1 s hs
   · obtain rfl:i=k:=by omega
     rw [hx] at hs
     obtain rfl:=Option.some.inj hs
     exact hk1⟩ (by dsimp only;omega) sbA (fun w h9=>h9.del b9)
 have hrx:=Zgu (h:=h) (by omega) hall
 refine Z9 (Za (Za (Zm (sqt 1 rfl (pur 1 rfl (Z5 ?_))))))
 exact rtA rfl rfl rfl ⟨by simp only [ZU];rw [hrx],rfl,rfl⟩ (fun w h9=>St.sub (h9.del b3))
theorem Z4u (h:Hse) (ag as_:Option Addr) (cg cs:Nat) (hok:h.ok) (fr:List Int) (af:Option Addr) (cf:Nat) (hfr:ZM h.bins fr=0) (H:Zf) (R:Z6) [hG:MemRows ag 2 (Z7 h.gaps) R] [hS:MemRows as_ 3 (Z8 h.sights) R] [hF:MemRows af 1 (Z3 fr) R] :
    FnV Tryz.prog 59 [h.v (h.sg ag cg) (h.ss as_ cs),.slice af fr.length cf] H R (.bool (Z1D h.gaps (msk fr) h.sights)):=by
 refine Zl Tryz.func59 rfl Tryz.ntmps59 rfl ?_
 refine sqt 2 rfl ?_
 have hsl:=hok.sl
 have hp:=Nat.pow_le_pow_right (show 0<2 by decide) (show h.sights.length≤8 by omega)
 have h8:(2:Nat) ^ 8=256:=rfl
 have hpp:=Nat.two_pow_pos h.sights.length
 refine bx rfl rfl rfl (fun b2=>pur 1 rfl (Z0 ?_))
 refine Zo [0,0,0,4,12,28,60,127,255] (.ld 0 (.tk 1 (.tk 2 (.ld 3 (.tk 4 (.big 5 (.tk 6 (.big 7 (.tk 8 .done))))))))) ZF (by kernel_rfl) ?_
 refine ld rfl rfl (lhA (htl h (h.sg ag cg) (h.ss as_ cs)) Z1q rfl rfl rfl) rfl (Zu 1 rfl (tk rfl (PE.fA Z1j rfl) rfl (ld rfl rfl (lh Z7P rfl rfl) rfl (tk rfl (PE.lenSl Z7D rfl) rfl ?_))))
 refine clV rfl Z7y rfl rfl (Z2T h.sights.length (by omega) _ _) ?_
 refine bg (fun w hs=>⟨trivial,(lhA (htl h (h.sg ag cg) (h.ss as_ cs)) Z1q rfl rfl rfl) w hs,trivial⟩) ?_
 refine tk rfl (PE.sub rfl rfl (by omega)) rfl ?_
 rw [show ((2 ^ h.sights.length:Nat):Int)-1=((2 ^ h.sights.length-1:Nat):Int) by omega]
 refine clV rfl Zek rfl rfl (Zeg h ag as_ cg cs hok fr af cf hfr (2 ^ h.sights.length-1) (by omega) _ _) ?_
 refine bgT (Zu 1 rfl (Z5 ?_))
 exact rtA rfl rfl rfl ⟨by simp only [ZU];rw [Zgt],rfl,rfl⟩ (fun w h9=>h9.del b2)
set_option maxHeartbeats 600000 in
theorem Z5i (h:Hse) (ag as_:Option Addr) (cg cs:Nat) (hok:h.ok) (H:Zf) (R:Z6) [hG:MemRows ag 2 (Z7 h.gaps) R] [hS:MemRows as_ 3 (Z8 h.sights) R] :
    Fn Tryz.prog 60 [h.v (h.sg ag cg) (h.ss as_ cs)] H R (fun v H' R'=>∃ (a:Option Addr) (c:Nat),v = .slice a h.clrR.1.length c∧H'=H∧R'=RowsA a 1 (Z3 h.clrR.1)::R):=by
 refine Zl Tryz.func60 rfl Tryz.ntmps60 rfl ?_
 refine sqt 2 rfl ?_
 have hbn:=hok.bins
 have hsl:=hok.sl
 obtain ⟨B,hB⟩:∃ B:Nat,h.bins=B:=⟨h.bins.toNat,by omega⟩
 have hBt:h.bins.toNat=B:=by omega
 have hcr:=ZfP hok
 rw [hBt] at hcr
 rw [hcr]
 refine Sy.heap (fun w h9=>St.norows (sz:=1) h9) ?_
 refine bx rfl rfl rfl (fun b1=>pur 1 rfl (sqt 1 rfl (pur 1 rfl (Z0 (sqt 1 rfl (pur 1 rfl (Z4 ?_)))))))
 refine Ze (ι:=(k:{k:Nat // k≤B})×OSl 3 1 (Z3 (Z1E (fun k=>Z3u h k h.sights.length) k.1))) (fun y=>⟨[(1,.pointer (some ⟨b1,0,none⟩)),(3,y.2.fs),(4,.int .i64 (y.1.1:Int))],y.2.G++((b1,cel 57 (htl h (h.sg ag cg) (h.ss as_ cs)))::H),RowsA none 1 []::R⟩) (fun y=>B-y.1.1) ⟨⟨0,Nat.zero_le _⟩,OSl.nil _ _⟩ ?_ (fun y=>?_)
 exact Zi idH
 obtain ⟨⟨k,hk⟩,o⟩:=y
 dsimp only at hk o ⊢
 have hfl:=Z0E (fun k=>Z3u h k h.sights.length) k
 refine Z0 (sqt 4 rfl (pur 1 rfl (sp rfl (PE.fA Z0L rfl) rfl (spL rfl rfl (lh (v:=.int .i64 h.bins) sc3 rfl rfl) rfl ?_))))
 rw [hB]
 refine pur 1 rfl ?_
 refine Z1 rfl ?_ ?_<;>intro hc0<;>try simp only [cS] at hc0
 have hkl:ZM h.bins [(k:Int)]=0:=Z2B (fun x hx=>by rw [List.mem_singleton.1 hx];omega) (by simp)
 refine Z2 (Z0 (Z4 (sqt 6 rfl (spL rfl rfl (lhA (htl h (h.sg ag cg) (h.ss as_ cs)) Z1q rfl rfl rfl) rfl (pur 1 rfl ?_)))))
 refine bsl (out:=[_]) rfl Z03 zl3 rfl rfl rfl rfl rfl rfl (fun b17=>?_)
 refine Sy.heap (fun w h9=>St.rows (sz:=1) (rows:=Z3 [(k:Int)]) (rest:=[]) (h9.pull b17) (by simp)) ?_
 refine cl rfl Z7w rfl rfl (Z1X h ag as_ cg cs hok [(k:Int)] [] (some ⟨b17,0,none⟩) none 1 0 hkl (fun x hx=>by cases hx) (by decide) _ _) ?_
 rintro _ _ R1 ⟨aw,cw,rfl,rfl,hR1⟩
 obtain rfl:=hR1.symm
 clear hR1
 rw [hBt]
 refine pur 2 rfl (Z0 (sqt 1 rfl ?_))
 rw [show msk []=0 from rfl,Z68]
 refine pur 1 rfl (Z4 ?_)
 refine Ze (ι:={i:Nat // i≤h.sights.length}) (fun i=>⟨[(1,.pointer (some ⟨b1,0,none⟩)),(3,o.fs),(4,.int .i64 (k:Int)),(5,.slice aw B cw),(6,.bool (Z3u h k i.1)),(7,.int .i64 (i.1:Int))],o.G++((b1,cel 57 (htl h (h.sg ag cg) (h.ss as_ cs)))::H),RowsA aw 1 (Z3 (wkL h.gaps 0 (2 ^ k) B))::RowsA none 1 []::R⟩) (fun i=>h.sights.length-i.1) ⟨0,Nat.zero_le _⟩ ?_ (fun i=>?_)
 exact Zi (fun w h9=>h9.facts (fun g hg=>by simp only [List.mem_cons] at hg ⊢;rcases hg with h8 | h8 | h8<;>simp [h8]))
 obtain ⟨i,hi⟩:=i
 dsimp only at hi ⊢
 refine Z0 (sqt 5 rfl (pur 1 rfl (sp rfl (PE.fA Z1j rfl) rfl (spL rfl rfl (lh Z7P rfl rfl) rfl (sp rfl (PE.lenSl Z7D rfl) rfl (pur 1 rfl ?_))))))
 refine Z1 rfl ?_ ?_<;>intro hc1<;>try simp only [cS] at hc1
 obtain ⟨x,hx⟩:∃ x,h.sights[i]?=some x:=⟨_,List.getElem?_eq_getElem (by omega)⟩
 have hso:=hok.sights x (List.mem_of_getElem? hx)
 have hcs:Z3u h k (i+1)=(Z3u h k i||(!x.seen&&decide (wk h.gaps 0 (2 ^ k) x.bin.toNat≤x.week))):=Z2v hx
 have hxb:x.bin.toNat<B:=by have:=hso.2;omega
 have hgw:=Z0Z (l:=(wkL h.gaps 0 (2 ^ k) B)) (k:=x.bin.toNat) (by rw [Z14];exact hxb)
 rw [Z50 hxb] at hgw
 have hwc:=Zcg (gs:=h.gaps) (m:=(2 ^ k)) (k:=x.bin.toNat) hso.1.2
 have hgw2:(Z3 (wkL h.gaps 0 (2 ^ k) B))[x.bin.toNat]?=some [.int .i64 (wkC h.gaps 0 (2 ^ k) x.bin.toNat)]:=ZB hgw
 generalize wkC h.gaps 0 (2 ^ k) x.bin.toNat=wx at *
 refine Zh (a:=aw) (sz:=1) (rows:=Z3 (wkL h.gaps 0 (2 ^ k) B)) (by intro h0;have:=congrArg List.length h0;rw [irl,Z14] at this;simp only [List.length_nil] at this;omega) (fun bw ow hew=>?_)
 subst hew
 rw [← hwc] at hcs
 refine Zh (a:=as_) (sz:=3) (rows:=Z8 h.sights) (ne0 (by rw [ZE];omega)) (fun bs os he=>?_)
 subst he
 refine Z2 (Z0 (Z4 (sqt 7 rfl (sp rfl (PE.fA Z1j rfl) rfl (spL rfl rfl (lh Z7P rfl rfl) rfl (pur 1 rfl (sp rfl (PE.indexAddr ZgZ rfl rfl (by omega) (by omega)) rfl (spL rfl rfl (lfA Zcu (row:=ZY x) (Z2q hx) rfl) rfl (alc rfl Ze7 rfl (fun b8=>?_))))))))))
 refine ZG (l':=ZY x) rfl rfl rfl ZfQ rfl rfl rfl rfl (nl rfl) ?_
 refine Zo [0,1,3,7,15,31,63,63,191,511,1023,2047,4095,8191,16383,16383,49151,131071,262143,16383,540671,2097151,4194303,8388607,16777215] (tks 0 3 (.ld 3 (tks 4 4 (.ld 8 (.tk 9 (.ld 10 (tks 11 5 (.ld 16 (.tk 17 (.ld 18 (.tk 19 (.ld 20 (tks 21 4 .done))))))))))))) ZF (by kernel_rfl) ?_
 refine Zu 2 rfl ?_
 refine Zj 32 rfl ?_ ?_<;>intro g32
 refine Zu 1 rfl ?_
 refine ldN rfl rfl rfl rfl rfl rfl rfl rfl ?_
 refine Zu 2 rfl ?_
 repeat refine tkU rfl rfl rfl rfl rfl rfl rfl ?_
 refine ldU rfl rfl rfl rfl rfl rfl rfl ?_
 refine tkU rfl rfl rfl rfl rfl rfl rfl ?_
 refine ldU rfl rfl rfl rfl rfl rfl rfl ?_
 refine tkU rfl rfl rfl rfl rfl rfl rfl ?_
 refine Zu 2 rfl ?_
 repeat refine tkU rfl rfl rfl rfl rfl rfl rfl ?_
 refine ldU rfl rfl rfl rfl rfl rfl rfl ?_
 refine tkU rfl rfl rfl rfl rfl rfl rfl ?_
 refine ldU rfl rfl rfl rfl rfl rfl rfl ?_
 refine tkU rfl rfl rfl rfl rfl rfl rfl ?_
 refine ldU rfl rfl rfl rfl rfl rfl rfl ?_
 refine tkU rfl rfl rfl rfl rfl rfl rfl ?_
 refine Zu 3 rfl (sqr 3 rfl (pur 1 rfl (sp rfl (PE.add rfl rfl (by omega)) rfl (pur 1 rfl ?_))))
 first
   | exact absurd g44 (by decide)
   | (have hn9:Z3u h k (i+1)=true:=by rw [hcs,g32];rfl
      exact Zc ⟨i+1,by omega⟩ (by dsimp only;omega) (by rw [hn9];exact sbA) (fun w h9=>h9.del b8))
   | (have hn9:Z3u h k (i+1)=false:=by rw [hcs,g32,g36];rfl
      exact Zc ⟨i+1,by omega⟩ (by dsimp only;omega) (by rw [hn9];exact sbA) (fun w h9=>h9.del b8))
   | (have hn9:Z3u h k (i+1)=false:=by rw [hcs,g32,g36,g44];rfl
      exact Zc ⟨i+1,by omega⟩ (by dsimp only;omega) (by rw [hn9];exact sbA) (fun w h9=>h9.del b8))
   | (have hn9:Z3u h k (i+1)=decide (wx≤x.week):=by rw [hcs,g32,g36,g44];rfl
      exact Zc ⟨i+1,by omega⟩ (by dsimp only;omega) (by rw [hn9];exact sbA) (fun w h9=>h9.del b8))
 refine tkG rfl rfl rfl rfl (PE.fA Z7B rfl) rfl ?_
 refine ldG rfl rfl rfl rfl rfl (lh sc4 rfl rfl) rfl (Zu 2 rfl ?_)
 refine Zj 36 rfl ?_ ?_<;>intro g36
 refine Zu 1 rfl ?_
 refine tkG rfl rfl rfl rfl (PE.fA Z2Z rfl) rfl ?_
 refine ldG rfl rfl rfl rfl rfl (lh sc3 rfl rfl) rfl ?_
 refine tkG rfl rfl rfl rfl (PE.indexAddr Z0c rfl rfl (by omega) (by omega)) rfl ?_
 refine ldG rfl rfl rfl rfl rfl (lf0 sc3 hgw2 rfl) rfl (Zu 3 rfl ?_)
 refine Zj 44 rfl ?_ ?_<;>intro g44
 refine Zu 1 rfl ?_
 refine tkG rfl rfl rfl rfl (PE.fA Z2Z rfl) rfl ?_
 refine ldG rfl rfl rfl rfl rfl (lh sc3 rfl rfl) rfl ?_
 refine tkG rfl rfl rfl rfl (PE.indexAddr Z0c rfl rfl (by omega) (by omega)) rfl ?_
 refine ldG rfl rfl rfl rfl rfl (lf0 sc3 hgw2 rfl) rfl ?_
 refine tkG rfl rfl rfl rfl (PE.fA Z5V rfl) rfl ?_
 refine ldG rfl rfl rfl rfl rfl (lh sc3 rfl rfl) rfl (Zu 4 rfl (sqr 3 rfl (pur 1 rfl (sp rfl (PE.add rfl rfl (by omega)) rfl (pur 1 rfl ?_)))))
 first
   | exact absurd g44 (by decide)
   | (have hn9:Z3u h k (i+1)=true:=by rw [hcs,g32];rfl
      exact Zc ⟨i+1,by omega⟩ (by dsimp only;omega) (by rw [hn9];exact sbA) (fun w h9=>h9.del b8))
   | (have hn9:Z3u h k (i+1)=false:=by rw [hcs,g32,g36];rfl
      exact Zc ⟨i+1,by omega⟩ (by dsimp only;omega) (by rw [hn9];exact sbA) (fun w h9=>h9.del b8))
   | (have hn9:Z3u h k (i+1)=false:=by rw [hcs,g32,g36,g44];rfl
      exact Zc ⟨i+1,by omega⟩ (by dsimp only;omega) (by rw [hn9];exact sbA) (fun w h9=>h9.del b8))
   | (have hn9:Z3u h k (i+1)=decide (wx≤x.week):=by rw [hcs,g32,g36,g44];rfl
      exact Zc ⟨i+1,by omega⟩ (by dsimp only;omega) (by rw [hn9];exact sbA) (fun w h9=>h9.del b8))
 refine Zu 2 rfl ?_
 refine ldN rfl rfl rfl rfl rfl rfl rfl rfl ?_
 refine Zu 1 rfl ?_
 refine ldN rfl rfl rfl rfl rfl rfl rfl rfl ?_
 refine Zu 1 rfl ?_
 refine ldN rfl rfl rfl rfl rfl rfl rfl rfl ?_
 refine Zu 4 rfl (sqr 3 rfl (pur 1 rfl (sp rfl (PE.add rfl rfl (by omega)) rfl (pur 1 rfl ?_))))
 first
   | exact absurd g44 (by decide)
   | (have hn9:Z3u h k (i+1)=true:=by rw [hcs,g32];rfl
      exact Zc ⟨i+1,by omega⟩ (by dsimp only;omega) (by rw [hn9];exact sbA) (fun w h9=>h9.del b8))
   | (have hn9:Z3u h k (i+1)=false:=by rw [hcs,g32,g36];rfl
      exact Zc ⟨i+1,by omega⟩ (by dsimp only;omega) (by rw [hn9];exact sbA) (fun w h9=>h9.del b8))
   | (have hn9:Z3u h k (i+1)=false:=by rw [hcs,g32,g36,g44];rfl
      exact Zc ⟨i+1,by omega⟩ (by dsimp only;omega) (by rw [hn9];exact sbA) (fun w h9=>h9.del b8))
   | (have hn9:Z3u h k (i+1)=decide (wx≤x.week):=by rw [hcs,g32,g36,g44];rfl
      exact Zc ⟨i+1,by omega⟩ (by dsimp only;omega) (by rw [hn9];exact sbA) (fun w h9=>h9.del b8))
 refine Zu 2 rfl ?_
 refine ldN rfl rfl rfl rfl rfl rfl rfl rfl ?_
 refine Zu 1 rfl ?_
 refine ldN rfl rfl rfl rfl rfl rfl rfl rfl ?_
 refine Zu 5 rfl ?_
 refine ldN rfl rfl rfl rfl rfl rfl rfl rfl ?_
 refine Zu 1 rfl ?_
 refine ldN rfl rfl rfl rfl rfl rfl rfl rfl ?_
 refine Zu 1 rfl ?_
 refine ldN rfl rfl rfl rfl rfl rfl rfl rfl ?_
 refine Zu 4 rfl (sqr 3 rfl (pur 1 rfl (sp rfl (PE.add rfl rfl (by omega)) rfl (pur 1 rfl ?_))))
 first
   | exact absurd g44 (by decide)
   | (have hn9:Z3u h k (i+1)=true:=by rw [hcs,g32];rfl
      exact Zc ⟨i+1,by omega⟩ (by dsimp only;omega) (by rw [hn9];exact sbA) (fun w h9=>h9.del b8))
   | (have hn9:Z3u h k (i+1)=false:=by rw [hcs,g32,g36];rfl
      exact Zc ⟨i+1,by omega⟩ (by dsimp only;omega) (by rw [hn9];exact sbA) (fun w h9=>h9.del b8))
   | (have hn9:Z3u h k (i+1)=false:=by rw [hcs,g32,g36,g44];rfl
      exact Zc ⟨i+1,by omega⟩ (by dsimp only;omega) (by rw [hn9];exact sbA) (fun w h9=>h9.del b8))
   | (have hn9:Z3u h k (i+1)=decide (wx≤x.week):=by rw [hcs,g32,g36,g44];rfl
      exact Zc ⟨i+1,by omega⟩ (by dsimp only;omega) (by rw [hn9];exact sbA) (fun w h9=>h9.del b8))
 obtain rfl:i=h.sights.length:=by omega
 refine Z9 (Za (Za (Zm (sqt 1 rfl (pur 1 rfl ?_)))))
 refine Z1 rfl ?_ ?_<;>intro hc2
 refine sqr 5 rfl (pur 2 rfl ?_)
 refine bsl (out:=[_]) rfl Z03 zl3 rfl rfl rfl rfl rfl rfl (fun b58=>?_)
 refine apO (o) rfl Z1v rfl rfl (Z02 (row:=[.int .i64 (k:Int)]) rfl) rfl rfl ((by rw [irl];simp only [List.length_singleton];omega)) rfl (fun o59=>?_)
 refine pur 1 rfl (sqr 3 rfl (pur 1 rfl (sp rfl (PE.add rfl rfl (by omega)) rfl (pur 1 rfl ?_))))
 first
   | exact Zd ⟨⟨k+1,by omega⟩,o59.cast (by rw [Z0P (p:=fun k=>Z3u h k h.sights.length) hc2];simp [Z3])⟩ (by dsimp only;omega) (fun w h=>(h.del b58).facts (fun g hg=>by simp only [List.mem_cons] at hg ⊢;rcases hg with h8 | h8<;>simp [h8]))
   | exact Zd ⟨⟨k+1,by omega⟩,o.cast (by rw [Z0g (p:=fun k=>Z3u h k h.sights.length) hc2])⟩ (by dsimp only;omega) (fun w h=>h.facts (fun g hg=>by simp only [List.mem_cons] at hg ⊢;rcases hg with h8 | h8<;>simp [h8]))
 refine Z2 (sqr 3 rfl (pur 1 rfl (sp rfl (PE.add rfl rfl (by omega)) rfl (pur 1 rfl ?_))))
 first
   | exact Zd ⟨⟨k+1,by omega⟩,o59.cast (by rw [Z0P (p:=fun k=>Z3u h k h.sights.length) hc2];simp [Z3])⟩ (by dsimp only;omega) (fun w h=>(h.del b58).facts (fun g hg=>by simp only [List.mem_cons] at hg ⊢;rcases hg with h8 | h8<;>simp [h8]))
   | exact Zd ⟨⟨k+1,by omega⟩,o.cast (by rw [Z0g (p:=fun k=>Z3u h k h.sights.length) hc2])⟩ (by dsimp only;omega) (fun w h=>h.facts (fun g hg=>by simp only [List.mem_cons] at hg ⊢;rcases hg with h8 | h8<;>simp [h8]))
 obtain rfl:k=B:=by omega
 obtain ⟨ac,cc,he,hcc,hzz⟩:=o.freezeC
 rw [irl] at hcc
 rw [he,irl]
 refine Sy.heap (H':=_) (fun w h9=>hzz h9) ?_
 clear he hzz
 refine Z9 (Za (Za (Zm (sqt 2 rfl (pur 2 rfl (Z5 ?_))))))
 exact rtA rfl rfl rfl ⟨ac,cc,rfl,rfl,rfl⟩ (fun w h9=>(h9.del b1).facts (fun g hg=>by simp only [List.mem_cons] at hg ⊢;rcases hg with h8 | h8<;>simp [h8]))
theorem pB9 {α:Type} (b:α) (X Y Z:List α):(b::(Y++(X++Z))).Perm (Y++(X++(b::Z))):=by
 rw [← List.append_assoc,← List.append_assoc];exact List.perm_middle.symm
theorem pA9 {α:Type} (b:α) (X Y Z:List α):(b::(X++(Y++Z))).Perm (Y++(X++(b::Z))):=((List.perm_append_comm_assoc X Y Z).cons b).trans (pB9 b X Y Z)
theorem Zko {P:Program} {r:Option Nat} {ops:Array Oper} {n:Nat} {L:Zv} {D:List Deferred} {H:Zf} {R:Z6} {K:Act→World→Prop} {i:Nat} {ty:TypeId} {pos:String} {af:Array Edge}
   {T e s:Nat} {x:Operand} {rows:List (List Value)} {z:List Value} {dd:Option Nat} (o:OSl e s rows) (ho:ops[i]?=some ⟨dd,.call { callee:=.builtin .clear,args := #[x],argTypes := #[T] },ty,pos,af,none⟩) (hdd:dd=none) (hT:slE P T=some (e,s))
   (hz:Z09 P e=some z) (hzs:z.length=s) (hz1:z.all (·.oneCell')=true) (hx:ev L x=some o.fs) (h:Sy n L D H R K):Sy n L D (o.G++H) R (stp P r ops i K):=by
 obtain ⟨fs,G,hl,his⟩:=o
 rcases his with ⟨h1,h2,h3⟩ | ⟨b,cap,junk,h2,h3,h4,h5,h6⟩
 · dsimp only at hx ⊢
   rw [h3]
   rw [h2] at hx
   exact ZkC ho hdd hT hx h
 · dsimp only at hx ⊢
   rw [h3]
   rw [h2] at hx
   show Sy n L D ((b,cel e (rows.flatten++junk))::H) R _
   refine ZkD ho hdd hT hz hzs hz1 hx ?_ (Sy.heap (fun w h9=>h9.del b) h)
   rw [List.length_append,ZX hl]
   exact Nat.le_add_right _ _
theorem ZbH (n:Nat) (a b:Value):(Z0q n [a,b]).length=n*2:=by simp [Z0q]
theorem Z9e (l:List Gp) (o:OSl 34 2 (Z7 l)) (hl:l.length≤1000000) (i:Nat) (hi:i<l.length) (H:Zf) (R:Z6) :
    Fn Tryz.prog 114 [o.fs,.int .i64 i,.int .i64 ((i+1:Nat):Int)] (o.G++H) R (fun v H' R'=>∃ o':OSl 34 2 (Z7 (l.eraseIdx i)),v=o'.fs∧H'=o'.G++H∧R'=R):=by
 have hgl9:(Z7 l).length=l.length:=ZJ l
 obtain ⟨b,cap,junk,hfs,hG,hj,hcap,hmx⟩:=o.is.resolve_left (fun h=>by have:=congrArg List.length h.1;rw [hgl9] at this;simp only [List.length_nil] at this;omega)
 rw [hgl9] at hfs hcap hj
 rw [hfs,hG]
 refine Zl Tryz.func114 rfl Tryz.ntmps114 rfl ?_
 refine sqt 1 rfl ?_
 refine Sy.heap (H':=(b,cel 34 ((Z7 l).flatten++junk))::H) idH ?_
 refine pur 1 rfl (sqt 6 rfl (pur 4 rfl (sp rfl (PE.lenSl Z1s rfl) rfl (sp rfl (PE.slLHM Z7U rfl rfl rfl rfl (by omega) (by omega) (by omega)) rfl (Z0 (sqt 3 rfl (pur 3 rfl ?_)))))))
 refine Z1 rfl ?_ ?_<;>intro hc0
 exact absurd hc0 (by simp;omega)
 refine Z2 (sqt 3 rfl (pur 1 rfl (sp rfl (PE.lenSl Z1s rfl) rfl (pur 1 rfl (Z0 ?_)))))
 refine Zo [0,0,3,0,0,24,63,127] (tks 0 6 (.big 6 (.tk 7 .done))) ZF (by kernel_rfl) ?_
 refine Zu 2 rfl (tk rfl (PE.slHi Z7U rfl rfl (by omega)) rfl (Zu 2 rfl (tk rfl (PE.slLoA Z7U rfl rfl (by omega)) rfl ?_)))
 obtain ⟨ax,hax,hsrc⟩:∃ ax:Addr,(if cap=i+1 then some (⟨b,0,none⟩:Addr) else (some (⟨b,0,none⟩:Addr)).map (·.add ((i+1)*2)))=some ax∧∀ j v,(((Z7 l).drop (i+1)).flatten)[j]?=some v→ax.add j=⟨b,(i+1)*2+j,none⟩:=by
   by_cases h9:cap=i+1
   · refine ⟨_,if_pos h9,fun j v hj=>?_⟩
     have:=(List.getElem?_eq_some_iff.1 hj).1
     rw [Z0y,Z12,List.length_drop] at this;omega
   · exact ⟨_,if_neg h9,fun j v hj=>by show ((⟨b,0,none⟩:Addr).add ((i+1)*2)).add j=_;rw [Z00,Z00];simp⟩
 rw [hax]
 refine apI (((Z7 l).drop (i+1)).flatten) rfl Z7U rfl rfl (by rw [Z0y,Z12,List.length_drop]) (fun w hs j v hj=>by rw [hsrc j v hj,Z20 (hs.held (b,cel 34 ((Z7 l).flatten++junk)) (by simp))];simpa using ZbG (junk:=junk) (Z2N l) (by rw [ZJ];omega) hj) (by rw [Z0y];exact Zbb _) (by omega) (by rw [Z0y,Z12,List.length_drop,List.length_append,Z12];omega) rfl ?_
 rw [Z5x (Z2N l) (by rw [ZJ];exact hi),ZJ,Z4F,show i+(l.length-(i+1))=l.length-1 from by omega]
 obtain ⟨jk,hjk⟩:∃ jk,jk=((Z7 l).flatten++junk).drop ((l.length-1)*2):=⟨_,rfl⟩
 rw [← hjk]
 have hel:(l.eraseIdx i).length=l.length-1:=List.length_eraseIdx_of_lt hi
 refine bgT (Zu 1 rfl (sqt 6 rfl (pur 2 rfl (sp rfl (PE.lenSl Z1s rfl) rfl (pur 1 rfl (sp rfl (PE.slLH Z7U rfl rfl rfl (by omega) (by omega) (by omega)) rfl ?_))))))
 refine Zkn rfl rfl Z7U Z51 rfl rfl rfl (by rw [hjk,List.length_append,Z12,List.length_drop,List.length_append,Z12];omega) ?_
 rw [ZgG (by rw [Z12,hel];omega)]
 obtain ⟨jk2,hjk2⟩:∃ jk2,jk2=(Z0q (l.length-(l.length-1)) [Value.int .i64 0,.int .i64 0]++jk.drop (Z0q (l.length-(l.length-1)) [Value.int .i64 0,.int .i64 0]).length):=⟨_,rfl⟩
 rw [← hjk2]
 refine sqt 2 rfl (pur 2 rfl (Z5 ?_))
 rw [← hel]
 exact rtA rfl rfl rfl ⟨ZeL b cap (l.eraseIdx i).length jk2 (Z2N _) (ZJ _).symm (by rw [ZJ,hel,hjk2,List.length_append,ZbH,List.length_drop,hjk,List.length_drop,List.length_append,Z12];omega) (by rw [ZJ];omega) hmx,rfl,rfl,rfl⟩ (fun w h9=>h9)
set_option maxHeartbeats 400000 in
theorem ZcD (h:Hse) (ag as_:Option Addr) (cg cs:Nat) (hlg:h.gaps.length≤1000000) (hls:h.sights.length≤1000000) (n:Int) (H:Zf) (R:Z6) [hG:MemRows ag 2 (Z7 h.gaps) R] [hS:MemRows as_ 3 (Z8 h.sights) R] :
    Fn Tryz.prog 64 [h.v (h.sg ag cg) (h.ss as_ cs),.int .i64 n] H R (fun v H' R'=>∃ (og:OSl 34 2 (Z7 (h.cloH n).gaps)) (os:OSl 30 3 (Z8 (h.cloH n).sights)),v = .tuple #[(h.cloH n).v og.fs os.fs,.int .i64 (h.cloE n)]∧H'=os.G++(og.G++H)∧R'=R):=by
 refine Zl Tryz.func64 rfl Tryz.ntmps64 rfl ?_
 refine sqt 3 rfl (bx rfl rfl rfl (fun b2=>alc rfl Z0V rfl (fun b4=>pur 1 rfl (Z0 (sqt 3 rfl (spL rfl rfl (lhA (htl h (h.sg ag cg) (h.ss as_ cs)) ZA rfl rfl rfl) rfl ?_))))))
 refine clV rfl Z1N rfl rfl (Z0a h ag as_ cg cs (by omega) (by omega) _ _) ?_
 refine pur 1 rfl (sqt 2 rfl (pur 2 rfl ?_))
 refine Z1 rfl ?_ ?_<;>intro hc0
 have hck:h.check≠0:=of_decide_eq_true hc0
 obtain ⟨e1,e2⟩:=ZaJ (n:=n) hck
 refine sqt 4 rfl (sp rfl (PE.build (out:=htl ⟨0,[],[]⟩ (.slice none 0 0) (.slice none 0 0)) Z3J Z0V rfl rfl) rfl (pur 1 rfl ?_))
 refine ZG (l':=htl ⟨0,[],[]⟩ (.slice none 0 0) (.slice none 0 0)) rfl rfl rfl Z1i rfl rfl rfl rfl (nl rfl) ?_
 refine pur 1 rfl (Z5 ?_)
 rw [e1,e2]
 exact Zn (vs:=[_,_]) rfl (.cons (RV.cell rfl (lhA [_,_,_] ZA rfl rfl rfl)) (.cons (RV.tmp rfl) .nil)) rfl ⟨OSl.nil _ _,OSl.nil _ _,rfl,rfl,rfl⟩ (fun w h9=>((h9.del b4).del b2))
 have hck:h.check=0:=Classical.byContradiction fun e=>by rw [decide_eq_true e] at hc0;cases hc0
 have hok:=hse_ok.1 hck
 have hgl:=hok.gl
 refine Z2 (Z0 (sqt 4 rfl (spL rfl rfl (lhA (htl h (h.sg ag cg) (h.ss as_ cs)) ZA rfl rfl rfl) rfl (pur 1 rfl ?_))))
 refine clV rfl ZaD rfl rfl (Zaj h (by omega) ag cg (h.ss as_ cs) n _ _) ?_
 refine pur 1 rfl ?_
 refine Z1 rfl ?_ ?_<;>intro hc1
 try simp only [cS] at hc1
 obtain ⟨e1,e2⟩:=Z7z (n:=n) hck (by rw [hc1]<;>rfl)
 refine sqt 3 rfl (sp rfl (PE.build (out:=htl ⟨0,[],[]⟩ (.slice none 0 0) (.slice none 0 0)) Z3J Z0V rfl rfl) rfl ?_)
 refine ZG (l':=htl ⟨0,[],[]⟩ (.slice none 0 0) (.slice none 0 0)) rfl rfl rfl Z1i rfl rfl rfl rfl (nl rfl) ?_
 refine pur 1 rfl (Z5 ?_)
 rw [e1,e2]
 exact Zn (vs:=[_,_]) rfl (.cons (RV.cell rfl (lhA [_,_,_] ZA rfl rfl rfl)) (.cons (RV.tmp rfl) .nil)) rfl ⟨OSl.nil _ _,OSl.nil _ _,rfl,rfl,rfl⟩ (fun w h9=>((h9.del b4).del b2))
 obtain ⟨e1,e2⟩:=ZaK (n:=n) hck hc1
 have hnr:0≤n∧n<h.gaps.length:=by
   simp only [inB,Bool.not_eq_false',Bool.and_eq_true,decide_eq_true_eq] at hc1;omega
 obtain ⟨i,rfl⟩:∃ i:Nat,n=i:=⟨n.toNat,by omega⟩
 rw [Int.toNat_natCast] at e2
 refine Z2 (Z0 ?_)
 refine Zo [0,1,0,4,12,0,0,64,252,0,512,2044,4095,8191,16383] (.tk 0 (.ld 1 (.tk 2 (.ld 3 (tks 5 3 (.tk 9 (.ld 10 (.big 4 (.big 8 (.big 11 (.tk 12 (.big 13 (.tk 14 .done))))))))))))) ZF (by kernel_rfl) ?_
 refine tk rfl (PE.fA Z0h rfl) rfl (ld rfl rfl (lh sc3 rfl rfl) rfl (tk rfl (PE.fA ZT rfl) rfl (ld rfl rfl (lh Z2g rfl rfl) rfl (Zu 2 rfl (tk rfl (PE.add rfl rfl (by omega)) rfl (tk rfl (PE.fA ZN rfl) rfl (ld rfl rfl (lh Z1L rfl rfl) rfl ?_)))))))
 refine cl rfl Z5j rfl rfl (Z0N h.gaps ag cg (by omega) _ _) ?_
 rintro _ _ R1 ⟨og,rfl,rfl,hR1,_⟩
 obtain rfl:=hR1.symm
 clear hR1
 refine bg (fun w hs=>⟨(lh Z1L rfl rfl) w hs,trivial,(lh sc3 rfl rfl) w hs,trivial⟩) ?_
 rw [show (i:Int)+1=((i+1:Nat):Int) by omega]
 refine cl rfl Zhw rfl rfl (Z9e h.gaps og (by omega) i (by omega) _ _) ?_
 rintro _ _ R1 ⟨og2,rfl,rfl,hR1⟩
 obtain rfl:=hR1.symm
 clear hR1
 refine bg (fun w hs=>⟨(lh Z1L rfl rfl) w hs,(lh sc3 rfl rfl) w hs,trivial⟩) ?_
 refine cl rfl Zhx rfl rfl (Z7p h.sights as_ cs (by omega) _ _) ?_
 rintro _ _ R1 ⟨os,rfl,rfl,hR1⟩
 obtain rfl:=hR1.symm
 clear hR1
 refine bg (fun w hs=>⟨trivial,(lh sc3 rfl rfl) w hs,trivial⟩) ?_
 refine tk rfl (PE.build (out:=htl ⟨h.bins,h.gaps.eraseIdx i,h.sights⟩ og2.fs os.fs) Z3J Z0V rfl (by simp only [Z2f,og2.cells.1,os.cells.1,List.getElem?_cons_zero,List.getElem?_cons_succ];rfl)) rfl ?_
 refine ZG (l':=htl ⟨h.bins,h.gaps.eraseIdx i,h.sights⟩ og2.fs os.fs) rfl rfl rfl Z1i rfl rfl (by show (htl _ og2.fs os.fs).all (·.oneCell')=true;simp only [htl,List.all_cons,List.all_nil,og2.cells.2,os.cells.2,Bool.and_true];rfl) rfl (nl rfl) ?_
 refine bgT (Zu 1 rfl (Z5 ?_))
 rw [e1,e2]
 exact Zn (vs:=[_,_]) rfl (.cons (RV.cell rfl (lhA [_,_,_] ZA rfl rfl rfl)) (.cons (RV.tmp rfl) .nil)) rfl ⟨og2,os,rfl,rfl,rfl⟩ (fun w h9=>((h9.del b4).del b2))
set_option maxHeartbeats 600000 in
theorem Zhd (h:Hse) (ag as_:Option Addr) (cg cs:Nat) (hlg:h.gaps.length≤1000000) (hls:h.sights.length≤1000000) (s:Sgt) (H:Zf) (R:Z6) [hG:MemRows ag 2 (Z7 h.gaps) R] [hS:MemRows as_ 3 (Z8 h.sights) R] :
    Fn Tryz.prog 63 [h.v (h.sg ag cg) (h.ss as_ cs),.agg (ZY s).toArray] H R (fun v H' R'=>∃ (og:OSl 34 2 (Z7 (h.seeH s).gaps)) (os:OSl 30 3 (Z8 (h.seeH s).sights)),v = .tuple #[(h.seeH s).v og.fs os.fs,.int .i64 (h.seeE s)]∧H'=os.G++(og.G++H)∧R'=R):=by
 refine Zl Tryz.func63 rfl Tryz.ntmps63 rfl ?_
 refine sqt 4 rfl (bx rfl rfl rfl (fun b2=>bx rfl rfl rfl (fun b3=>alc rfl Z0V rfl (fun b4=>pur 1 rfl (Z0 (sqt 3 rfl (spL rfl rfl (lhA (htl h (h.sg ag cg) (h.ss as_ cs)) ZA rfl rfl rfl) rfl ?_)))))))
 refine clV rfl Z1N rfl rfl (Z0a h ag as_ cg cs (by omega) (by omega) _ _) ?_
 refine pur 1 rfl (sqt 2 rfl (pur 2 rfl ?_))
 refine Z1 rfl ?_ ?_<;>intro hc0
 have h0:h.check≠0:=of_decide_eq_true hc0
 have he:=ZbP (s:=s) h0
 refine sqt 4 rfl (sp rfl (PE.build (out:=htl ⟨0,[],[]⟩ (.slice none 0 0) (.slice none 0 0)) Z3J Z0V rfl rfl) rfl (pur 1 rfl ?_))
 refine ZG (l':=htl ⟨0,[],[]⟩ (.slice none 0 0) (.slice none 0 0)) rfl rfl rfl Z1i rfl rfl rfl rfl (nl rfl) ?_
 refine pur 1 rfl (Z5 ?_)
 rw [Z1S he h0,he]
 exact Zn (vs:=[_,_]) rfl (.cons (RV.cell rfl (lhA [_,_,_] ZA rfl rfl rfl)) (.cons (RV.tmp rfl) .nil)) rfl ⟨OSl.nil _ _,OSl.nil _ _,rfl,rfl,rfl⟩ (fun w h9=>(((h9.del b4).del b3).del b2))
 have hck:h.check=0:=Classical.byContradiction fun e=>by rw [decide_eq_true e] at hc0;cases hc0
 have hok:=hse_ok.1 hck
 have hgl:=hok.gl
 have hsl:=hok.sl
 refine Z2 (Z0 (sqt 4 rfl (sp rfl (PE.fA ZN rfl) rfl (spL rfl rfl (lh Z1L rfl rfl) rfl (sp rfl (PE.lenSl Z2l rfl) rfl (pur 1 rfl ?_))))))
 refine Z1 rfl ?_ ?_<;>intro hc1<;>try simp only [cS] at hc1
 have h0:(9:Int)≠0:=by decide
 have he:=Z74 (s:=s) hck (by omega)
 refine sqt 3 rfl (sp rfl (PE.build (out:=htl ⟨0,[],[]⟩ (.slice none 0 0) (.slice none 0 0)) Z3J Z0V rfl rfl) rfl ?_)
 refine ZG (l':=htl ⟨0,[],[]⟩ (.slice none 0 0) (.slice none 0 0)) rfl rfl rfl Z1i rfl rfl rfl rfl (nl rfl) ?_
 refine pur 1 rfl (Z5 ?_)
 rw [Z1S he h0,he]
 exact Zn (vs:=[_,_]) rfl (.cons (RV.cell rfl (lhA [_,_,_] ZA rfl rfl rfl)) (.cons (RV.tmp rfl) .nil)) rfl ⟨OSl.nil _ _,OSl.nil _ _,rfl,rfl,rfl⟩ (fun w h9=>(((h9.del b4).del b3).del b2))
 have hgo:=ZbQ (s:=s) hck (by omega)
 refine Z2 (sqt 9 rfl (sp rfl (PE.fA ZN rfl) rfl (spL rfl rfl (lh Z1L rfl rfl) rfl (sp rfl (PE.lenSl Z2l rfl) rfl (sp rfl (PE.fA ZN rfl) rfl (spL rfl rfl (lh Z1L rfl rfl) rfl (sp rfl (PE.lenSl Z2l rfl) rfl (sp rfl (PE.add rfl rfl (by omega)) rfl ?_))))))))
 rw [show ((h.sights.length:Int)+1)=((h.sights.length+1:Nat):Int) from by omega]
 refine mkS rfl Z7e Z41 rfl rfl (by omega) ⟨by omega,by omega⟩ rfl (fun b28=>?_)
 refine pur 1 rfl (sqt 4 rfl (pur 1 rfl (sp rfl (PE.fA ZN rfl) rfl (spL rfl rfl (lh Z1L rfl rfl) rfl ?_))))
 refine ZkJ (rows:=Z8 h.sights) rfl Z7j rfl (by rw [ZE];rfl) (Z3r _) (by rw [ZE];omega) (ZgI _) (by rw [Zc1,Z6Z];omega) rfl ?_
 rw [ZbX]
 obtain ⟨junk,hjk⟩:∃ junk,junk=(Z0q (h.sights.length+1) [Value.int .i64 0,.int .i64 0,.bool false]).drop (h.sights.length*3):=⟨_,rfl⟩
 rw [← hjk]
 obtain ⟨o28,ho1,ho2⟩:∃ o:OSl 30 3 (Z8 h.sights),o.fs = .slice (some ⟨b28,0,none⟩) h.sights.length (h.sights.length+1)∧o.G=[(b28,cel 30 ((Z8 h.sights).flatten++junk))]:=⟨ZeL b28 (h.sights.length+1) h.sights.length junk (Z3r _) (ZE _).symm (by rw [ZE,hjk,List.length_drop,Z6Z];omega) (by rw [ZE];omega) (by omega),rfl,rfl⟩
 rw [← ho1]
 refine Sy.heap (H':=o28.G++_) (fun w h9=>by rw [ho2];exact h9) ?_
 clear ho1 ho2 hjk
 refine Z0 ?_
 refine Zo [0,1,0,4,12,0,0,64,252,511,0,2047] (.tk 0 (.ld 1 (.tk 2 (.ld 3 (.tk 5 (.ld 6 (.any (.alt 4 (.any (.alt 7 (.any (.alt 8 (.tk 9 (.big 10 (.big 11 .done))) (.alt 10 (.big 8 (.tk 9 (.big 11 .done))) .stop))) (.alt 10 (.big 7 (.big 8 (.tk 9 (.big 11 .done)))) .stop))) (.alt 7 (.any (.alt 4 (.any (.alt 8 (.tk 9 (.big 10 (.big 11 .done))) (.alt 10 (.big 8 (.tk 9 (.big 11 .done))) .stop))) (.alt 10 (.big 4 (.big 8 (.tk 9 (.big 11 .done)))) .stop))) (.alt 10 (.any (.alt 4 (.big 7 (.big 8 (.tk 9 (.big 11 .done)))) (.alt 7 (.big 4 (.big 8 (.tk 9 (.big 11 .done)))) .stop))) .stop)))))))))) ZF (by kernel_rfl) ?_
 refine tk rfl (PE.fA Z0h rfl) rfl (ld rfl rfl (lh sc3 rfl rfl) rfl (tk rfl (PE.fA ZT rfl) rfl (ld rfl rfl (lh Z2g rfl rfl) rfl (Zu 1 rfl (ld rfl rfl (lhA (ZY s) Z6r rfl rfl rfl) rfl ?_)))))
 refine Z0u ?_ ?_
 refine cl rfl Z5j rfl rfl (Z0N h.gaps ag cg (by omega) _ _) ?_
 rintro _ _ R1 ⟨og,rfl,rfl,hR1,_⟩
 obtain rfl:=hR1.symm
 clear hR1
 refine bg (fun w hs=>⟨(lhA (ZY s) Z6r rfl rfl rfl) w hs,trivial,(lh sc3 rfl rfl) w hs,trivial⟩) ?_
 refine Z0u ?_ ?_
 refine bsl (out:=[_,_,_]) rfl Z7j Z41 rfl rfl rfl rfl rfl rfl (fun b40=>?_)
 refine bg (fun w hs=>⟨trivial,(lh sc3 rfl rfl) w hs,trivial⟩) ?_
 refine Z0u ?_ ?_
 refine apO (o28) rfl Z7e rfl rfl (Z02 (row:=ZY s) rfl) rfl rfl ((by rw [ZE];simp only [List.length_singleton];omega)) rfl (fun o41=>?_)
 refine bg (fun w hs=>⟨(lh sc3 rfl rfl) w hs,trivial⟩) ?_
 refine tk rfl (PE.build (out:=htl (h.add s) og.fs o41.fs) Z3J Z0V rfl (by simp only [Z2f,og.cells.1,o41.cells.1,List.getElem?_cons_zero,List.getElem?_cons_succ];rfl)) rfl ?_
 refine alc rfl Z0V rfl (fun b8=>?_)
 refine bg (fun w hs=>⟨(lh sc3 rfl rfl) w hs,trivial⟩) ?_
 refine ZG (l':=htl (h.add s) og.fs o41.fs) rfl rfl rfl Z1i rfl rfl (by show (htl _ og.fs o41.fs).all (·.oneCell')=true;simp only [htl,List.all_cons,List.all_nil,og.cells.2,o41.cells.2,Bool.and_true];rfl) rfl (nl rfl) ?_
 refine bgT (Z0 (sqt 3 rfl ?_))
 obtain ⟨oS,hoS⟩:∃ oS:OSl 30 3 (Z8 (h.add s).sights),oS=o41.cast (show Z8 h.sights++[ZY s]=Z8 (h.add s).sights from by unfold Hse.add;rw [Z2Q];rfl):=⟨_,rfl⟩
 have hSf:o41.fs=oS.fs:=by rw [hoS];rfl
 have hSG:o41.G=oS.G:=by rw [hoS];rfl
 rw [hSf]
 refine Sy.heap (fun w h9=>h9.del b40) ?_
 refine Z0p b8 ?_
 first
   | refine Sy.heap (H':=oS.G++(og.G++(_::_))) (fun w h9=>by rw [← hSG];exact h9.perm (pA9 _ og.G o41.G _)) ?_
   | refine Sy.heap (H':=oS.G++(og.G++(_::_))) (fun w h9=>by rw [← hSG];exact h9.perm (pB9 _ og.G o41.G _)) ?_
 refine spL rfl rfl (lhA (htl (h.add s) og.fs oS.fs) ZA rfl rfl rfl) rfl ?_
 refine clV rfl Z1N rfl rfl (FnV.lendO oS (fun v=>[(h.add s).v og.fs v]) (fun ay cy _=>by rw [ZE];exact FnV.lendO og (fun v=>[(h.add s).v v (.slice ay (h.add s).sights.length cy)]) (fun ax cx _=>by rw [ZJ];exact Z0a (h.add s) ax ay cx cy (by show h.gaps.length≤_;omega) (by unfold Hse.add;simp only [List.length_append,List.length_singleton];omega) _ _))) ?_
 refine pur 1 rfl (sqt 2 rfl (pur 2 rfl ?_))
 refine Z1 rfl ?_ ?_<;>intro hc2
 have h0:(h.add s).check≠0:=of_decide_eq_true hc2
 have he:=hgo
 refine sqt 4 rfl (sp rfl (PE.build (out:=htl ⟨0,[],[]⟩ (.slice none 0 0) (.slice none 0 0)) Z3J Z0V rfl rfl) rfl (pur 1 rfl ?_))
 refine ZG (l':=htl ⟨0,[],[]⟩ (.slice none 0 0) (.slice none 0 0)) rfl rfl rfl Z1i rfl rfl rfl rfl (nl rfl) ?_
 refine pur 1 rfl (Z5 ?_)
 rw [Z1S he h0,he]
 exact Zn (vs:=[_,_]) rfl (.cons (RV.cell rfl (lhA [_,_,_] ZA rfl rfl rfl)) (.cons (RV.tmp rfl) .nil)) rfl ⟨OSl.nil _ _,OSl.nil _ _,rfl,rfl,rfl⟩ (fun w h9=>(((St.drop (G:=og.G) (St.drop (G:=oS.G) h9)).del b8).del b4 |>.del b3 |>.del b2))
 have h0:(h.add s).check=0:=Classical.byContradiction fun e=>by rw [decide_eq_true e] at hc2;cases hc2
 have he:=hgo.trans h0
 refine Z2 (sqt 3 rfl (spL rfl rfl (lhA (htl (h.add s) og.fs oS.fs) ZA rfl rfl rfl) rfl ?_))
 refine ZG (l':=htl (h.add s) og.fs oS.fs) rfl rfl rfl Z1i rfl rfl (by show (htl _ og.fs oS.fs).all (·.oneCell')=true;simp only [htl,List.all_cons,List.all_nil,og.cells.2,oS.cells.2,Bool.and_true];rfl) rfl (nl rfl) ?_
 refine pur 1 rfl (Z5 ?_)
 rw [Z2a he,he]
 exact Zn (vs:=[_,_]) rfl (.cons (RV.cell rfl (lhA [_,_,_] ZA rfl rfl rfl)) (.cons (RV.tmp rfl) .nil)) rfl ⟨og,oS,rfl,rfl,rfl⟩ (fun w h9=>(h9.del b8).del b4 |>.del b3 |>.del b2)
 refine Z0u ?_ ?_
 refine alc rfl Z0V rfl (fun b8=>?_)
 refine bg (fun w hs=>⟨(lh sc3 rfl rfl) w hs,trivial⟩) ?_
 refine apO (o28) rfl Z7e rfl rfl (Z02 (row:=ZY s) rfl) rfl rfl ((by rw [ZE];simp only [List.length_singleton];omega)) rfl (fun o41=>?_)
 refine bg (fun w hs=>⟨(lh sc3 rfl rfl) w hs,trivial⟩) ?_
 refine tk rfl (PE.build (out:=htl (h.add s) og.fs o41.fs) Z3J Z0V rfl (by simp only [Z2f,og.cells.1,o41.cells.1,List.getElem?_cons_zero,List.getElem?_cons_succ];rfl)) rfl ?_
 refine ZG (l':=htl (h.add s) og.fs o41.fs) rfl rfl rfl Z1i rfl rfl (by show (htl _ og.fs o41.fs).all (·.oneCell')=true;simp only [htl,List.all_cons,List.all_nil,og.cells.2,o41.cells.2,Bool.and_true];rfl) rfl (nl rfl) ?_
 refine bgT (Z0 (sqt 3 rfl ?_))
 obtain ⟨oS,hoS⟩:∃ oS:OSl 30 3 (Z8 (h.add s).sights),oS=o41.cast (show Z8 h.sights++[ZY s]=Z8 (h.add s).sights from by unfold Hse.add;rw [Z2Q];rfl):=⟨_,rfl⟩
 have hSf:o41.fs=oS.fs:=by rw [hoS];rfl
 have hSG:o41.G=oS.G:=by rw [hoS];rfl
 rw [hSf]
 refine Sy.heap (fun w h9=>h9.del b40) ?_
 refine Z0p b8 ?_
 first
   | refine Sy.heap (H':=oS.G++(og.G++(_::_))) (fun w h9=>by rw [← hSG];exact h9.perm (pA9 _ og.G o41.G _)) ?_
   | refine Sy.heap (H':=oS.G++(og.G++(_::_))) (fun w h9=>by rw [← hSG];exact h9.perm (pB9 _ og.G o41.G _)) ?_
 refine spL rfl rfl (lhA (htl (h.add s) og.fs oS.fs) ZA rfl rfl rfl) rfl ?_
 refine clV rfl Z1N rfl rfl (FnV.lendO oS (fun v=>[(h.add s).v og.fs v]) (fun ay cy _=>by rw [ZE];exact FnV.lendO og (fun v=>[(h.add s).v v (.slice ay (h.add s).sights.length cy)]) (fun ax cx _=>by rw [ZJ];exact Z0a (h.add s) ax ay cx cy (by show h.gaps.length≤_;omega) (by unfold Hse.add;simp only [List.length_append,List.length_singleton];omega) _ _))) ?_
 refine pur 1 rfl (sqt 2 rfl (pur 2 rfl ?_))
 refine Z1 rfl ?_ ?_<;>intro hc2
 have h0:(h.add s).check≠0:=of_decide_eq_true hc2
 have he:=hgo
 refine sqt 4 rfl (sp rfl (PE.build (out:=htl ⟨0,[],[]⟩ (.slice none 0 0) (.slice none 0 0)) Z3J Z0V rfl rfl) rfl (pur 1 rfl ?_))
 refine ZG (l':=htl ⟨0,[],[]⟩ (.slice none 0 0) (.slice none 0 0)) rfl rfl rfl Z1i rfl rfl rfl rfl (nl rfl) ?_
 refine pur 1 rfl (Z5 ?_)
 rw [Z1S he h0,he]
 exact Zn (vs:=[_,_]) rfl (.cons (RV.cell rfl (lhA [_,_,_] ZA rfl rfl rfl)) (.cons (RV.tmp rfl) .nil)) rfl ⟨OSl.nil _ _,OSl.nil _ _,rfl,rfl,rfl⟩ (fun w h9=>(((St.drop (G:=og.G) (St.drop (G:=oS.G) h9)).del b8).del b4 |>.del b3 |>.del b2))
 have h0:(h.add s).check=0:=Classical.byContradiction fun e=>by rw [decide_eq_true e] at hc2;cases hc2
 have he:=hgo.trans h0
 refine Z2 (sqt 3 rfl (spL rfl rfl (lhA (htl (h.add s) og.fs oS.fs) ZA rfl rfl rfl) rfl ?_))
 refine ZG (l':=htl (h.add s) og.fs oS.fs) rfl rfl rfl Z1i rfl rfl (by show (htl _ og.fs oS.fs).all (·.oneCell')=true;simp only [htl,List.all_cons,List.all_nil,og.cells.2,oS.cells.2,Bool.and_true];rfl) rfl (nl rfl) ?_
 refine pur 1 rfl (Z5 ?_)
 rw [Z2a he,he]
 exact Zn (vs:=[_,_]) rfl (.cons (RV.cell rfl (lhA [_,_,_] ZA rfl rfl rfl)) (.cons (RV.tmp rfl) .nil)) rfl ⟨og,oS,rfl,rfl,rfl⟩ (fun w h9=>(h9.del b8).del b4 |>.del b3 |>.del b2)
 exact Z1G
 refine Z0u ?_ ?_
 refine alc rfl Z0V rfl (fun b8=>?_)
 refine bg (fun w hs=>⟨(lhA (ZY s) Z6r rfl rfl rfl) w hs,(lh sc3 rfl rfl) w hs,trivial⟩) ?_
 refine bsl (out:=[_,_,_]) rfl Z7j Z41 rfl rfl rfl rfl rfl rfl (fun b40=>?_)
 refine bg (fun w hs=>⟨trivial,(lh sc3 rfl rfl) w hs,trivial⟩) ?_
 refine apO (o28) rfl Z7e rfl rfl (Z02 (row:=ZY s) rfl) rfl rfl ((by rw [ZE];simp only [List.length_singleton];omega)) rfl (fun o41=>?_)
 refine bg (fun w hs=>⟨(lh sc3 rfl rfl) w hs,trivial⟩) ?_
 refine tk rfl (PE.build (out:=htl (h.add s) og.fs o41.fs) Z3J Z0V rfl (by simp only [Z2f,og.cells.1,o41.cells.1,List.getElem?_cons_zero,List.getElem?_cons_succ];rfl)) rfl ?_
 refine ZG (l':=htl (h.add s) og.fs o41.fs) rfl rfl rfl Z1i rfl rfl (by show (htl _ og.fs o41.fs).all (·.oneCell')=true;simp only [htl,List.all_cons,List.all_nil,og.cells.2,o41.cells.2,Bool.and_true];rfl) rfl (nl rfl) ?_
 refine bgT (Z0 (sqt 3 rfl ?_))
 obtain ⟨oS,hoS⟩:∃ oS:OSl 30 3 (Z8 (h.add s).sights),oS=o41.cast (show Z8 h.sights++[ZY s]=Z8 (h.add s).sights from by unfold Hse.add;rw [Z2Q];rfl):=⟨_,rfl⟩
 have hSf:o41.fs=oS.fs:=by rw [hoS];rfl
 have hSG:o41.G=oS.G:=by rw [hoS];rfl
 rw [hSf]
 refine Sy.heap (fun w h9=>h9.del b40) ?_
 refine Z0p b8 ?_
 first
   | refine Sy.heap (H':=oS.G++(og.G++(_::_))) (fun w h9=>by rw [← hSG];exact h9.perm (pA9 _ og.G o41.G _)) ?_
   | refine Sy.heap (H':=oS.G++(og.G++(_::_))) (fun w h9=>by rw [← hSG];exact h9.perm (pB9 _ og.G o41.G _)) ?_
 refine spL rfl rfl (lhA (htl (h.add s) og.fs oS.fs) ZA rfl rfl rfl) rfl ?_
 refine clV rfl Z1N rfl rfl (FnV.lendO oS (fun v=>[(h.add s).v og.fs v]) (fun ay cy _=>by rw [ZE];exact FnV.lendO og (fun v=>[(h.add s).v v (.slice ay (h.add s).sights.length cy)]) (fun ax cx _=>by rw [ZJ];exact Z0a (h.add s) ax ay cx cy (by show h.gaps.length≤_;omega) (by unfold Hse.add;simp only [List.length_append,List.length_singleton];omega) _ _))) ?_
 refine pur 1 rfl (sqt 2 rfl (pur 2 rfl ?_))
 refine Z1 rfl ?_ ?_<;>intro hc2
 have h0:(h.add s).check≠0:=of_decide_eq_true hc2
 have he:=hgo
 refine sqt 4 rfl (sp rfl (PE.build (out:=htl ⟨0,[],[]⟩ (.slice none 0 0) (.slice none 0 0)) Z3J Z0V rfl rfl) rfl (pur 1 rfl ?_))
 refine ZG (l':=htl ⟨0,[],[]⟩ (.slice none 0 0) (.slice none 0 0)) rfl rfl rfl Z1i rfl rfl rfl rfl (nl rfl) ?_
 refine pur 1 rfl (Z5 ?_)
 rw [Z1S he h0,he]
 exact Zn (vs:=[_,_]) rfl (.cons (RV.cell rfl (lhA [_,_,_] ZA rfl rfl rfl)) (.cons (RV.tmp rfl) .nil)) rfl ⟨OSl.nil _ _,OSl.nil _ _,rfl,rfl,rfl⟩ (fun w h9=>(((St.drop (G:=og.G) (St.drop (G:=oS.G) h9)).del b8).del b4 |>.del b3 |>.del b2))
 have h0:(h.add s).check=0:=Classical.byContradiction fun e=>by rw [decide_eq_true e] at hc2;cases hc2
 have he:=hgo.trans h0
 refine Z2 (sqt 3 rfl (spL rfl rfl (lhA (htl (h.add s) og.fs oS.fs) ZA rfl rfl rfl) rfl ?_))
 refine ZG (l':=htl (h.add s) og.fs oS.fs) rfl rfl rfl Z1i rfl rfl (by show (htl _ og.fs oS.fs).all (·.oneCell')=true;simp only [htl,List.all_cons,List.all_nil,og.cells.2,oS.cells.2,Bool.and_true];rfl) rfl (nl rfl) ?_
 refine pur 1 rfl (Z5 ?_)
 rw [Z2a he,he]
 exact Zn (vs:=[_,_]) rfl (.cons (RV.cell rfl (lhA [_,_,_] ZA rfl rfl rfl)) (.cons (RV.tmp rfl) .nil)) rfl ⟨og,oS,rfl,rfl,rfl⟩ (fun w h9=>(h9.del b8).del b4 |>.del b3 |>.del b2)
 exact Z1G
 refine Z0u ?_ ?_
 refine bsl (out:=[_,_,_]) rfl Z7j Z41 rfl rfl rfl rfl rfl rfl (fun b40=>?_)
 refine bg (fun w hs=>⟨trivial,(lh Z2g rfl rfl) w hs,(lh sc3 rfl rfl) w hs,trivial⟩) ?_
 refine Z0u ?_ ?_
 refine cl rfl Z5j rfl rfl (Z0N h.gaps ag cg (by omega) _ _) ?_
 rintro _ _ R1 ⟨og,rfl,rfl,hR1,_⟩
 obtain rfl:=hR1.symm
 clear hR1
 refine bg (fun w hs=>⟨trivial,(lh sc3 rfl rfl) w hs,trivial⟩) ?_
 refine Z0u ?_ ?_
 refine apO (o28) rfl Z7e rfl rfl (Z02 (row:=ZY s) rfl) rfl rfl ((by rw [ZE];simp only [List.length_singleton];omega)) rfl (fun o41=>?_)
 refine bg (fun w hs=>⟨(lh sc3 rfl rfl) w hs,trivial⟩) ?_
 refine tk rfl (PE.build (out:=htl (h.add s) og.fs o41.fs) Z3J Z0V rfl (by simp only [Z2f,og.cells.1,o41.cells.1,List.getElem?_cons_zero,List.getElem?_cons_succ];rfl)) rfl ?_
 refine alc rfl Z0V rfl (fun b8=>?_)
 refine bg (fun w hs=>⟨(lh sc3 rfl rfl) w hs,trivial⟩) ?_
 refine ZG (l':=htl (h.add s) og.fs o41.fs) rfl rfl rfl Z1i rfl rfl (by show (htl _ og.fs o41.fs).all (·.oneCell')=true;simp only [htl,List.all_cons,List.all_nil,og.cells.2,o41.cells.2,Bool.and_true];rfl) rfl (nl rfl) ?_
 refine bgT (Z0 (sqt 3 rfl ?_))
 obtain ⟨oS,hoS⟩:∃ oS:OSl 30 3 (Z8 (h.add s).sights),oS=o41.cast (show Z8 h.sights++[ZY s]=Z8 (h.add s).sights from by unfold Hse.add;rw [Z2Q];rfl):=⟨_,rfl⟩
 have hSf:o41.fs=oS.fs:=by rw [hoS];rfl
 have hSG:o41.G=oS.G:=by rw [hoS];rfl
 rw [hSf]
 refine Sy.heap (fun w h9=>h9.del b40) ?_
 refine Z0p b8 ?_
 first
   | refine Sy.heap (H':=oS.G++(og.G++(_::_))) (fun w h9=>by rw [← hSG];exact h9.perm (pA9 _ og.G o41.G _)) ?_
   | refine Sy.heap (H':=oS.G++(og.G++(_::_))) (fun w h9=>by rw [← hSG];exact h9.perm (pB9 _ og.G o41.G _)) ?_
 refine spL rfl rfl (lhA (htl (h.add s) og.fs oS.fs) ZA rfl rfl rfl) rfl ?_
 refine clV rfl Z1N rfl rfl (FnV.lendO oS (fun v=>[(h.add s).v og.fs v]) (fun ay cy _=>by rw [ZE];exact FnV.lendO og (fun v=>[(h.add s).v v (.slice ay (h.add s).sights.length cy)]) (fun ax cx _=>by rw [ZJ];exact Z0a (h.add s) ax ay cx cy (by show h.gaps.length≤_;omega) (by unfold Hse.add;simp only [List.length_append,List.length_singleton];omega) _ _))) ?_
 refine pur 1 rfl (sqt 2 rfl (pur 2 rfl ?_))
 refine Z1 rfl ?_ ?_<;>intro hc2
 have h0:(h.add s).check≠0:=of_decide_eq_true hc2
 have he:=hgo
 refine sqt 4 rfl (sp rfl (PE.build (out:=htl ⟨0,[],[]⟩ (.slice none 0 0) (.slice none 0 0)) Z3J Z0V rfl rfl) rfl (pur 1 rfl ?_))
 refine ZG (l':=htl ⟨0,[],[]⟩ (.slice none 0 0) (.slice none 0 0)) rfl rfl rfl Z1i rfl rfl rfl rfl (nl rfl) ?_
 refine pur 1 rfl (Z5 ?_)
 rw [Z1S he h0,he]
 exact Zn (vs:=[_,_]) rfl (.cons (RV.cell rfl (lhA [_,_,_] ZA rfl rfl rfl)) (.cons (RV.tmp rfl) .nil)) rfl ⟨OSl.nil _ _,OSl.nil _ _,rfl,rfl,rfl⟩ (fun w h9=>(((St.drop (G:=og.G) (St.drop (G:=oS.G) h9)).del b8).del b4 |>.del b3 |>.del b2))
 have h0:(h.add s).check=0:=Classical.byContradiction fun e=>by rw [decide_eq_true e] at hc2;cases hc2
 have he:=hgo.trans h0
 refine Z2 (sqt 3 rfl (spL rfl rfl (lhA (htl (h.add s) og.fs oS.fs) ZA rfl rfl rfl) rfl ?_))
 refine ZG (l':=htl (h.add s) og.fs oS.fs) rfl rfl rfl Z1i rfl rfl (by show (htl _ og.fs oS.fs).all (·.oneCell')=true;simp only [htl,List.all_cons,List.all_nil,og.cells.2,oS.cells.2,Bool.and_true];rfl) rfl (nl rfl) ?_
 refine pur 1 rfl (Z5 ?_)
 rw [Z2a he,he]
 exact Zn (vs:=[_,_]) rfl (.cons (RV.cell rfl (lhA [_,_,_] ZA rfl rfl rfl)) (.cons (RV.tmp rfl) .nil)) rfl ⟨og,oS,rfl,rfl,rfl⟩ (fun w h9=>(h9.del b8).del b4 |>.del b3 |>.del b2)
 refine Z0u ?_ ?_
 refine alc rfl Z0V rfl (fun b8=>?_)
 refine bg (fun w hs=>⟨(lh sc3 rfl rfl) w hs,trivial⟩) ?_
 refine apO (o28) rfl Z7e rfl rfl (Z02 (row:=ZY s) rfl) rfl rfl ((by rw [ZE];simp only [List.length_singleton];omega)) rfl (fun o41=>?_)
 refine bg (fun w hs=>⟨(lh sc3 rfl rfl) w hs,trivial⟩) ?_
 refine tk rfl (PE.build (out:=htl (h.add s) og.fs o41.fs) Z3J Z0V rfl (by simp only [Z2f,og.cells.1,o41.cells.1,List.getElem?_cons_zero,List.getElem?_cons_succ];rfl)) rfl ?_
 refine ZG (l':=htl (h.add s) og.fs o41.fs) rfl rfl rfl Z1i rfl rfl (by show (htl _ og.fs o41.fs).all (·.oneCell')=true;simp only [htl,List.all_cons,List.all_nil,og.cells.2,o41.cells.2,Bool.and_true];rfl) rfl (nl rfl) ?_
 refine bgT (Z0 (sqt 3 rfl ?_))
 obtain ⟨oS,hoS⟩:∃ oS:OSl 30 3 (Z8 (h.add s).sights),oS=o41.cast (show Z8 h.sights++[ZY s]=Z8 (h.add s).sights from by unfold Hse.add;rw [Z2Q];rfl):=⟨_,rfl⟩
 have hSf:o41.fs=oS.fs:=by rw [hoS];rfl
 have hSG:o41.G=oS.G:=by rw [hoS];rfl
 rw [hSf]
 refine Sy.heap (fun w h9=>h9.del b40) ?_
 refine Z0p b8 ?_
 first
   | refine Sy.heap (H':=oS.G++(og.G++(_::_))) (fun w h9=>by rw [← hSG];exact h9.perm (pA9 _ og.G o41.G _)) ?_
   | refine Sy.heap (H':=oS.G++(og.G++(_::_))) (fun w h9=>by rw [← hSG];exact h9.perm (pB9 _ og.G o41.G _)) ?_
 refine spL rfl rfl (lhA (htl (h.add s) og.fs oS.fs) ZA rfl rfl rfl) rfl ?_
 refine clV rfl Z1N rfl rfl (FnV.lendO oS (fun v=>[(h.add s).v og.fs v]) (fun ay cy _=>by rw [ZE];exact FnV.lendO og (fun v=>[(h.add s).v v (.slice ay (h.add s).sights.length cy)]) (fun ax cx _=>by rw [ZJ];exact Z0a (h.add s) ax ay cx cy (by show h.gaps.length≤_;omega) (by unfold Hse.add;simp only [List.length_append,List.length_singleton];omega) _ _))) ?_
 refine pur 1 rfl (sqt 2 rfl (pur 2 rfl ?_))
 refine Z1 rfl ?_ ?_<;>intro hc2
 have h0:(h.add s).check≠0:=of_decide_eq_true hc2
 have he:=hgo
 refine sqt 4 rfl (sp rfl (PE.build (out:=htl ⟨0,[],[]⟩ (.slice none 0 0) (.slice none 0 0)) Z3J Z0V rfl rfl) rfl (pur 1 rfl ?_))
 refine ZG (l':=htl ⟨0,[],[]⟩ (.slice none 0 0) (.slice none 0 0)) rfl rfl rfl Z1i rfl rfl rfl rfl (nl rfl) ?_
 refine pur 1 rfl (Z5 ?_)
 rw [Z1S he h0,he]
 exact Zn (vs:=[_,_]) rfl (.cons (RV.cell rfl (lhA [_,_,_] ZA rfl rfl rfl)) (.cons (RV.tmp rfl) .nil)) rfl ⟨OSl.nil _ _,OSl.nil _ _,rfl,rfl,rfl⟩ (fun w h9=>(((St.drop (G:=og.G) (St.drop (G:=oS.G) h9)).del b8).del b4 |>.del b3 |>.del b2))
 have h0:(h.add s).check=0:=Classical.byContradiction fun e=>by rw [decide_eq_true e] at hc2;cases hc2
 have he:=hgo.trans h0
 refine Z2 (sqt 3 rfl (spL rfl rfl (lhA (htl (h.add s) og.fs oS.fs) ZA rfl rfl rfl) rfl ?_))
 refine ZG (l':=htl (h.add s) og.fs oS.fs) rfl rfl rfl Z1i rfl rfl (by show (htl _ og.fs oS.fs).all (·.oneCell')=true;simp only [htl,List.all_cons,List.all_nil,og.cells.2,oS.cells.2,Bool.and_true];rfl) rfl (nl rfl) ?_
 refine pur 1 rfl (Z5 ?_)
 rw [Z2a he,he]
 exact Zn (vs:=[_,_]) rfl (.cons (RV.cell rfl (lhA [_,_,_] ZA rfl rfl rfl)) (.cons (RV.tmp rfl) .nil)) rfl ⟨og,oS,rfl,rfl,rfl⟩ (fun w h9=>(h9.del b8).del b4 |>.del b3 |>.del b2)
 exact Z1G
 refine Z0u ?_ ?_
 refine alc rfl Z0V rfl (fun b8=>?_)
 refine bg (fun w hs=>⟨(lh Z2g rfl rfl) w hs,(lh sc3 rfl rfl) w hs,trivial⟩) ?_
 refine cl rfl Z5j rfl rfl (Z0N h.gaps ag cg (by omega) _ _) ?_
 rintro _ _ R1 ⟨og,rfl,rfl,hR1,_⟩
 obtain rfl:=hR1.symm
 clear hR1
 refine bg (fun w hs=>⟨trivial,(lh sc3 rfl rfl) w hs,trivial⟩) ?_
 refine apO (o28) rfl Z7e rfl rfl (Z02 (row:=ZY s) rfl) rfl rfl ((by rw [ZE];simp only [List.length_singleton];omega)) rfl (fun o41=>?_)
 refine bg (fun w hs=>⟨(lh sc3 rfl rfl) w hs,trivial⟩) ?_
 refine tk rfl (PE.build (out:=htl (h.add s) og.fs o41.fs) Z3J Z0V rfl (by simp only [Z2f,og.cells.1,o41.cells.1,List.getElem?_cons_zero,List.getElem?_cons_succ];rfl)) rfl ?_
 refine ZG (l':=htl (h.add s) og.fs o41.fs) rfl rfl rfl Z1i rfl rfl (by show (htl _ og.fs o41.fs).all (·.oneCell')=true;simp only [htl,List.all_cons,List.all_nil,og.cells.2,o41.cells.2,Bool.and_true];rfl) rfl (nl rfl) ?_
 refine bgT (Z0 (sqt 3 rfl ?_))
 obtain ⟨oS,hoS⟩:∃ oS:OSl 30 3 (Z8 (h.add s).sights),oS=o41.cast (show Z8 h.sights++[ZY s]=Z8 (h.add s).sights from by unfold Hse.add;rw [Z2Q];rfl):=⟨_,rfl⟩
 have hSf:o41.fs=oS.fs:=by rw [hoS];rfl
 have hSG:o41.G=oS.G:=by rw [hoS];rfl
 rw [hSf]
 refine Sy.heap (fun w h9=>h9.del b40) ?_
 refine Z0p b8 ?_
 first
   | refine Sy.heap (H':=oS.G++(og.G++(_::_))) (fun w h9=>by rw [← hSG];exact h9.perm (pA9 _ og.G o41.G _)) ?_
   | refine Sy.heap (H':=oS.G++(og.G++(_::_))) (fun w h9=>by rw [← hSG];exact h9.perm (pB9 _ og.G o41.G _)) ?_
 refine spL rfl rfl (lhA (htl (h.add s) og.fs oS.fs) ZA rfl rfl rfl) rfl ?_
 refine clV rfl Z1N rfl rfl (FnV.lendO oS (fun v=>[(h.add s).v og.fs v]) (fun ay cy _=>by rw [ZE];exact FnV.lendO og (fun v=>[(h.add s).v v (.slice ay (h.add s).sights.length cy)]) (fun ax cx _=>by rw [ZJ];exact Z0a (h.add s) ax ay cx cy (by show h.gaps.length≤_;omega) (by unfold Hse.add;simp only [List.length_append,List.length_singleton];omega) _ _))) ?_
 refine pur 1 rfl (sqt 2 rfl (pur 2 rfl ?_))
 refine Z1 rfl ?_ ?_<;>intro hc2
 have h0:(h.add s).check≠0:=of_decide_eq_true hc2
 have he:=hgo
 refine sqt 4 rfl (sp rfl (PE.build (out:=htl ⟨0,[],[]⟩ (.slice none 0 0) (.slice none 0 0)) Z3J Z0V rfl rfl) rfl (pur 1 rfl ?_))
 refine ZG (l':=htl ⟨0,[],[]⟩ (.slice none 0 0) (.slice none 0 0)) rfl rfl rfl Z1i rfl rfl rfl rfl (nl rfl) ?_
 refine pur 1 rfl (Z5 ?_)
 rw [Z1S he h0,he]
 exact Zn (vs:=[_,_]) rfl (.cons (RV.cell rfl (lhA [_,_,_] ZA rfl rfl rfl)) (.cons (RV.tmp rfl) .nil)) rfl ⟨OSl.nil _ _,OSl.nil _ _,rfl,rfl,rfl⟩ (fun w h9=>(((St.drop (G:=og.G) (St.drop (G:=oS.G) h9)).del b8).del b4 |>.del b3 |>.del b2))
 have h0:(h.add s).check=0:=Classical.byContradiction fun e=>by rw [decide_eq_true e] at hc2;cases hc2
 have he:=hgo.trans h0
 refine Z2 (sqt 3 rfl (spL rfl rfl (lhA (htl (h.add s) og.fs oS.fs) ZA rfl rfl rfl) rfl ?_))
 refine ZG (l':=htl (h.add s) og.fs oS.fs) rfl rfl rfl Z1i rfl rfl (by show (htl _ og.fs oS.fs).all (·.oneCell')=true;simp only [htl,List.all_cons,List.all_nil,og.cells.2,oS.cells.2,Bool.and_true];rfl) rfl (nl rfl) ?_
 refine pur 1 rfl (Z5 ?_)
 rw [Z2a he,he]
 exact Zn (vs:=[_,_]) rfl (.cons (RV.cell rfl (lhA [_,_,_] ZA rfl rfl rfl)) (.cons (RV.tmp rfl) .nil)) rfl ⟨og,oS,rfl,rfl,rfl⟩ (fun w h9=>(h9.del b8).del b4 |>.del b3 |>.del b2)
 exact Z1G
 refine Z0u ?_ ?_
 refine alc rfl Z0V rfl (fun b8=>?_)
 refine bg (fun w hs=>⟨(lhA (ZY s) Z6r rfl rfl rfl) w hs,(lh Z2g rfl rfl) w hs,(lh sc3 rfl rfl) w hs,trivial⟩) ?_
 refine Z0u ?_ ?_
 refine cl rfl Z5j rfl rfl (Z0N h.gaps ag cg (by omega) _ _) ?_
 rintro _ _ R1 ⟨og,rfl,rfl,hR1,_⟩
 obtain rfl:=hR1.symm
 clear hR1
 refine bg (fun w hs=>⟨(lhA (ZY s) Z6r rfl rfl rfl) w hs,trivial,(lh sc3 rfl rfl) w hs,trivial⟩) ?_
 refine bsl (out:=[_,_,_]) rfl Z7j Z41 rfl rfl rfl rfl rfl rfl (fun b40=>?_)
 refine bg (fun w hs=>⟨trivial,(lh sc3 rfl rfl) w hs,trivial⟩) ?_
 refine apO (o28) rfl Z7e rfl rfl (Z02 (row:=ZY s) rfl) rfl rfl ((by rw [ZE];simp only [List.length_singleton];omega)) rfl (fun o41=>?_)
 refine bg (fun w hs=>⟨(lh sc3 rfl rfl) w hs,trivial⟩) ?_
 refine tk rfl (PE.build (out:=htl (h.add s) og.fs o41.fs) Z3J Z0V rfl (by simp only [Z2f,og.cells.1,o41.cells.1,List.getElem?_cons_zero,List.getElem?_cons_succ];rfl)) rfl ?_
 refine ZG (l':=htl (h.add s) og.fs o41.fs) rfl rfl rfl Z1i rfl rfl (by show (htl _ og.fs o41.fs).all (·.oneCell')=true;simp only [htl,List.all_cons,List.all_nil,og.cells.2,o41.cells.2,Bool.and_true];rfl) rfl (nl rfl) ?_
 refine bgT (Z0 (sqt 3 rfl ?_))
 obtain ⟨oS,hoS⟩:∃ oS:OSl 30 3 (Z8 (h.add s).sights),oS=o41.cast (show Z8 h.sights++[ZY s]=Z8 (h.add s).sights from by unfold Hse.add;rw [Z2Q];rfl):=⟨_,rfl⟩
 have hSf:o41.fs=oS.fs:=by rw [hoS];rfl
 have hSG:o41.G=oS.G:=by rw [hoS];rfl
 rw [hSf]
 refine Sy.heap (fun w h9=>h9.del b40) ?_
 refine Z0p b8 ?_
 first
   | refine Sy.heap (H':=oS.G++(og.G++(_::_))) (fun w h9=>by rw [← hSG];exact h9.perm (pA9 _ og.G o41.G _)) ?_
   | refine Sy.heap (H':=oS.G++(og.G++(_::_))) (fun w h9=>by rw [← hSG];exact h9.perm (pB9 _ og.G o41.G _)) ?_
 refine spL rfl rfl (lhA (htl (h.add s) og.fs oS.fs) ZA rfl rfl rfl) rfl ?_
 refine clV rfl Z1N rfl rfl (FnV.lendO oS (fun v=>[(h.add s).v og.fs v]) (fun ay cy _=>by rw [ZE];exact FnV.lendO og (fun v=>[(h.add s).v v (.slice ay (h.add s).sights.length cy)]) (fun ax cx _=>by rw [ZJ];exact Z0a (h.add s) ax ay cx cy (by show h.gaps.length≤_;omega) (by unfold Hse.add;simp only [List.length_append,List.length_singleton];omega) _ _))) ?_
 refine pur 1 rfl (sqt 2 rfl (pur 2 rfl ?_))
 refine Z1 rfl ?_ ?_<;>intro hc2
 have h0:(h.add s).check≠0:=of_decide_eq_true hc2
 have he:=hgo
 refine sqt 4 rfl (sp rfl (PE.build (out:=htl ⟨0,[],[]⟩ (.slice none 0 0) (.slice none 0 0)) Z3J Z0V rfl rfl) rfl (pur 1 rfl ?_))
 refine ZG (l':=htl ⟨0,[],[]⟩ (.slice none 0 0) (.slice none 0 0)) rfl rfl rfl Z1i rfl rfl rfl rfl (nl rfl) ?_
 refine pur 1 rfl (Z5 ?_)
 rw [Z1S he h0,he]
 exact Zn (vs:=[_,_]) rfl (.cons (RV.cell rfl (lhA [_,_,_] ZA rfl rfl rfl)) (.cons (RV.tmp rfl) .nil)) rfl ⟨OSl.nil _ _,OSl.nil _ _,rfl,rfl,rfl⟩ (fun w h9=>(((St.drop (G:=og.G) (St.drop (G:=oS.G) h9)).del b8).del b4 |>.del b3 |>.del b2))
 have h0:(h.add s).check=0:=Classical.byContradiction fun e=>by rw [decide_eq_true e] at hc2;cases hc2
 have he:=hgo.trans h0
 refine Z2 (sqt 3 rfl (spL rfl rfl (lhA (htl (h.add s) og.fs oS.fs) ZA rfl rfl rfl) rfl ?_))
 refine ZG (l':=htl (h.add s) og.fs oS.fs) rfl rfl rfl Z1i rfl rfl (by show (htl _ og.fs oS.fs).all (·.oneCell')=true;simp only [htl,List.all_cons,List.all_nil,og.cells.2,oS.cells.2,Bool.and_true];rfl) rfl (nl rfl) ?_
 refine pur 1 rfl (Z5 ?_)
 rw [Z2a he,he]
 exact Zn (vs:=[_,_]) rfl (.cons (RV.cell rfl (lhA [_,_,_] ZA rfl rfl rfl)) (.cons (RV.tmp rfl) .nil)) rfl ⟨og,oS,rfl,rfl,rfl⟩ (fun w h9=>(h9.del b8).del b4 |>.del b3 |>.del b2)
 refine Z0u ?_ ?_
 refine bsl (out:=[_,_,_]) rfl Z7j Z41 rfl rfl rfl rfl rfl rfl (fun b40=>?_)
 refine bg (fun w hs=>⟨trivial,(lh Z2g rfl rfl) w hs,(lh sc3 rfl rfl) w hs,trivial⟩) ?_
 refine cl rfl Z5j rfl rfl (Z0N h.gaps ag cg (by omega) _ _) ?_
 rintro _ _ R1 ⟨og,rfl,rfl,hR1,_⟩
 obtain rfl:=hR1.symm
 clear hR1
 refine bg (fun w hs=>⟨trivial,(lh sc3 rfl rfl) w hs,trivial⟩) ?_
 refine apO (o28) rfl Z7e rfl rfl (Z02 (row:=ZY s) rfl) rfl rfl ((by rw [ZE];simp only [List.length_singleton];omega)) rfl (fun o41=>?_)
 refine bg (fun w hs=>⟨(lh sc3 rfl rfl) w hs,trivial⟩) ?_
 refine tk rfl (PE.build (out:=htl (h.add s) og.fs o41.fs) Z3J Z0V rfl (by simp only [Z2f,og.cells.1,o41.cells.1,List.getElem?_cons_zero,List.getElem?_cons_succ];rfl)) rfl ?_
 refine ZG (l':=htl (h.add s) og.fs o41.fs) rfl rfl rfl Z1i rfl rfl (by show (htl _ og.fs o41.fs).all (·.oneCell')=true;simp only [htl,List.all_cons,List.all_nil,og.cells.2,o41.cells.2,Bool.and_true];rfl) rfl (nl rfl) ?_
 refine bgT (Z0 (sqt 3 rfl ?_))
 obtain ⟨oS,hoS⟩:∃ oS:OSl 30 3 (Z8 (h.add s).sights),oS=o41.cast (show Z8 h.sights++[ZY s]=Z8 (h.add s).sights from by unfold Hse.add;rw [Z2Q];rfl):=⟨_,rfl⟩
 have hSf:o41.fs=oS.fs:=by rw [hoS];rfl
 have hSG:o41.G=oS.G:=by rw [hoS];rfl
 rw [hSf]
 refine Sy.heap (fun w h9=>h9.del b40) ?_
 refine Z0p b8 ?_
 first
   | refine Sy.heap (H':=oS.G++(og.G++(_::_))) (fun w h9=>by rw [← hSG];exact h9.perm (pA9 _ og.G o41.G _)) ?_
   | refine Sy.heap (H':=oS.G++(og.G++(_::_))) (fun w h9=>by rw [← hSG];exact h9.perm (pB9 _ og.G o41.G _)) ?_
 refine spL rfl rfl (lhA (htl (h.add s) og.fs oS.fs) ZA rfl rfl rfl) rfl ?_
 refine clV rfl Z1N rfl rfl (FnV.lendO oS (fun v=>[(h.add s).v og.fs v]) (fun ay cy _=>by rw [ZE];exact FnV.lendO og (fun v=>[(h.add s).v v (.slice ay (h.add s).sights.length cy)]) (fun ax cx _=>by rw [ZJ];exact Z0a (h.add s) ax ay cx cy (by show h.gaps.length≤_;omega) (by unfold Hse.add;simp only [List.length_append,List.length_singleton];omega) _ _))) ?_
 refine pur 1 rfl (sqt 2 rfl (pur 2 rfl ?_))
 refine Z1 rfl ?_ ?_<;>intro hc2
 have h0:(h.add s).check≠0:=of_decide_eq_true hc2
 have he:=hgo
 refine sqt 4 rfl (sp rfl (PE.build (out:=htl ⟨0,[],[]⟩ (.slice none 0 0) (.slice none 0 0)) Z3J Z0V rfl rfl) rfl (pur 1 rfl ?_))
 refine ZG (l':=htl ⟨0,[],[]⟩ (.slice none 0 0) (.slice none 0 0)) rfl rfl rfl Z1i rfl rfl rfl rfl (nl rfl) ?_
 refine pur 1 rfl (Z5 ?_)
 rw [Z1S he h0,he]
 exact Zn (vs:=[_,_]) rfl (.cons (RV.cell rfl (lhA [_,_,_] ZA rfl rfl rfl)) (.cons (RV.tmp rfl) .nil)) rfl ⟨OSl.nil _ _,OSl.nil _ _,rfl,rfl,rfl⟩ (fun w h9=>(((St.drop (G:=og.G) (St.drop (G:=oS.G) h9)).del b8).del b4 |>.del b3 |>.del b2))
 have h0:(h.add s).check=0:=Classical.byContradiction fun e=>by rw [decide_eq_true e] at hc2;cases hc2
 have he:=hgo.trans h0
 refine Z2 (sqt 3 rfl (spL rfl rfl (lhA (htl (h.add s) og.fs oS.fs) ZA rfl rfl rfl) rfl ?_))
 refine ZG (l':=htl (h.add s) og.fs oS.fs) rfl rfl rfl Z1i rfl rfl (by show (htl _ og.fs oS.fs).all (·.oneCell')=true;simp only [htl,List.all_cons,List.all_nil,og.cells.2,oS.cells.2,Bool.and_true];rfl) rfl (nl rfl) ?_
 refine pur 1 rfl (Z5 ?_)
 rw [Z2a he,he]
 exact Zn (vs:=[_,_]) rfl (.cons (RV.cell rfl (lhA [_,_,_] ZA rfl rfl rfl)) (.cons (RV.tmp rfl) .nil)) rfl ⟨og,oS,rfl,rfl,rfl⟩ (fun w h9=>(h9.del b8).del b4 |>.del b3 |>.del b2)
 exact Z1G
 exact Z1G
end Go.Proofs.YtclnhdkneegfkaaGreat
