/- Walks of the functions of the program, and the laws that join them: what the last theorem of this claim needs, in order. -/
import Derived.Test.YthijcgkicjljhaaGreatTw5
namespace Go.Proofs.YthijcgkicjljhaaGreat.Ht
set_option linter.unusedSimpArgs false
set_option linter.unusedVariables false
theorem Dsk.next_mono {d:Dsk} (hd:d.ok) {s s':HSt} (h:d.inS s) (h':d.inS s') (hle:∀ k<d.n,na s k≤na s' k) {l l':List Nat} (hl:∀ k∈l,k<d.n) (hl':∀ k∈l',k<d.n)
   (hsub:∀ k∈l,k∈l') {t:HSt} (e:d.next s l=some t):∃ t',d.next s' l'=some t'∧∀ k<d.n,na t k≤na t' k:=by
 obtain ⟨_,h2⟩:=d.next_at hd.n.2 h.len hl e
 have hm:∀ k<d.n,d.mid s l k≤d.mid s' l' k:=fun k hk=>by
   have:=hle k hk
   unfold Dsk.mid
   by_cases h3:k∈l
   · rw [if_pos h3,if_pos (hsub k h3)];omega
   · rw [if_neg h3];split<;>omega
 obtain ⟨t',ht'⟩:=d.next_some hd.n.2 h'.len hl' (fun k hk=>by have:=hm k hk;have:=(h2 k).1 hk;have:=d.inS_mid hd h l hk;have:=d.inS_mid hd h' l' hk;have:=(hd.ever k hk).2.1;omega)
 refine ⟨t',ht',fun k hk=>?_⟩
 obtain ⟨_,h3⟩:=d.next_at hd.n.2 h'.len hl' ht'
 have a1:=(h2 k).2;have a2:=(h3 k).2
 have:=hm k hk
 have b1:=d.inS_mid hd h l hk;have b2:=d.inS_mid hd h' l' hk
 have:=(hd.ever k hk).2.1
 rw [a1,a2]
 split<;>split<;>omega
theorem Zbf:((List.range 5).all fun n=>(List.range (2 ^ n)).all fun u=>(List.range (n+1)).all fun g=>!decide ((ZR n u).length≤g)||(List.range (2 ^ n)).any fun v=>decide ((ZR n v).length=g)&&(ZR n u).all fun k=>(ZR n v).contains k)=true:=by decide +kernel
theorem Zbg {n u g:Nat} (hn:n≤4) (hu:u<2 ^ n) (hg:g≤n) (h:(ZR n u).length≤g):∃ v,v<2 ^ n∧(ZR n v).length=g∧∀ k∈ZR n u,k∈ZR n v:=by
 have h0:=Zbf
 rw [List.all_eq_true] at h0
 have h1:=h0 n (List.mem_range.2 (by omega))
 rw [List.all_eq_true] at h1
 have h2:=h1 u (List.mem_range.2 hu)
 rw [List.all_eq_true] at h2
 have h3:=h2 g (List.mem_range.2 (by omega))
 rw [decide_eq_true h,Bool.not_true,Bool.false_or,List.any_eq_true] at h3
 obtain ⟨v,hv,h4⟩:=h3
 rw [Bool.and_eq_true,decide_eq_true_eq,List.all_eq_true] at h4
 exact ⟨v,List.mem_range.1 hv,h4.1,fun k hk=>by simpa using h4.2 k hk⟩
theorem Dsk.mem_trs {d:Dsk} {full:Bool} {l:List Nat}:l∈d.trs full↔∃ u,u<2 ^ d.n∧l=ZR d.n u∧(l.length:Int)≤d.g∧(full=true→d.g≤(l.length:Int)):=by
 unfold Dsk.trs
 rw [List.mem_filter,List.mem_map]
 have hm:d.may full l=true↔(l.length:Int)≤d.g∧(full=true→d.g≤(l.length:Int)):=by
   unfold Dsk.may
   cases full<;>simp<;>omega
 constructor
 · rintro ⟨⟨u,hu,rfl⟩,h⟩;exact ⟨u,List.mem_range.1 hu,rfl,hm.1 h⟩
 · rintro ⟨u,hu,rfl,h⟩;exact ⟨⟨u,List.mem_range.2 hu,rfl⟩,hm.2 h⟩
theorem Dsk.full_of {d:Dsk} (hd:d.ok) {l:List Nat} (h:l∈d.trs false):∃ l'∈d.trs true,∀ k∈l,k∈l':=by
 obtain ⟨u,hu,rfl,h1,_⟩:=d.mem_trs.1 h
 have hn:=hd.n;have hg:=hd.gangs
 have e:(d.g.toNat:Int)=d.g:=by unfold Dsk.g at *;omega
 obtain ⟨v,hv,h2,h3⟩:=Zbg (g:=d.g.toNat) hn.2 hu (by unfold Dsk.g at *;omega) (by omega)
 exact ⟨_,d.mem_trs.2 ⟨v,hv,rfl,by omega,fun _=>by omega⟩,h3⟩
def Dsk.pth (d:Dsk):Nat→HSt→HSt→Nat→Prop
 | 0,s,t,c=>t=s∧c=0
 | n+1,s,t,c=>∃ u a l,d.pth n s u a∧l∈d.trs false∧d.next u l=some t∧c=a+l.length
theorem Dsk.pth_cons {d:Dsk} {s u:HSt} {l:List Nat} (hl:l∈d.trs false) (e:d.next s l=some u):∀ {n:Nat} {t:HSt} {c:Nat},d.pth n u t c→d.pth (n+1) s t (l.length+c)
 | 0,t,c,h=>by obtain ⟨rfl,rfl⟩:=h;exact ⟨s,0,l,⟨rfl,rfl⟩,hl,e,by omega⟩
 | n+1,t,c,h=>by
   obtain ⟨v,a,l',h1,h2,h3,rfl⟩:=h
   exact ⟨v,l.length+a,l',pth_cons hl e h1,h2,h3,by omega⟩
theorem Dsk.pth_uncons {d:Dsk} {s:HSt}:∀ {n:Nat} {t:HSt} {c:Nat},d.pth (n+1) s t c→∃ l u a,l∈d.trs false∧d.next s l=some u∧d.pth n u t a∧c=l.length+a
 | 0,t,c,h=>by
   obtain ⟨v,a,l,⟨rfl,rfl⟩,h2,h3,rfl⟩:=h
   exact ⟨l,t,0,h2,h3,⟨rfl,rfl⟩,by omega⟩
 | n+1,t,c,h=>by
   obtain ⟨v,a,l,h1,h2,h3,rfl⟩:=h
   obtain ⟨l',u,a',i1,i2,i3,rfl⟩:=pth_uncons h1
   exact ⟨l',u,a'+l.length,i1,i2,⟨v,a',l,i3,h2,h3,rfl⟩,by omega⟩
theorem Dsk.trs_sub {d:Dsk} {l:List Nat} (h:l∈d.trs true):l∈d.trs false:=by
 obtain ⟨u,hu,rfl,h1,_⟩:=d.mem_trs.1 h
 exact d.mem_trs.2 ⟨u,hu,rfl,h1,fun h=>by cases h⟩
theorem Dsk.pth_inS {d:Dsk} (hd:d.ok) {s:HSt} (hs:d.inS s):∀ {n:Nat} {t:HSt} {c:Nat},d.pth n s t c→d.inS t
 | 0,t,c,h=>by obtain ⟨rfl,rfl⟩:=h;exact hs
 | n+1,t,c,h=>by
   obtain ⟨v,a,l,h1,h2,h3,rfl⟩:=h
   exact d.next_inS hd (pth_inS hd hs h1) (d.trs_lt h2) h3
theorem Dsk.pth_alive {d:Dsk} (hd:d.ok):∀ {n:Nat} {s s' t:HSt} {c:Nat},d.inS s→d.inS s'→(∀ k<d.n,na s k≤na s' k)→d.pth n s t c→s'∈d.alive n
 | 0,s,s',t,c,_,h',_,_=>(d.mem_sts hd s').2 h'
 | n+1,s,s',t,c,h,h',hle,hp=>by
   obtain ⟨v,a,_,h1,_⟩:=id hp
   obtain ⟨l,u,a',i1,i2,i3,_⟩:=d.pth_uncons hp
   obtain ⟨l',j1,j2⟩:=d.full_of hd i1
   obtain ⟨u',k1,k2⟩:=d.next_mono hd h h' hle (d.trs_lt i1) (d.trs_lt j1) j2 i2
   exact d.alive_succ.2 ⟨pth_alive hd h h' hle h1,d.helped_iff.2 ⟨l',j1,u',k1,pth_alive hd (d.next_inS hd h (d.trs_lt i1) i2) (d.next_inS hd h' (d.trs_lt j1) k1) k2 i3⟩⟩
theorem Dsk.alive_pth {d:Dsk}:∀ {n:Nat} {s:HSt},s∈d.alive n→∃ t c,d.pth n s t c
 | 0,s,_=>⟨s,0,rfl,rfl⟩
 | n+1,s,h=>by
   obtain ⟨l,hl,t,ht,hta⟩:=d.helped_iff.1 (d.alive_succ.1 h).2
   obtain ⟨t',c,hp⟩:=alive_pth hta
   exact ⟨t',_,d.pth_cons (d.trs_sub hl) ht hp⟩
theorem Dsk.alive_iff {d:Dsk} (hd:d.ok) {n:Nat} {s:HSt} (hs:d.inS s):s∈d.alive n↔∃ t c,d.pth n s t c :=
 ⟨d.alive_pth,fun ⟨_,_,h⟩=>d.pth_alive hd hs hs (fun _ _=>Int.le_refl _) h⟩
theorem Dsk.alive_stop (d:Dsk):∃ n,n≤d.nst∧d.alive (n+1)=d.alive n:=by
 by_cases h:∃ n,n≤d.nst∧d.alive (n+1)=d.alive n
 · exact h
 · have h1:∀ m,m≤d.nst+1→(d.alive m).length+m≤d.nst:=by
     intro m
     induction m with
     | zero=>intro _;show d.sts.length+0≤_;rw [d.sts_len];omega
     | succ m ih =>
       intro hm
       have:=ih (by omega)
       have h2:((d.alive m).filter fun s=>!d.helped (d.alive m) s).length≠0:=fun e=>h ⟨m,by omega,d.alive_same e⟩
       have:=d.alive_less h2
       omega
   have:=h1 (d.nst+1) (Nat.le_refl _)
   omega
theorem Dsk.alive_ever {d:Dsk} {s:HSt} {m:Nat} (hm:d.nst≤m) (h:s∈d.alive m):∀ k,s∈d.alive k:=fun k=>by
 obtain ⟨n,hn,e⟩:=d.alive_stop
 rcases Nat.lt_or_ge k n with h1 | h1
 · exact d.alive_le (by omega) h
 · obtain ⟨j,rfl⟩:∃ j,k=n+j:=⟨k-n,by omega⟩
   rw [d.alive_fix e];exact d.alive_le (by omega) h
theorem ZdR {d:Dsk} (hd:d.ok) {s:HSt} (hs:d.inS s) {j:Nat} (hj:j≤d.nst) (h1:∃ t c,d.pth j s t c) (h2:¬ ∃ t c,d.pth (j+1) s t c):Kpt d s j :=
 .inr ⟨j,Nat.le_trans hj (d.nst_le hd).2,rfl,(d.alive_iff hd hs).2 h1,fun h=>h2 ((d.alive_iff hd hs).1 h)⟩
theorem Z5N {d:Dsk} (hd:d.ok) {s:HSt} (hs:d.inS s) {m:Nat} (hm:d.nst≤m) (h1:∃ t c,d.pth m s t c):Kpt d s 1000000 :=
 .inl ⟨rfl,d.alive_ever hm ((d.alive_iff hd hs).2 h1)⟩
def ZcP (la s:List Int) (u k:Nat):Int:=bif u.testBit k then max (na s k) (na la k) else na s k
def ZbC (v:Int):Int:=bif decide (v=1000000) then v else v-1
def rNx (la s:List Int) (u:Nat):Nat→Option (List Int)
 | 0=>some []
 | k+1=>match rNx la s u k with
   | none=>none
   | some t=>bif decide (ZbC (ZcP la s u k)<0) then none else some (t++[ZbC (ZcP la s u k)])
theorem Z6P {la s:List Int} {u:Nat}:∀ {k:Nat} {t:List Int},rNx la s u k=some t→t.length=k
 | 0,t,h=>by cases h;rfl
 | k+1,t,h=>by
   unfold rNx at h
   split at h
   · cases h
   · rename_i v hv
     cases h1:decide (ZbC (ZcP la s u k)<0) with
     | true=>rw [h1] at h;cases h
     | false=>rw [h1] at h;cases h;simp [Z6P hv]
theorem Ze0 {l:List Int} {v:Int} {k:Nat}:na (l++[v]) k=if k<l.length then na l k else if k=l.length then v else 0:=by
 unfold na
 rw [List.getD_eq_getElem?_getD,List.getD_eq_getElem?_getD]
 by_cases h:k<l.length
 · rw [if_pos h,List.getElem?_append_left h]
 · rw [if_neg h,List.getElem?_append_right (by omega)]
   by_cases h1:k=l.length
   · rw [if_pos h1,h1];simp
   · rw [if_neg h1,List.getElem?_eq_none (by simp;omega)];rfl
theorem rNx_iff {la s:List Int} {u:Nat}:∀ {n:Nat} {t:List Int},rNx la s u n=some t↔t.length=n∧∀ k<n,0≤ZbC (ZcP la s u k)∧na t k=ZbC (ZcP la s u k)
 | 0,t=>by
   constructor
   · intro h;cases h;exact ⟨rfl,fun k hk=>absurd hk (Nat.not_lt_zero _)⟩
   · rintro ⟨h,_⟩;rw [List.length_eq_zero_iff.1 h];rfl
 | n+1,t=>by
   constructor
   · intro h
     refine ⟨Z6P h,?_⟩
     unfold rNx at h
     split at h
     · cases h
     · rename_i v hv
       obtain ⟨h1,h2⟩:=rNx_iff.1 hv
       by_cases h3:ZbC (ZcP la s u n)<0
       · rw [decide_eq_true h3] at h;cases h
       · rw [decide_eq_false h3,cond_false] at h;cases h
         intro k hk
         rw [Ze0,h1]
         by_cases h4:k<n
         · rw [if_pos h4];exact h2 k h4
         · obtain rfl:k=n:=by omega
           rw [if_neg h4,if_pos rfl];exact ⟨by omega,rfl⟩
   · rintro ⟨h1,h2⟩
     have e:t=t.take n++[na t n]:=by
       have:=List.take_append_drop n t
       rw [List.drop_eq_getElem_cons (by omega),List.drop_eq_nil_of_le (by omega)] at this
       have h3:na t n=t[n]:=by unfold na;rw [List.getD_eq_getElem?_getD,List.getElem?_eq_getElem (by omega)];rfl
       rw [h3];exact this.symm
     have hv:rNx la s u n=some (t.take n):=rNx_iff.2 ⟨by rw [List.length_take];omega,fun k hk=>by
       have:=h2 k (by omega)
       have e2:na (t.take n) k=na t k:=by unfold na;rw [List.getD_eq_getElem?_getD,List.getD_eq_getElem?_getD,List.getElem?_take,if_pos hk]
       rw [e2];exact this⟩
     have h4:=h2 n (by omega)
     unfold rNx
     rw [hv]
     simp only
     rw [decide_eq_false (by omega),cond_false,← h4.2,← e]
theorem Z1H {l:List Int} {k:Nat}:na (pad l) k=na l k:=by
 unfold na pad
 rw [List.getD_eq_getElem?_getD,List.getD_eq_getElem?_getD]
 rcases Nat.lt_or_ge k l.length with h | h
 · rw [List.getElem?_append_left h]
 · rw [List.getElem?_append_right h,List.getElem?_eq_none h,List.getElem?_replicate]
   split<;>rfl
theorem Za8 {s t:List Int} (hs:s.length=t.length) (h:pad s=pad t):s=t:=by
 refine List.ext_getElem? fun k=>?_
 rcases Nat.lt_or_ge k s.length with h1 | h1
 · have:na (pad s) k=na (pad t) k:=by rw [h]
   rw [Z1H,Z1H] at this
   unfold na at this
   rw [List.getD_eq_getElem?_getD,List.getD_eq_getElem?_getD,List.getElem?_eq_getElem h1,List.getElem?_eq_getElem (by omega)] at this
   rw [List.getElem?_eq_getElem h1,List.getElem?_eq_getElem (by omega)]
   simpa using this
 · rw [List.getElem?_eq_none h1,List.getElem?_eq_none (by omega)]
theorem mem_bitl {n u k:Nat}:k∈ZR n u↔k<n∧u.testBit k=true:=by
 unfold ZR;rw [List.mem_filter,List.mem_range]
theorem Z6R {d:Dsk} {la s:List Int} (hla:∀ k<d.n,na la k=na d.lasts k) (u:Nat) {k:Nat} (hk:k<d.n):ZcP la s u k=d.mid (pad s) (ZR d.n u) k:=by
 unfold ZcP Dsk.mid
 rw [Z1H,hla k hk]
 cases h:u.testBit k with
 | true=>rw [if_pos (mem_bitl.2 ⟨hk,h⟩)];rfl
 | false=>rw [if_neg (fun h1=>by have:=(mem_bitl.1 h1).2;rw [h] at this;cases this)];rfl
theorem ZbB {d:Dsk} (hn:d.n≤4) {la s t:List Int} (hla:∀ k<d.n,na la k=na d.lasts k) (hs:s.length=d.n) (ht:t.length=d.n) (u:Nat):rNx la s u d.n=some t↔d.next (pad s) (ZR d.n u)=some (pad t):=by
 have hl:∀ k∈ZR d.n u,k<d.n:=fun k hk=>Z4t hk
 have hps:(pad s).length=4:=Z2d (by omega)
 rw [rNx_iff]
 constructor
 · rintro ⟨_,h⟩
   obtain ⟨t',ht'⟩:=d.next_some hn hps hl (fun k hk=>by
     have:=(h k hk).1
     rw [Z6R hla u hk] at this
     unfold ZbC at this
     by_cases h1:d.mid (pad s) (ZR d.n u) k=1000000
     · exact .inl h1
     · rw [decide_eq_false h1,cond_false] at this;exact .inr (by omega))
   rw [ht']
   congr 1
   obtain ⟨h2,h3⟩:=d.next_at hn hps hl ht'
   refine Z8i h2 (Z2d (by omega)) fun k hk=>?_
   rw [(h3 k).2,Z1H]
   by_cases hkn:k<d.n
   · rw [(h k hkn).2,Z6R hla u hkn]
     unfold ZbC
     by_cases h1:d.mid (pad s) (ZR d.n u) k=1000000
     · rw [if_neg (by omega),decide_eq_true h1];rfl
     · rw [if_pos ⟨hkn,h1⟩,decide_eq_false h1];rfl
   · rw [if_neg (by omega)]
     unfold Dsk.mid
     rw [if_neg (fun h1=>hkn (hl k h1)),Z1H]
     unfold na
     rw [List.getD_eq_getElem?_getD,List.getD_eq_getElem?_getD,List.getElem?_eq_none (by omega),List.getElem?_eq_none (by omega)]
 · intro h
   obtain ⟨h2,h3⟩:=d.next_at hn hps hl h
   refine ⟨ht,fun k hk=>?_⟩
   obtain ⟨h4,h5⟩:=h3 k
   have h4:=h4 hk
   rw [Z1H] at h5
   rw [Z6R hla u hk,h5]
   unfold ZbC
   by_cases h1:d.mid (pad s) (ZR d.n u) k=1000000
   · rw [if_neg (by omega),decide_eq_true h1,cond_true];exact ⟨by omega,rfl⟩
   · rw [if_pos ⟨hk,h1⟩,decide_eq_false h1,cond_false];exact ⟨by omega,rfl⟩
theorem Zbv:((List.range 5).all fun n=>(List.range (2 ^ n)).all fun u=>decide ((ZR n u).length=(ZR 4 u).length))=true:=by decide +kernel
theorem Z6K {n u:Nat} (hn:n≤4) (hu:u<2 ^ n):(ZR 4 u).length=(ZR n u).length:=by
 have h0:=Zbv
 rw [List.all_eq_true] at h0
 have h1:=h0 n (List.mem_range.2 (by omega))
 rw [List.all_eq_true] at h1
 exact (of_decide_eq_true (h1 u (List.mem_range.2 hu))).symm
theorem Ze3 (u:Nat):(ZR 4 u).length≤4:=Z1A 4 u
def rS (n:Nat) (g:Int) (la s:List Int) (u:Nat):Option (List Int):=bif decide (((ZR 4 u).length:Int)≤g) then rNx la s u n else none
theorem ZhO {n:Nat} {g:Int} {la s t:List Int} {u:Nat} (h:rS n g la s u=some t):t.length=n:=by
 unfold rS at h
 cases h1:decide (((ZR 4 u).length:Int)≤g) with
 | true=>rw [h1] at h;exact Z6P h
 | false=>rw [h1] at h;cases h
def Sx (n:Nat) (g:Int) (la:List Int) (now:List (List Int)) (i u:Nat) (t:List Int):Prop:=∃ j s v,now[j]?=some s∧(j<i∨(j=i∧v<u))∧v<2 ^ n∧rS n g la s v=some t
theorem Sx.step {n:Nat} {g:Int} {la s t:List Int} {now:List (List Int)} {i u:Nat} (hs:now[i]?=some s) (hu:u<2 ^ n):Sx n g la now i (u+1) t↔Sx n g la now i u t∨rS n g la s u=some t:=by
 constructor
 · rintro ⟨j,s',v,h1,h2,h3,h4⟩
   rcases h2 with h2 | ⟨rfl,h2⟩
   · exact .inl ⟨j,s',v,h1,.inl h2,h3,h4⟩
   · rcases Nat.lt_or_ge v u with h5 | h5
     · exact .inl ⟨j,s',v,h1,.inr ⟨rfl,h5⟩,h3,h4⟩
     · obtain rfl:v=u:=by omega
       rw [hs] at h1;cases h1;exact .inr h4
 · rintro (⟨j,s',v,h1,h2,h3,h4⟩ | h)
   · exact ⟨j,s',v,h1,by omega,h3,h4⟩
   · exact ⟨i,s,u,hs,by omega,hu,h⟩
theorem Sx.next {n:Nat} {g:Int} {la t:List Int} {now:List (List Int)} {i:Nat}:Sx n g la now (i+1) 0 t↔Sx n g la now i (2 ^ n) t:=by
 constructor
 · rintro ⟨j,s',v,h1,h2,h3,h4⟩
   exact ⟨j,s',v,h1,by omega,h3,h4⟩
 · rintro ⟨j,s',v,h1,h2,h3,h4⟩
   exact ⟨j,s',v,h1,by omega,h3,h4⟩
structure Bf (n:Nat) (g:Int) (la:List Int) (now:List (List Int)) (i u:Nat) (L:List (List Int)):Prop where
 len:∀ t∈L,t.length=n
 nd:L.Nodup
 mem:∀ t,t∈L↔Sx n g la now i u t
theorem Bf.start {n:Nat} {g:Int} {la:List Int} {now:List (List Int)}:Bf n g la now 0 0 []:=⟨by simp,List.nodup_nil,fun t=>by
 constructor
 · intro h;cases h
 · rintro ⟨j,s,v,_,h,_⟩;omega⟩
theorem Bf.next {n:Nat} {g:Int} {la:List Int} {now:List (List Int)} {i:Nat} {L:List (List Int)} (h:Bf n g la now i (2 ^ n) L):Bf n g la now (i+1) 0 L:=⟨h.len,h.nd,fun t=>(h.mem t).trans Sx.next.symm⟩
theorem Bf.skip {n:Nat} {g:Int} {la s:List Int} {now:List (List Int)} {i u:Nat} {L:List (List Int)} (h:Bf n g la now i u L) (hs:now[i]?=some s) (hu:u<2 ^ n) (hn:∀ t,rS n g la s u=some t→t∈L):Bf n g la now i (u+1) L:=⟨h.len,h.nd,fun t=>by
 rw [Sx.step hs hu,← h.mem]
 exact ⟨.inl,fun h1=>h1.elim id (hn t)⟩⟩
theorem Bf.add {n:Nat} {g:Int} {la s t:List Int} {now:List (List Int)} {i u:Nat} {L:List (List Int)} (h:Bf n g la now i u L) (hs:now[i]?=some s) (hu:u<2 ^ n) (ht:rS n g la s u=some t) (hn:t∉L):Bf n g la now i (u+1) (L++[t]) where
 len x hx:=by
   rcases List.mem_append.1 hx with hx | hx
   · exact h.len x hx
   · rw [List.mem_singleton.1 hx];exact ZhO ht
 nd:=List.nodup_append.2 ⟨h.nd,by simp,fun x hx y hy e=>hn (by rw [← List.mem_singleton.1 hy,← e];exact hx)⟩
 mem x:=by
   rw [Sx.step hs hu,← h.mem,List.mem_append,List.mem_singleton,ht]
   exact or_congr_right ⟨fun e=>by rw [e],fun e=>(Option.some.inj e).symm⟩
theorem Z3E {α:Type} [DecidableEq α]:∀ {l m:List α},l.Nodup→(∀ x∈l,x∈m)→l.length≤m.length
 | [],_,_,_=>Nat.zero_le _
 | x::l,m,hn,h=>by
   rw [List.nodup_cons] at hn
   have hx:=h x (by simp)
   have h1:=Z3E (m:=m.erase x) hn.2 fun y hy=>(List.mem_erase_of_ne (show y≠x from fun e=>hn.1 (by rw [← e];exact hy))).2 (h y (by simp [hy]))
   rw [List.length_erase_of_mem hx] at h1
   have:=List.length_pos_of_mem hx
   rw [List.length_cons];omega
theorem Z5R {α β:Type} {f:α→β}:∀ {l:List α},(∀ x∈l,∀ y∈l,f x=f y→x=y)→l.Nodup→(l.map f).Nodup
 | [],_,_=>List.nodup_nil
 | x::l,hf,hn=>by
   rw [List.nodup_cons] at hn
   rw [List.map_cons,List.nodup_cons]
   refine ⟨fun h=>?_,Z5R (fun a ha b hb=>hf a (by simp [ha]) b (by simp [hb])) hn.2⟩
   obtain ⟨y,hy,e⟩:=List.mem_map.1 h
   have e2:=hf y (by simp [hy]) x (by simp) e
   exact hn.1 (e2▸hy)
structure Lv (d:Dsk) (s0:HSt) (day:Nat) (L:List (List Int)):Prop where
 len:∀ t∈L,t.length=d.n
 mem:∀ t,t.length=d.n→(t∈L↔∃ c,d.pth day s0 (pad t) c)
theorem Z3z {d:Dsk} (hd:d.ok) {u:HSt} (h:d.inS u):pad (u.take d.n)=u:=by
 have hn:=hd.n
 refine Z8i (Z2d (by rw [List.length_take];omega)) h.len fun k hk=>?_
 rw [Z1H]
 unfold na
 rw [List.getD_eq_getElem?_getD,List.getD_eq_getElem?_getD,List.getElem?_take]
 by_cases h1:k<d.n
 · rw [if_pos h1]
 · rw [if_neg h1]
   have:=h.out k hk (by omega)
   unfold na at this
   rw [List.getD_eq_getElem?_getD] at this
   rw [this];rfl
theorem Lv.start {d:Dsk} {s:List Int} (hs:s.length=d.n):Lv d (pad s) 0 [s]:=⟨fun t ht=>by rw [List.mem_singleton.1 ht];exact hs,fun t ht=>by
 rw [List.mem_singleton]
 constructor
 · rintro rfl;exact ⟨0,rfl,rfl⟩
 · rintro ⟨c,h,_⟩;exact Za8 (by omega) h⟩
theorem Lv.inS {d:Dsk} (hd:d.ok) {s0:HSt} (h0:d.inS s0) {day:Nat} {L:List (List Int)} (h:Lv d s0 day L) {t:List Int} (ht:t∈L):d.inS (pad t):=by
 obtain ⟨c,hc⟩:=(h.mem t (h.len t ht)).1 ht
 exact d.pth_inS hd h0 hc
theorem Z5X {d:Dsk} (hd:d.ok) {la s t:List Int} (hla:∀ k<d.n,na la k=na d.lasts k) (hs:s.length=d.n) (ht:t.length=d.n) {v:Nat} (hv:v<2 ^ d.n):rS d.n d.gangs la s v=some t↔ZR d.n v∈d.trs false∧d.next (pad s) (ZR d.n v)=some (pad t):=by
 have hn:=hd.n
 have e:=Z6K hn.2 hv
 have hle:=Z1A d.n v
 have hm:ZR d.n v∈d.trs false↔((ZR d.n v).length:Int)≤d.gangs:=by
   rw [d.mem_trs]
   unfold Dsk.g
   constructor
   · rintro ⟨_,_,_,h,_⟩;omega
   · intro h;exact ⟨v,hv,rfl,by omega,fun h=>by cases h⟩
 unfold rS
 rw [e]
 by_cases h:((ZR d.n v).length:Int)≤d.gangs
 · rw [decide_eq_true h,cond_true,ZbB hn.2 hla hs ht]
   exact ⟨fun h1=>⟨hm.2 h,h1⟩,fun h1=>h1.2⟩
 · rw [decide_eq_false h,cond_false]
   exact ⟨fun h1=>(by cases h1),fun h1=>absurd (hm.1 h1.1) h⟩
theorem Lv.next {d:Dsk} (hd:d.ok) {s0:HSt} (h0:d.inS s0) {la:List Int} (hla:∀ k<d.n,na la k=na d.lasts k) {day:Nat} {now L:List (List Int)} (h:Lv d s0 day now) (hb:Bf d.n d.gangs la now now.length 0 L):Lv d s0 (day+1) L where
 len:=hb.len
 mem t ht:=by
   rw [hb.mem]
   constructor
   · rintro ⟨j,s,v,h1,_,h3,h4⟩
     have hm:=List.mem_of_getElem? h1
     obtain ⟨c,hc⟩:=(h.mem s (h.len s hm)).1 hm
     obtain ⟨h5,h6⟩:=(Z5X hd hla (h.len s hm) ht h3).1 h4
     exact ⟨_,_,_,_,hc,h5,h6,rfl⟩
   · rintro ⟨c,u,a,l,h1,h2,h3,_⟩
     obtain ⟨v,hv,rfl,_⟩:=d.mem_trs.1 h2
     have hu:=d.pth_inS hd h0 h1
     have hlen:(u.take d.n).length=d.n:=by rw [List.length_take,hu.len];have:=hd.n;omega
     have e:=Z3z hd hu
     have hm:u.take d.n∈now:=(h.mem _ hlen).2 ⟨a,by rw [e];exact h1⟩
     obtain ⟨j,hj⟩:=List.getElem?_of_mem hm
     exact ⟨j,_,v,hj,.inl (List.getElem?_eq_some_iff.1 hj).1,hv,(Z5X hd hla hlen ht hv).2 ⟨h2,by rw [e];exact h3⟩⟩
theorem Bf.few {d:Dsk} (hd:d.ok) {s0:HSt} (h0:d.inS s0) {la:List Int} (hla:∀ k<d.n,na la k=na d.lasts k) {day i u:Nat} {now L:List (List Int)} (h:Lv d s0 day now) (hb:Bf d.n d.gangs la now i u L):L.length≤14641:=by
 have h1:(L.map pad).length≤d.sts.length:=Z3E (Z5R (fun x hx y hy e=>Za8 (by rw [hb.len x hx,hb.len y hy]) e) hb.nd) fun p hp=>by
   obtain ⟨t,ht,rfl⟩:=List.mem_map.1 hp
   obtain ⟨j,s,v,h1,_,h3,h4⟩:=(hb.mem t).1 ht
   have hm:=List.mem_of_getElem? h1
   obtain ⟨h5,h6⟩:=(Z5X hd hla (h.len s hm) (hb.len t ht) h3).1 h4
   exact (d.mem_sts hd _).2 (d.next_inS hd (h.inS hd h0 hm) (d.trs_lt h5) h6)
 rw [List.length_map,d.sts_len] at h1
 have:=(d.nst_le hd).2
 omega
theorem Lv.ends {d:Dsk} (hd:d.ok) {s0:HSt} (h0:d.inS s0) {day:Nat} (hday:day≤d.nst) {now:List (List Int)} (h:Lv d s0 day now) (hne:now≠[]) (h':Lv d s0 (day+1) []):Kpt d s0 day:=by
 refine ZdR hd h0 hday ?_ ?_
 · obtain ⟨t,ht⟩:=List.exists_mem_of_ne_nil now hne
   obtain ⟨c,hc⟩:=(h.mem t (h.len t ht)).1 ht
   exact ⟨_,c,hc⟩
 · rintro ⟨t,c,hc⟩
   have hi:=d.pth_inS hd h0 hc
   have hlen:(t.take d.n).length=d.n:=by rw [List.length_take,hi.len];have:=hd.n;omega
   have:=(h'.mem _ hlen).2 ⟨c,by rw [Z3z hd hi];exact hc⟩
   cases this
theorem Lv.ever {d:Dsk} (hd:d.ok) {s0:HSt} (h0:d.inS s0) {day:Nat} (hday:d.nst≤day) {now:List (List Int)} (h:Lv d s0 day now) (hne:now≠[]):Kpt d s0 1000000:=by
 obtain ⟨t,ht⟩:=List.exists_mem_of_ne_nil now hne
 obtain ⟨c,hc⟩:=(h.mem t (h.len t ht)).1 ht
 exact Z5N hd h0 hday ⟨_,c,hc⟩
open Go
def SpI (b:Barn) (m:Nat) (s e:Int):Prop:=(e=6∧s=0∧∀ g:Nat,m≤g→g≤b.bins.length→b.ends g) ∨
 (e=0∧∃ g:Nat,s=g∧m≤g∧g≤b.bins.length∧Kpt (b.withG g).dsk b.state 1000000∧∀ j:Nat,m≤j→j<g→b.ends j)
theorem SpI.start (b:Barn):SpI b (b.bins.length+1) 0 6:=.inl ⟨rfl,rfl,fun g h1 h2=>by omega⟩
theorem SpI.yes {b:Barn} {k:Nat} (hk:k≤b.bins.length) (h:Kpt (b.withG k).dsk b.state 1000000):SpI b k k 0:=.inr ⟨rfl,k,rfl,Nat.le_refl _,hk,h,fun j h1 h2=>by omega⟩
theorem SpI.no {b:Barn} {k:Nat} {s e:Int} (h:SpI b (k+1) s e) (hn:b.ends k):SpI b k s e:=by
 rcases h with ⟨h1,h2,h3⟩ | ⟨h1,g,h2,h3,h4,h5,h6⟩
 · refine .inl ⟨h1,h2,fun g hg hg2=>?_⟩
   rcases Nat.lt_or_ge k g with h | h
   · exact h3 g h hg2
   · obtain rfl:g=k:=by omega
     exact hn
 · refine .inr ⟨h1,g,h2,by omega,h4,h5,fun j hj hj2=>?_⟩
   rcases Nat.lt_or_ge k j with h | h
   · exact h6 j h hj2
   · obtain rfl:j=k:=by omega
     exact hn
theorem Z2W {b:Barn} {g:Nat} (h:b.ends g):¬ Kpt (b.withG g).dsk b.state 1000000:=fun h2=>by
 obtain ⟨w,hw,h3⟩:=h
 exact hw (Z7Z h3 h2)
theorem SpI.eq {b:Barn} {s e:Int} (h:SpI b 0 s e) (hc:b.check=0) {v:Value} (hq:ZeW b v):v = .tuple #[.int .i64 s,.int .i64 e]:=by
 rcases hq with ⟨h1,_⟩ | ⟨_,⟨g,hg,hn,hk,rfl⟩ | ⟨hn,rfl⟩⟩
 · exact absurd hc h1
 · rcases h with ⟨rfl,rfl,h3⟩ | ⟨rfl,g2,rfl,_,h4,h5,h6⟩
   · exact absurd hk (Z2W (h3 g (Nat.zero_le _) hg))
   · rcases Nat.lt_trichotomy g g2 with h7 | h7 | h7
     · exact absurd hk (Z2W (h6 g (Nat.zero_le _) h7))
     · rw [h7]
     · exact absurd h5 (Z2W (hn g2 h7))
 · rcases h with ⟨rfl,rfl,h3⟩ | ⟨rfl,g2,rfl,_,h4,h5,h6⟩
   · rfl
   · exact absurd h5 (Z2W (hn g2 h4))
structure FewC (d:Dsk) (s:HSt) (n c:Nat):Prop where
 is:∃ t,d.pth n s t c
 le:∀ t c',d.pth n s t c'→c≤c'
structure Fsp (es:List (HSt×List Int)) (m:MW):Prop where
 mem:∀ t w,Z1R m t=some w→(t,w)∈es
 has:∀ t w,(t,w)∈es→∃ w',Z1R m t=some w'∧na w' 5≤na w 5
theorem Fsp.nil:Fsp [] []:=⟨fun t w h=>(by cases h),fun t w h=>(by cases h)⟩
theorem Fsp.add {es:List (HSt×List Int)} {m:MW} {e:HSt×List Int} (h:Fsp es m) (hz:∀ f∈es,f.2≠zw):Fsp (es++[e]) (ZeT m e):=by
 obtain ⟨k,v⟩:=e
 have key:(ZeT m (k,v)=ZeQ m k v∧∀ w,Z1R m k=some w→na v 5<na w 5)∨(ZeT m (k,v)=m∧∃ w,Z1R m k=some w∧na w 5≤na v 5):=by
   unfold ZeT
   dsimp only
   cases hk:Z1R m k with
   | none=>exact .inl ⟨by rw [Option.getD_none,decide_eq_true rfl];rfl,fun w h=>by cases h⟩
   | some w0 =>
     have h0:w0≠zw:=hz _ (h.mem _ _ hk)
     rw [Option.getD_some,decide_eq_false h0,Bool.false_or]
     by_cases h1:na v 5<na w0 5
     · rw [decide_eq_true h1];exact .inl ⟨rfl,fun w hw=>by cases hw;exact h1⟩
     · rw [decide_eq_false h1];exact .inr ⟨rfl,w0,rfl,by omega⟩
 rcases key with ⟨e1,h1⟩ | ⟨e1,w0,h1,h2⟩
 · rw [e1]
   refine ⟨fun t w hw=>?_,fun t w hw=>?_⟩
   · rw [Z3D] at hw
     by_cases hkt:k=t
     · rw [decide_eq_true hkt] at hw;cases hw;subst hkt;simp
     · rw [decide_eq_false hkt] at hw;exact List.mem_append_left _ (h.mem _ _ hw)
   · rw [Z3D]
     by_cases hkt:k=t
     · subst hkt
       rw [decide_eq_true rfl]
       refine ⟨v,rfl,?_⟩
       rcases List.mem_append.1 hw with h3 | h3
       · obtain ⟨w',h4,h5⟩:=h.has _ _ h3
         have:=h1 _ h4
         omega
       · cases List.mem_singleton.1 h3;exact Int.le_refl _
     · rw [decide_eq_false hkt]
       rcases List.mem_append.1 hw with h3 | h3
       · exact h.has _ _ h3
       · cases List.mem_singleton.1 h3;exact absurd rfl hkt
 · rw [e1]
   refine ⟨fun t w hw=>List.mem_append_left _ (h.mem _ _ hw),fun t w hw=>?_⟩
   rcases List.mem_append.1 hw with h3 | h3
   · exact h.has _ _ h3
   · cases List.mem_singleton.1 h3;exact ⟨w0,h1,h2⟩
theorem Fsp.fold:∀ {fs es:List (HSt×List Int)} {m:MW},Fsp es m→(∀ f∈es++fs,f.2≠zw)→Fsp (es++fs) (fs.foldl ZeT m)
 | [],es,m,h,_=>by rw [List.append_nil];exact h
 | f::fs,es,m,h,hz=>by
   have:=Fsp.fold (fs:=fs) (h.add (e:=f) fun g hg=>hz g (List.mem_append_left _ hg)) (fun g hg=>hz g (by simpa [List.append_assoc] using hg))
   rw [List.append_assoc] at this
   exact this
theorem mem_ev {d:Dsk} {m:MW} {e:HSt×List Int}:e∈(d.sts.take d.nst).flatMap (evW d m)↔∃ s,s∈d.sts∧∃ w,Z1R m s=some w∧∃ l,l∈d.trs false∧∃ t,d.next s l=some t∧e=(t,s++[(Z7z l:Int),na w 5+(l.length:Int)]):=by
 rw [List.take_of_length_le (by rw [d.sts_len];exact Nat.le_refl _),List.mem_flatMap]
 refine exists_congr fun s=>and_congr_right fun _=>?_
 unfold evW Zkb
 cases Z1R m s with
 | none=>simp
 | some w =>
   dsimp only
   rw [List.take_length,List.mem_filterMap]
   constructor
   · rintro ⟨l,hl,he⟩
     unfold Zjt at he
     rw [Option.map_eq_some_iff] at he
     obtain ⟨t,ht,rfl⟩:=he
     exact ⟨w,rfl,l,hl,t,ht,rfl⟩
   · rintro ⟨w',hw,l,hl,t,ht,rfl⟩
     cases hw
     exact ⟨l,hl,by unfold Zjt;rw [ht];rfl⟩
theorem Zju {d:Dsk} (hd:d.ok) {s t:HSt} (hs:d.inS s) {l:List Nat} (hl:l∈d.trs false) (hn:d.next s l=some t) (c:Int):s++[(Z7z l:Int),c]≠zw:=by
 intro e
 obtain ⟨s0,s1,s2,s3,rfl⟩:=Z6F hs.len
 have e2:s0=0∧(Z7z l:Int)=0:=by
   have h1:=congrArg (fun z=>na z 0) e
   have h2:=congrArg (fun z=>na z 4) e
   exact ⟨h1,h2⟩
 have hn1:=hd.n
 have h2:=((d.next_at hn1.2 hs.len (d.trs_lt hl) hn).2 0).1 (by omega)
 have h0:(0:Nat)∉l:=fun hm=>by
   have h3:=Z53 l 0
   rw [decide_eq_true hm,show Z7z l=0 by have:=e2.2;omega] at h3
   simp at h3
 unfold Dsk.mid at h2
 rw [if_neg h0] at h2
 have h4:na [s0,s1,s2,s3] 0=0:=e2.1
 omega
theorem Z7p {d:Dsk} (hd:d.ok) (s0:HSt) (i:Nat):Fsp ((d.sts.take d.nst).flatMap (evW d (Z2Y d s0 i))) (Z2Y d s0 (i+1)):=by
 have h:=Fsp.fold (fs:=(d.sts.take d.nst).flatMap (evW d (Z2Y d s0 i))) Fsp.nil (fun f hf=>by
   rw [List.nil_append] at hf
   obtain ⟨s,hs,w,_,l,hl,t,ht,rfl⟩:=mem_ev.1 hf
   exact Zju hd ((d.mem_sts hd s).1 hs) hl ht _)
 rw [List.nil_append] at h
 exact h
theorem Z3C {d:Dsk} {s0:HSt} (s:HSt):Z1R (Z2Y d s0 0) s=bif decide (s0=s) then some zw else none:=by
 unfold Z2Y Z1R
 rw [List.find?_cons]
 dsimp only
 cases decide (s0=s)<;>rfl
theorem Z5O {d:Dsk} (hd:d.ok) {s0:HSt} {i:Nat} {s:HSt} {w:List Int} (h:Z1R (Z2Y d s0 (i+1)) s=some w) :
   ∃ u w' l,u∈d.sts∧Z1R (Z2Y d s0 i) u=some w'∧l∈d.trs false∧d.next u l=some s∧w=u++[(Z7z l:Int),na w' 5+(l.length:Int)]:=by
 obtain ⟨u,hu,w',hw',l,hl,t,ht,e⟩:=mem_ev.1 ((Z7p hd s0 i).mem _ _ h)
 cases e
 exact ⟨u,w',l,hu,hw',hl,ht,rfl⟩
theorem Z5e {u:HSt} (hu:u.length=4) (x y:Int):na (u++[x,y]) 5=y∧na (u++[x,y]) 4=x∧(u++[x,y]).take 4=u:=by
 obtain ⟨a,b,c,e,rfl⟩:=Z6F hu
 exact ⟨rfl,rfl,rfl⟩
theorem Z5P {d:Dsk} (hd:d.ok) {s0:HSt} (h0:d.inS s0):∀ (i:Nat),(∀ s c,d.pth i s0 s c→∃ w,Z1R (Z2Y d s0 i) s=some w∧na w 5≤(c:Int))∧(∀ s w,Z1R (Z2Y d s0 i) s=some w→∃ c:Nat,na w 5=c∧d.pth i s0 s c)
 | 0=>by
   refine ⟨fun s c h=>?_,fun s w h=>?_⟩
   · obtain ⟨rfl,rfl⟩:=h
     exact ⟨zw,by rw [Z3C,decide_eq_true rfl];rfl,by decide⟩
   · rw [Z3C] at h
     by_cases e:s0=s
     · rw [decide_eq_true e] at h;cases h;exact ⟨0,by decide,e.symm,rfl⟩
     · rw [decide_eq_false e] at h;cases h
 | i+1=>by
   obtain ⟨i1,i2⟩:=Z5P hd h0 i
   refine ⟨fun s c h=>?_,fun s w h=>?_⟩
   · obtain ⟨u,a,l,h1,h2,h3,rfl⟩:=h
     obtain ⟨w,hw,hle⟩:=i1 u a h1
     have hu:=d.pth_inS hd h0 h1
     obtain ⟨w',hw',hle'⟩:=(Z7p hd s0 i).has s (u++[(Z7z l:Int),na w 5+(l.length:Int)]) (mem_ev.2 ⟨u,(d.mem_sts hd u).2 hu,w,hw,l,h2,s,h3,rfl⟩)
     rw [(Z5e hu.len _ _).1] at hle'
     exact ⟨w',hw',by push_cast;omega⟩
   · obtain ⟨u,w',l,hu,hw',hl,ht,rfl⟩:=Z5O hd h
     obtain ⟨c,hc,hp⟩:=i2 u w' hw'
     have hul:=((d.mem_sts hd u).1 hu).len
     refine ⟨c+l.length,?_,u,c,l,hp,hl,ht,rfl⟩
     rw [(Z5e hul _ _).1,hc];push_cast;rfl
def Bsp (m:MW) (D:List HSt):Option (HSt×Int)→Prop
 | none=>∀ s∈D,Z1R m s=none
 | some p=>p.1∈D∧∃ w,Z1R m p.1=some w∧p.2=na w 5∧∀ s∈D,∀ w',Z1R m s=some w'→p.2≤na w' 5
theorem Bsp.add {m:MW} {D:List HSt} {acc:Option (HSt×Int)} (h:Bsp m D acc) (s:HSt):Bsp m (D++[s]) (ZaU m acc s):=by
 unfold ZaU
 cases hs:Z1R m s with
 | none =>
   dsimp only
   cases acc with
   | none=>intro t ht;rcases List.mem_append.1 ht with h1 | h1;exact h t h1;rw [List.mem_singleton.1 h1];exact hs
   | some p =>
     obtain ⟨h1,w,h2,h3,h4⟩:=h
     refine ⟨List.mem_append_left _ h1,w,h2,h3,fun t ht w' hw'=>?_⟩
     rcases List.mem_append.1 ht with h5 | h5
     · exact h4 t h5 w' hw'
     · rw [List.mem_singleton.1 h5,hs] at hw';cases hw'
 | some w =>
   dsimp only
   cases acc with
   | none =>
     refine ⟨by simp,w,hs,rfl,fun t ht w' hw'=>?_⟩
     rcases List.mem_append.1 ht with h5 | h5
     · rw [h t h5] at hw';cases hw'
     · rw [List.mem_singleton.1 h5,hs] at hw';cases hw';exact Int.le_refl _
   | some p =>
     obtain ⟨q,n⟩:=p
     obtain ⟨h1,w0,h2,h3,h4⟩:=h
     dsimp only at h1 h2 h3 h4 ⊢
     by_cases hlt:na w 5<n
     · rw [decide_eq_true hlt,cond_true]
       refine ⟨by simp,w,hs,rfl,fun t ht w' hw'=>?_⟩
       dsimp only
       rcases List.mem_append.1 ht with h5 | h5
       · have:=h4 t h5 w' hw';omega
       · rw [List.mem_singleton.1 h5,hs] at hw';cases hw';exact Int.le_refl _
     · rw [decide_eq_false hlt,cond_false]
       refine ⟨List.mem_append_left _ h1,w0,h2,h3,fun t ht w' hw'=>?_⟩
       dsimp only
       rcases List.mem_append.1 ht with h5 | h5
       · exact h4 t h5 w' hw'
       · rw [List.mem_singleton.1 h5,hs] at hw';cases hw';omega
theorem Bsp.fold {m:MW}:∀ {l D:List HSt} {acc:Option (HSt×Int)},Bsp m D acc→Bsp m (D++l) (l.foldl (ZaU m) acc)
 | [],D,acc,h=>by rw [List.append_nil];exact h
 | s::l,D,acc,h=>by
   have:=Bsp.fold (l:=l) (h.add s)
   rw [List.append_assoc] at this
   exact this
theorem Z7J (d:Dsk) (m:MW):Bsp m d.sts (Z4s d m d.nst):=by
 have h:=Bsp.fold (m:=m) (l:=d.sts) (D:=[]) (acc:=none) (fun s hs=>by cases hs)
 unfold Z4s
 rw [List.take_of_length_le (by rw [d.sts_len];exact Nat.le_refl _)]
 exact h
def Dsk.run (d:Dsk):HSt→List (List Nat)→Option HSt
 | s,[]=>some s
 | s,l::p=>match d.next s l with
   | none=>none
   | some t=>d.run t p
def Z3O (p:List (List Nat)):Nat:=(p.map List.length).sum
theorem Z8c (p q:List (List Nat)):Z3O (p++q)=Z3O p+Z3O q:=by unfold Z3O;rw [List.map_append,List.sum_append]
theorem Dsk.run_app (d:Dsk):∀ (p q:List (List Nat)) (s:HSt),d.run s (p++q)=match d.run s p with
   | none=>none
   | some t=>d.run t q
 | [],q,s=>rfl
 | l::p,q,s=>by
   have e1:∀ r,d.run s (l::r)=match d.next s l with
     | none=>none
     | some t=>d.run t r:=fun r=>rfl
   rw [List.cons_append,e1,e1]
   cases d.next s l with
   | none=>rfl
   | some t=>exact run_app d p q t
theorem Dsk.run_one (d:Dsk) (s:HSt) (l:List Nat):d.run s [l]=d.next s l:=by
 unfold Dsk.run
 cases d.next s l<;>rfl
theorem Z45 {d:Dsk} (hd:d.ok) {s0:HSt}:∀ (i:Nat) (s:HSt) (w:List Int),Z1R (Z2Y d s0 i) s=some w→(Z21 d s0 i s).length=i∧(∀ l∈Z21 d s0 i s,l∈d.trs false)∧d.run s0 (Z21 d s0 i s)=some s∧(Z3O (Z21 d s0 i s):Int)=na w 5
 | 0,s,w,h=>by
   rw [Z3C] at h
   by_cases e:s0=s
   · rw [decide_eq_true e] at h;cases h;subst e;exact ⟨rfl,fun l hl=>(by cases hl),rfl,rfl⟩
   · rw [decide_eq_false e] at h;cases h
 | i+1,s,w,h=>by
   obtain ⟨u,w',l,hu,hw',hl,ht,rfl⟩:=Z5O hd h
   obtain ⟨a5,a4,aT⟩:=Z5e ((d.mem_sts hd u).1 hu).len (Z7z l:Int) (na w' 5+(l.length:Int))
   obtain ⟨i1,i2,i3,i4⟩:=Z45 hd i u w' hw'
   have hn:=hd.n
   obtain ⟨v,hv,rfl⟩:∃ v,v<2 ^ d.n∧l=ZR d.n v:=by obtain ⟨v,hv,e,_⟩:=d.mem_trs.1 hl;exact ⟨v,hv,e⟩
   have hlt:Z7z (ZR d.n v)<2 ^ d.n:=Zek fun k hk=>Z4t hk
   have hlt4:Z7z (ZR d.n v)<2 ^ 4:=Nat.lt_of_lt_of_le hlt (Nat.pow_le_pow_right (by decide) hn.2)
   have eb:Z21 d s0 (i+1) s=Z21 d s0 i u++[ZR d.n v]:=by
     show Z21 d s0 i (((Z1R (Z2Y d s0 (i+1)) s).getD zw).take 4)++[ZR 4 (na ((Z1R (Z2Y d s0 (i+1)) s).getD zw) 4).toNat]=_
     rw [h,Option.getD_some,aT,a4,Int.toNat_natCast,Z8x hlt4 hlt,Z8y]
   rw [eb,a5]
   refine ⟨by simp [i1],fun k hk=>?_,by rw [d.run_app,i3];dsimp only;rw [d.run_one];exact ht,by rw [Z8c];push_cast;rw [i4];rfl⟩
   rcases List.mem_append.1 hk with h4 | h4
   · exact i2 k h4
   · rw [List.mem_singleton.1 h4];exact hl
theorem ZaV {d:Dsk} (hd:d.ok) {s0:HSt} (h0:d.inS s0) (days:Nat):(Z4s d (Z2Y d s0 days) d.nst=none∧¬ ∃ t c,d.pth days s0 t c) ∨
   ∃ (s:HSt) (c:Nat),Z4s d (Z2Y d s0 days) d.nst=some (s,(c:Int))∧FewC d s0 days c∧(Z21 d s0 days s).length=days∧(∀ l∈Z21 d s0 days s,l∈d.trs false)∧d.run s0 (Z21 d s0 days s)=some s∧Z3O (Z21 d s0 days s)=c:=by
 have hb:=Z7J d (Z2Y d s0 days)
 obtain ⟨m1,m2⟩:=Z5P hd h0 days
 cases he:Z4s d (Z2Y d s0 days) d.nst with
 | none =>
   rw [he] at hb
   refine .inl ⟨rfl,?_⟩
   rintro ⟨t,c,hp⟩
   obtain ⟨w,hw,_⟩:=m1 t c hp
   rw [hb t ((d.mem_sts hd t).2 (d.pth_inS hd h0 hp))] at hw
   cases hw
 | some p =>
   rw [he] at hb
   obtain ⟨s,n⟩:=p
   obtain ⟨h1,w,h2,h3,h4⟩:=hb
   dsimp only at h1 h2 h3 h4
   obtain ⟨c,hc,hp⟩:=m2 s w h2
   obtain ⟨b1,b2,b3,b4⟩:=Z45 hd days s w h2
   refine .inr ⟨s,c,by rw [h3,hc],⟨⟨s,hp⟩,fun t c' hp'=>?_⟩,b1,b2,b3,by omega⟩
   obtain ⟨w',hw',hle⟩:=m1 t c' hp'
   have:=h4 t ((d.mem_sts hd t).2 (d.pth_inS hd h0 hp')) w' hw'
   omega
def Barn.stw (b:Barn) (ws:List Int):HSt:=pad ((List.range b.bins.length).map fun k=>b.days (b.bins.getD k hb0) (na ws k))
theorem Barn.stw_at {b:Barn} {ws:List Int} {k:Nat} (hk:k<b.bins.length):na (b.stw ws) k=b.days (b.bins.getD k hb0) (na ws k):=by
 unfold Barn.stw
 rw [Z1H]
 unfold na
 rw [List.getD_eq_getElem?_getD,List.getElem?_map,List.getElem?_range hk];rfl
theorem Barn.stw_out {b:Barn} {ws:List Int} {k:Nat} (hk:b.bins.length≤k):na (b.stw ws) k=0:=by
 unfold Barn.stw
 rw [Z1H]
 unfold na
 rw [List.getD_eq_getElem?_getD,List.getElem?_eq_none (by simpa using hk)];rfl
theorem Barn.stw_len {b:Barn} (hb:b.ok) (ws:List Int):(b.stw ws).length=4:=Z2d (by simpa using hb.many.2)
theorem Barn.state_at {b:Barn} (hb:b.ok) {k:Nat} (hk:k<b.bins.length):na b.state k=b.days (b.bins.getD k hb0) (b.bins.getD k hb0).warm:=by
 obtain ⟨x,hx⟩:∃ x,b.bins[k]?=some x:=⟨_,List.getElem?_eq_getElem hk⟩
 rw [Z0v hx]
 exact Z1f (b.map_get hb _ hx)
theorem Barn.lasts_at {b:Barn} (hb:b.ok) {k:Nat} (hk:k<b.bins.length):na b.lasts k=b.days (b.bins.getD k hb0) b.cool:=by
 obtain ⟨x,hx⟩:∃ x,b.bins[k]?=some x:=⟨_,List.getElem?_eq_getElem hk⟩
 rw [Z0v hx]
 exact Z1f (b.map_get hb _ hx)
theorem Barn.warms_at {b:Barn} {k:Nat} (hk:k<b.bins.length):na b.warms k=(b.bins.getD k hb0).warm:=by
 obtain ⟨x,hx⟩:∃ x,b.bins[k]?=some x:=⟨_,List.getElem?_eq_getElem hk⟩
 rw [Z0v hx]
 unfold na Barn.warms
 rw [List.getD_eq_getElem?_getD,List.getElem?_map,hx];rfl
theorem Barn.stw_warms {b:Barn} (hb:b.ok):b.stw b.warms=b.state:=Z8i (b.stw_len hb _) (b.state_sml hb).len fun k _=>by
 rcases Nat.lt_or_ge k b.bins.length with h | h
 · rw [Barn.stw_at h,Barn.state_at hb h,Barn.warms_at h]
 · rw [Barn.stw_out h]
   unfold Barn.state
   rw [Z1H]
   unfold na
   rw [List.getD_eq_getElem?_getD,List.getElem?_eq_none (by simpa using h)];rfl
theorem Z2s {r m w v:Int} (hr:0≤r) (h:w≤v):Z09 r m v≤Z09 r m w:=by
 unfold Z09
 by_cases h0:r=0
 · rw [decide_eq_true h0];exact Int.le_refl _
 · rw [decide_eq_false h0,cond_false,cond_false]
   by_cases h1:m<v
   · rw [decide_eq_true h1,cond_true]
     by_cases h2:m<w
     · rw [decide_eq_true h2];exact Int.le_refl _
     · rw [decide_eq_false h2,cond_false];exact Int.ediv_nonneg (by omega) hr
   · rw [decide_eq_false h1,cond_false,decide_eq_false (by omega),cond_false]
     exact Int.ediv_le_ediv (by omega) (by omega)
theorem Z9y {r m w c:Int} (hr:0≤r):max (Z09 r m w) (Z09 r m c)=Z09 r m (min w c):=by
 rcases Int.le_total w c with h | h
 · have:=Z2s (m:=m) hr h
   rw [Int.min_eq_left h];omega
 · have:=Z2s (m:=m) hr h
   rw [Int.min_eq_right h];omega
theorem Z9x {r m w:Int} (hr:0<r) (hw:w≤m) (h:m<w+r):Z09 r m w=0:=by
 unfold Z09
 rw [decide_eq_false (by omega),cond_false,decide_eq_false (by omega),cond_false]
 exact Int.ediv_eq_zero_of_lt (by omega) (by omega)
theorem Z5y {r m w:Int} (hr:0<r) (h:w+r≤m):Z09 r m (w+r)=Z09 r m w-1∧1≤Z09 r m w:=by
 have e:Z09 r m w=Z09 r m (w+r)+1:=by
   unfold Z09
   rw [decide_eq_false (by omega),cond_false,cond_false,decide_eq_false (by omega),cond_false,decide_eq_false (by omega),cond_false]
   rw [show m-w=(m-(w+r))+1*r by omega,Int.add_mul_ediv_right _ _ (by omega)]
 have:0≤Z09 r m (w+r):=by
   unfold Z09
   rw [decide_eq_false (by omega),cond_false,decide_eq_false (by omega),cond_false]
   exact Int.ediv_nonneg (by omega) (by omega)
 omega
theorem Zhi (l:List Nat) (k:Nat):ZaK (il l) (k:Int)=decide (k∈l):=by
 rw [Bool.eq_iff_iff,decide_eq_true_eq]
 unfold ZaK il
 rw [List.any_eq_true]
 constructor
 · rintro ⟨y,hy,he⟩
   obtain ⟨j,hj,rfl⟩:=List.mem_map.1 hy
   have:=of_decide_eq_true he
   obtain rfl:k=j:=by omega
   exact hj
 · intro h;exact ⟨(k:Int),List.mem_map.2 ⟨k,h,rfl⟩,decide_eq_true rfl⟩
theorem Barn.bin_at {b:Barn} (hb:b.ok) {k:Nat} (hk:k<b.bins.length):b.bins.getD k hb0∈b.bins:=by
 rw [List.getD_eq_getElem?_getD,List.getElem?_eq_getElem hk];exact List.getElem_mem hk
theorem Barn.mid_of {b:Barn} (hb:b.ok) {ws:List Int} (l:List Nat) {k:Nat} (hk:k<b.bins.length):b.dsk.mid (b.stw ws) l k=b.days (b.bins.getD k hb0) (bif ZaK (il l) k then min (na ws k) b.cool else na ws k):=by
 have hr:=b.worst_range hb (Barn.bin_at hb hk)
 unfold Dsk.mid
 rw [Zhi,Barn.stw_at hk,show na b.dsk.lasts k=_ from Barn.lasts_at hb hk]
 by_cases h:k∈l
 · rw [if_pos h,decide_eq_true h,cond_true];exact Z9y (by omega)
 · rw [if_neg h,decide_eq_false h,cond_false]
theorem Barn.run_day {b:Barn} (hb:b.ok) {ws:List Int} (hw:Cool b ws) {l:List Nat} (hl:∀ k∈l,k<b.bins.length) :
   ((∀ k<b.bins.length,b.hotAt ws (il l) k=false)→b.dsk.next (b.stw ws) l=some (b.stw (b.dayW ws (il l))))∧(∀ k<b.bins.length,b.hotAt ws (il l) k=true→b.dsk.next (b.stw ws) l=none):=by
 have hn:=hb.many
 have key:∀ k<b.bins.length,∃ r m v,(r=0∨6≤r)∧v≤m∧m≤60∧0≤v∧b.dsk.mid (b.stw ws) l k=Z09 r m v∧(b.hotAt ws (il l) k=decide (m<v+r))∧na (b.stw (b.dayW ws (il l))) k=Z09 r m (v+r):=fun k hk=>by
   have hm:=Barn.bin_at hb hk
   have hr:=b.worst_range hb hm
   obtain ⟨x,hx⟩:∃ x,b.bins[k]?=some x:=⟨_,List.getElem?_eq_getElem hk⟩
   have hc:=hw.at_ k x hx
   have hcl:=hb.cool
   have hmk:=(hb.bins x (List.mem_of_getElem? hx)).1
   have e1:=Barn.mid_of hb (ws:=ws) l hk
   rw [Z0v hx] at e1 hr
   refine ⟨b.worst x,x.mark,bif ZaK (il l) k then min (na ws k) b.cool else na ws k,by omega,?_,by omega,?_,e1,?_,?_⟩
   · cases ZaK (il l) k<;>simp only [cond_true,cond_false]<;>omega
   · cases ZaK (il l) k<;>simp only [cond_true,cond_false]<;>omega
   · unfold Barn.hotAt;rw [Z0v hx,b.wdAt_of hx];rfl
   · rw [Barn.stw_at hk,Z1f (b.dayW_at hk),b.wdAt_of hx,Z0v hx];rfl
 constructor
 · intro hcold
   obtain ⟨t,ht⟩:=b.dsk.next_some hn.2 (b.stw_len hb ws) hl (fun k hk=>by
     obtain ⟨r,m,v,h1,h2,h3,h4,h5,h6,h7⟩:=key k hk
     rw [h5]
     rcases h1 with rfl | h1
     · exact .inl rfl
     · have h8:=hcold k hk
       rw [h6,decide_eq_false_iff_not] at h8
       exact .inr (Z5y (by omega) (by omega)).2)
   rw [ht]
   congr 1
   obtain ⟨t1,t2⟩:=b.dsk.next_at hn.2 (b.stw_len hb ws) hl ht
   refine Z8i t1 (b.stw_len hb _) fun k _=>?_
   rw [(t2 k).2]
   rcases Nat.lt_or_ge k b.bins.length with hk | hk
   · obtain ⟨r,m,v,h1,h2,h3,h4,h5,h6,h7⟩:=key k hk
     rw [h7,h5]
     rcases h1 with rfl | h1
     · rw [if_neg (by intro h;exact h.2 rfl)];rfl
     · have h8:=hcold k hk
       rw [h6,decide_eq_false_iff_not] at h8
       have h9:=Z5y (r:=r) (m:=m) (w:=v) (by omega) (by omega)
       have h10:Z09 r m v≤60:=by
         unfold Z09
         rw [decide_eq_false (by omega),cond_false,decide_eq_false (by omega),cond_false]
         exact Int.le_trans (Int.ediv_le_self _ (by omega)) (by omega)
       rw [if_pos ⟨hk,by omega⟩,h9.1]
   · rw [if_neg (by intro h;have:k<b.bins.length:=h.1;omega),Barn.stw_out hk]
     unfold Dsk.mid
     rw [if_neg (fun h=>by have:=hl k h;omega),Barn.stw_out hk]
 · intro k hk hhot
   cases hnx:b.dsk.next (b.stw ws) l with
   | none=>rfl
   | some t =>
     exfalso
     have h8:=((b.dsk.next_at hn.2 (b.stw_len hb ws) hl hnx).2 k).1 hk
     obtain ⟨r,m,v,h1,h2,h3,h4,h5,h6,h7⟩:=key k hk
     rw [h6,decide_eq_true_eq] at hhot
     have h9:=Z9x (r:=r) (m:=m) (w:=v) (by omega) h2 hhot
     rw [h5,h9] at h8
     omega
theorem Barn.run_burns {b:Barn} (hb:b.ok):∀ (p:List (List Nat)) (ws:List Int) (d0:Nat),Cool b ws→(∀ l∈p,∀ k∈l,k<b.bins.length) →
   (∃ ws',b.burnsF ws (p.map il) d0=(none,ws')∧b.dsk.run (b.stw ws) p=some (b.stw ws')∧Cool b ws')∨(∃ q ws',b.burnsF ws (p.map il) d0=(some q,ws')∧b.dsk.run (b.stw ws) p=none)
 | [],ws,d0,hc,_=>.inl ⟨ws,rfl,rfl,hc⟩
 | l::p,ws,d0,hc,hl=>by
   obtain ⟨r1,r2⟩:=Barn.run_day hb hc (hl l (by simp))
   rw [List.map_cons,b.burns_cons]
   cases hf:(List.range b.bins.length).find? (b.hotAt ws (il l)) with
   | some k =>
     rw [List.find?_range_eq_some] at hf
     refine .inr ⟨_,_,rfl,?_⟩
     unfold Dsk.run
     rw [r2 k (List.mem_range.1 hf.2.1) hf.1]
   | none =>
     have hn:∀ k<b.bins.length,b.hotAt ws (il l) k=false:=fun k hk=>by
       have:=List.find?_eq_none.1 hf k (List.mem_range.2 hk)
       simpa using this
     dsimp only
     unfold Dsk.run
     rw [r1 hn]
     exact run_burns hb p _ (d0+1) (hc.next hb hn) (fun m hm=>hl m (by simp [hm]))
theorem Za9 {l:List Int} (h:l.Pairwise (· < ·)):ZhT l=true:=Z7C fun i x y hx hy=>by
 obtain ⟨h1,e1⟩:=List.getElem?_eq_some_iff.1 hx
 obtain ⟨h2,e2⟩:=List.getElem?_eq_some_iff.1 hy
 have:=List.pairwise_iff_getElem.1 h i (i+1) h1 h2 (by omega)
 rw [e1,e2] at this;exact this
theorem Z5H (n u:Nat):(il (ZR n u)).Pairwise (· < ·):=by
 unfold il ZR
 rw [List.pairwise_map]
 exact (List.Pairwise.filter _ List.pairwise_lt_range).imp fun h=>by omega
theorem Z7S {d:Dsk} {l:List Nat} (h:l∈d.trs false):Z7a d.n d.gangs (il l)=0:=by
 obtain ⟨u,hu,rfl,h1,_⟩:=d.mem_trs.1 h
 unfold Z7a
 have e1:((il (ZR d.n u)).all fun k=>inB k 0 ((d.n:Int)-1))=true:=by
   rw [List.all_eq_true]
   intro y hy
   obtain ⟨k,hk,rfl⟩:=List.mem_map.1 hy
   have:=Z4t hk
   simp [inB];omega
 rw [e1,Za9 (Z5H _ _),Zhk]
 unfold Dsk.g at h1
 rw [decide_eq_false (by omega)];rfl
theorem Z3l {d:Dsk}:∀ {p:List (List Nat)},(∀ l∈p,l∈d.trs false)→Z4C d.n d.gangs (p.map il)=0
 | [],_=>rfl
 | l::p,h=>by
   rw [List.map_cons]
   unfold Z4C
   rw [Z7S (h l (by simp))]
   exact Z3l fun m hm=>h m (by simp [hm])
theorem Z6M {d:Dsk} {p:List (List Nat)} (hl:p.length≤20000) (h:∀ l∈p,l∈d.trs false):Z3F d.n d.gangs (p.map il)=0:=by
 unfold Z3F
 rw [List.length_map,decide_eq_false (by omega)]
 exact Z3l h
theorem Dsk.trs_four {d:Dsk} (hd:d.ok) {l:List Nat} (h:l∈d.trs false):l.length≤4:=ZbZ hd h
theorem Dsk.pth_le {d:Dsk} (hd:d.ok):∀ {n:Nat} {s t:HSt} {c:Nat},d.pth n s t c→c≤4*n
 | 0,s,t,c,h=>by obtain ⟨_,rfl⟩:=h;omega
 | n+1,s,t,c,h=>by
   obtain ⟨u,a,l,h1,h2,_,rfl⟩:=h
   have:=pth_le hd h1
   have:=d.trs_four hd h2
   omega
def Sxc (n:Nat) (g:Int) (la:List Int) (now:List (List Int)) (cs:List Int) (i u:Nat) (t:List Int) (x:Int):Prop:=∃ j s v a,now[j]?=some s∧cs[j]?=some a∧(j<i∨(j=i∧v<u))∧v<2 ^ n∧rS n g la s v=some t∧x=a+((ZR 4 v).length:Int)
theorem Sxc.sx {n:Nat} {g:Int} {la:List Int} {now:List (List Int)} {cs:List Int} {i u:Nat} {t:List Int} {x:Int} (h:Sxc n g la now cs i u t x):Sx n g la now i u t:=by
 obtain ⟨j,s,v,a,h1,_,h3,h4,h5,_⟩:=h
 exact ⟨j,s,v,h1,h3,h4,h5⟩
theorem Sxc.step {n:Nat} {g:Int} {la s t:List Int} {now:List (List Int)} {cs:List Int} {i u:Nat} {a x:Int} (hs:now[i]?=some s) (ha:cs[i]?=some a) (hu:u<2 ^ n):Sxc n g la now cs i (u+1) t x↔Sxc n g la now cs i u t x∨(rS n g la s u=some t∧x=a+((ZR 4 u).length:Int)):=by
 constructor
 · rintro ⟨j,s',v,a',h1,h2,h3,h4,h5,h6⟩
   rcases h3 with h3 | ⟨rfl,h3⟩
   · exact .inl ⟨j,s',v,a',h1,h2,.inl h3,h4,h5,h6⟩
   · rcases Nat.lt_or_ge v u with h7 | h7
     · exact .inl ⟨j,s',v,a',h1,h2,.inr ⟨rfl,h7⟩,h4,h5,h6⟩
     · obtain rfl:v=u:=by omega
       rw [hs] at h1;cases h1;rw [ha] at h2;cases h2;exact .inr ⟨h5,h6⟩
 · rintro (⟨j,s',v,a',h1,h2,h3,h4,h5,h6⟩ | ⟨h5,h6⟩)
   · exact ⟨j,s',v,a',h1,h2,by omega,h4,h5,h6⟩
   · exact ⟨i,s,u,a,hs,ha,by omega,hu,h5,h6⟩
theorem Sxc.next {n:Nat} {g:Int} {la t:List Int} {now:List (List Int)} {cs:List Int} {i:Nat} {x:Int}:Sxc n g la now cs (i+1) 0 t x↔Sxc n g la now cs i (2 ^ n) t x:=by
 constructor
 · rintro ⟨j,s',v,a,h1,h2,h3,h4,h5⟩
   exact ⟨j,s',v,a,h1,h2,by omega,h4,h5⟩
 · rintro ⟨j,s',v,a,h1,h2,h3,h4,h5⟩
   exact ⟨j,s',v,a,h1,h2,by omega,h4,h5⟩
structure Bc (n:Nat) (g:Int) (la:List Int) (now:List (List Int)) (cs:List Int) (i u:Nat) (L:List (List Int)) (S:List Int):Prop where
 bf:Bf n g la now i u L
 len:S.length=L.length
 val:∀ (j:Nat) (t:List Int) (x:Int),L[j]?=some t→S[j]?=some x→Sxc n g la now cs i u t x∧∀ y,Sxc n g la now cs i u t y→x≤y
theorem Bc.start {n:Nat} {g:Int} {la:List Int} {now:List (List Int)} {cs:List Int}:Bc n g la now cs 0 0 [] []:=⟨Bf.start,rfl,fun j t x h=>by simp at h⟩
theorem Bc.next {n:Nat} {g:Int} {la:List Int} {now:List (List Int)} {cs:List Int} {i:Nat} {L:List (List Int)} {S:List Int} (h:Bc n g la now cs i (2 ^ n) L S):Bc n g la now cs (i+1) 0 L S :=
 ⟨h.bf.next,h.len,fun j t x h1 h2=>by
   obtain ⟨h3,h4⟩:=h.val j t x h1 h2
   exact ⟨Sxc.next.2 h3,fun y hy=>h4 y (Sxc.next.1 hy)⟩⟩
theorem Bc.skip {n:Nat} {g:Int} {la s:List Int} {now:List (List Int)} {cs:List Int} {i u:Nat} {L:List (List Int)} {S:List Int} {a:Int} (h:Bc n g la now cs i u L S) (hs:now[i]?=some s) (ha:cs[i]?=some a) (hu:u<2 ^ n) (hn:rS n g la s u=none):Bc n g la now cs i (u+1) L S :=
 ⟨h.bf.skip hs hu (fun t ht=>by rw [hn] at ht;cases ht),h.len,fun j t x h1 h2=>by
   obtain ⟨h3,h4⟩:=h.val j t x h1 h2
   refine ⟨(Sxc.step hs ha hu).2 (.inl h3),fun y hy=>?_⟩
   rcases (Sxc.step hs ha hu).1 hy with h5 | ⟨h5,_⟩
   · exact h4 y h5
   · rw [hn] at h5;cases h5⟩
theorem Bc.add {n:Nat} {g:Int} {la s t:List Int} {now:List (List Int)} {cs:List Int} {i u:Nat} {L:List (List Int)} {S:List Int} {a:Int} (h:Bc n g la now cs i u L S) (hs:now[i]?=some s) (ha:cs[i]?=some a) (hu:u<2 ^ n) (ht:rS n g la s u=some t) (hn:t∉L) :
   Bc n g la now cs i (u+1) (L++[t]) (S++[a+((ZR 4 u).length:Int)]) where
 bf:=h.bf.add hs hu ht hn
 len:=by rw [List.length_append,List.length_append,h.len];rfl
 val j t' x h1 h2:=by
   have hl:=h.len
   rcases Nat.lt_or_ge j L.length with hj | hj
   · rw [List.getElem?_append_left hj] at h1
     rw [List.getElem?_append_left (by omega)] at h2
     obtain ⟨h3,h4⟩:=h.val j t' x h1 h2
     refine ⟨(Sxc.step hs ha hu).2 (.inl h3),fun y hy=>?_⟩
     rcases (Sxc.step hs ha hu).1 hy with h5 | ⟨h5,_⟩
     · exact h4 y h5
     · rw [ht] at h5;cases h5;exact absurd (List.mem_of_getElem? h1) hn
   · have hj2:=(List.getElem?_eq_some_iff.1 h1).1
     rw [List.length_append,List.length_singleton] at hj2
     obtain rfl:j=L.length:=by omega
     rw [List.getElem?_append_right (Nat.le_refl _),Nat.sub_self] at h1
     rw [← hl,List.getElem?_append_right (Nat.le_refl _),Nat.sub_self] at h2
     cases h1;cases h2
     refine ⟨(Sxc.step hs ha hu).2 (.inr ⟨ht,rfl⟩),fun y hy=>?_⟩
     rcases (Sxc.step hs ha hu).1 hy with h5 | ⟨_,h5⟩
     · exact absurd ((h.bf.mem _).2 h5.sx) hn
     · rw [h5];exact Int.le_refl _
theorem Bc.low {n:Nat} {g:Int} {la s t:List Int} {now:List (List Int)} {cs:List Int} {i u k:Nat} {L:List (List Int)} {S:List Int} {a x:Int} (h:Bc n g la now cs i u L S) (hs:now[i]?=some s) (ha:cs[i]?=some a) (hu:u<2 ^ n) (ht:rS n g la s u=some t) (hk:L[k]?=some t) (hx:S[k]?=some x) :
   Bc n g la now cs i (u+1) L (S.set k (min x (a+((ZR 4 u).length:Int)))) where
 bf:=h.bf.skip hs hu (fun t2 ht2=>by rw [ht] at ht2;cases ht2;exact List.mem_of_getElem? hk)
 len:=by rw [List.length_set,h.len]
 val j t' y h1 h2:=by
   have hl:=h.len
   have hkl:=(List.getElem?_eq_some_iff.1 hk).1
   by_cases hj:k=j
   · subst hj
     rw [hk] at h1;cases h1
     rw [List.getElem?_set_self (by omega)] at h2;cases h2
     obtain ⟨h3,h4⟩:=h.val k t x hk hx
     refine ⟨(Sxc.step hs ha hu).2 ?_,fun y hy=>?_⟩
     · rcases Int.le_total x (a+((ZR 4 u).length:Int)) with h5 | h5
       · rw [Int.min_eq_left h5];exact .inl h3
       · rw [Int.min_eq_right h5];exact .inr ⟨ht,rfl⟩
     · rcases (Sxc.step hs ha hu).1 hy with h5 | ⟨_,h5⟩
       · have:=h4 y h5;omega
       · omega
   · rw [List.getElem?_set_ne hj] at h2
     obtain ⟨h3,h4⟩:=h.val j t' y h1 h2
     refine ⟨(Sxc.step hs ha hu).2 (.inl h3),fun z hz=>?_⟩
     rcases (Sxc.step hs ha hu).1 hz with h5 | ⟨h5,_⟩
     · exact h4 z h5
     · rw [ht] at h5;cases h5
       exact absurd ((List.getElem?_inj hkl h.bf.nd).1 (hk.trans h1.symm)) hj
structure Lvc (d:Dsk) (s0:HSt) (day:Nat) (L:List (List Int)) (C:List Int):Prop where
 lv:Lv d s0 day L
 len:C.length=L.length
 val:∀ (j:Nat) (t:List Int) (x:Int),L[j]?=some t→C[j]?=some x→∃ c:Nat,x=c∧d.pth day s0 (pad t) c∧∀ c',d.pth day s0 (pad t) c'→c≤c'
theorem Lvc.start {d:Dsk} {s:List Int} (hs:s.length=d.n):Lvc d (pad s) 0 [s] [0]:=⟨Lv.start hs,rfl,fun j t x h1 h2=>by
 cases j with
 | succ j=>simp at h1
 | zero=>cases h1;cases h2;exact ⟨0,rfl,⟨rfl,rfl⟩,fun c' _=>Nat.zero_le _⟩⟩
theorem Lvc.next {d:Dsk} (hd:d.ok) {s0:HSt} (h0:d.inS s0) {la:List Int} (hla:∀ k<d.n,na la k=na d.lasts k) {day:Nat} {now L:List (List Int)} {cs S:List Int} (h:Lvc d s0 day now cs) (hb:Bc d.n d.gangs la now cs now.length 0 L S):Lvc d s0 (day+1) L S where
 lv:=h.lv.next hd h0 hla hb.bf
 len:=hb.len
 val j t x h1 h2:=by
   have hn:=hd.n
   have htl:=hb.bf.len t (List.mem_of_getElem? h1)
   obtain ⟨⟨i,s,v,a,g1,g2,_,g4,g5,rfl⟩,h4⟩:=hb.val j t x h1 h2
   obtain ⟨ca,rfl,hp,_⟩:=h.val i s a g1 g2
   have hsl:=h.lv.len s (List.mem_of_getElem? g1)
   obtain ⟨k1,k2⟩:=(Z5X hd hla hsl htl g4).1 g5
   have e4:=Z6K hn.2 g4
   refine ⟨ca+(ZR d.n v).length,by rw [e4];push_cast;rfl,⟨_,ca,_,hp,k1,k2,rfl⟩,fun c' hc'=>?_⟩
   obtain ⟨u,a',l,p1,p2,p3,rfl⟩:=hc'
   have hu:=d.pth_inS hd h0 p1
   have eu:=Z3z hd hu
   have hul:(u.take d.n).length=d.n:=by rw [List.length_take,hu.len];omega
   have hmem:u.take d.n∈now:=(h.lv.mem _ hul).2 ⟨a',by rw [eu];exact p1⟩
   obtain ⟨i2,hi2⟩:=List.getElem?_of_mem hmem
   have hi2l:=(List.getElem?_eq_some_iff.1 hi2).1
   obtain ⟨y,hy⟩:∃ y,cs[i2]?=some y:=⟨_,List.getElem?_eq_getElem (by rw [h.len];exact hi2l)⟩
   obtain ⟨cy,rfl,_,hmin⟩:=h.val i2 _ y hi2 hy
   rw [eu] at hmin
   have:=hmin a' p1
   obtain ⟨w,hw,rfl,_⟩:=d.mem_trs.1 p2
   have e5:=Z6K hn.2 hw
   have:=h4 _ ⟨i2,_,w,_,hi2,hy,.inl hi2l,hw,(Z5X hd hla hul htl hw).2 ⟨p2,by rw [eu];exact p3⟩,rfl⟩
   omega
theorem Lvc.few {d:Dsk} (hd:d.ok) {s0:HSt} (h0:d.inS s0) {day:Nat} {L:List (List Int)} {C:List Int} (h:Lvc d s0 day L C) {j:Nat} {x:Int} (hx:C[j]?=some x) (hm:∀ (i:Nat) (y:Int),C[i]?=some y→x≤y):∃ c:Nat,x=c∧FewC d s0 day c:=by
 have hj:=(List.getElem?_eq_some_iff.1 hx).1
 have hl:=h.len
 obtain ⟨t,ht⟩:∃ t,L[j]?=some t:=⟨_,List.getElem?_eq_getElem (by omega)⟩
 obtain ⟨c,rfl,hp,_⟩:=h.val j t x ht hx
 refine ⟨c,rfl,⟨_,hp⟩,fun u c' hu=>?_⟩
 have hi:=d.pth_inS hd h0 hu
 have eu:=Z3z hd hi
 have hn:=hd.n
 have hmem:u.take d.n∈L:=(h.lv.mem _ (by rw [List.length_take,hi.len];omega)).2 ⟨c',by rw [eu];exact hu⟩
 obtain ⟨i2,hi2⟩:=List.getElem?_of_mem hmem
 have hi2l:=(List.getElem?_eq_some_iff.1 hi2).1
 obtain ⟨y,hy⟩:∃ y,C[i2]?=some y:=⟨_,List.getElem?_eq_getElem (by omega)⟩
 obtain ⟨cy,rfl,_,hmin⟩:=h.val i2 _ y hi2 hy
 rw [eu] at hmin
 have:=hmin c' hu
 have:=hm i2 _ hy
 omega
theorem Lvc.none {d:Dsk} (hd:d.ok) {s0:HSt} (h0:d.inS s0) {day:Nat} {L:List (List Int)} {C:List Int} (h:Lvc d s0 day L C) (hc:C=[]):¬ ∃ t c,d.pth day s0 t c:=by
 rintro ⟨u,c',hu⟩
 have hi:=d.pth_inS hd h0 hu
 have eu:=Z3z hd hi
 have hn:=hd.n
 have hmem:u.take d.n∈L:=(h.lv.mem _ (by rw [List.length_take,hi.len];omega)).2 ⟨c',by rw [eu];exact hu⟩
 have hl:=h.len
 rw [hc] at hl
 rw [List.length_eq_zero_iff.1 hl.symm] at hmem
 cases hmem
theorem Lvc.bd {d:Dsk} (hd:d.ok) {s0:HSt} {day:Nat} {L:List (List Int)} {C:List Int} (h:Lvc d s0 day L C) {j:Nat} {x:Int} (hx:C[j]?=some x):0≤x∧x≤4*(day:Int):=by
 have hj:=(List.getElem?_eq_some_iff.1 hx).1
 have hl:=h.len
 obtain ⟨t,ht⟩:∃ t,L[j]?=some t:=⟨_,List.getElem?_eq_getElem (by omega)⟩
 obtain ⟨c,rfl,hp,_⟩:=h.val j t x ht hx
 have:=d.pth_le hd hp
 omega
theorem Bc.bd {n:Nat} {g:Int} {la:List Int} {now:List (List Int)} {cs:List Int} {i u:Nat} {L:List (List Int)} {S:List Int} {B:Int} (h:Bc n g la now cs i u L S) (hc:∀ (j:Nat) (x:Int),cs[j]?=some x→0≤x∧x≤B) {j:Nat} {x:Int} (hx:S[j]?=some x):0≤x∧x≤B+4:=by
 have hj:=(List.getElem?_eq_some_iff.1 hx).1
 have hl:=h.len
 obtain ⟨t,ht⟩:∃ t,L[j]?=some t:=⟨_,List.getElem?_eq_getElem (by omega)⟩
 obtain ⟨⟨i,s,v,a,_,g2,_,_,_,rfl⟩,_⟩:=h.val j t x ht hx
 have:=hc _ _ g2
 have:=Ze3 v
 omega
def Zim (b:Barn) (n:Nat) (m:Int):Prop:=(m = -1∧¬ ∃ t c,b.dsk.pth n b.state t c)∨∃ c:Nat,m=c∧FewC b.dsk b.state n c
def MinI (cs:List Int) (i:Nat) (m:Int):Prop:=(i=0∧m = -1)∨(0<i∧0≤m∧(∃ j:Nat,cs[j]?=some m)∧∀ (j:Nat) (x:Int),j<i→cs[j]?=some x→m≤x)
theorem MinI.take {cs:List Int} {i:Nat} {m x:Int} (h:MinI cs i m) (hx:cs[i]?=some x) (h0:0≤x) (hc:m<0∨x<m):MinI cs (i+1) x:=by
 refine .inr ⟨by omega,h0,⟨i,hx⟩,fun j y hj hy=>?_⟩
 rcases Nat.lt_or_ge j i with h1 | h1
 · rcases h with ⟨rfl,_⟩ | ⟨_,h2,_,h3⟩
   · omega
   · have:=h3 j y h1 hy;omega
 · obtain rfl:j=i:=by omega
   rw [hx] at hy;cases hy;exact Int.le_refl _
theorem MinI.keep {cs:List Int} {i:Nat} {m x:Int} (h:MinI cs i m) (hx:cs[i]?=some x) (h0:¬ m<0) (hc:¬ x<m):MinI cs (i+1) m:=by
 rcases h with ⟨_,rfl⟩ | ⟨h1,h2,h3,h4⟩
 · omega
 · refine .inr ⟨by omega,h2,h3,fun j y hj hy=>?_⟩
   rcases Nat.lt_or_ge j i with h5 | h5
   · exact h4 j y h5 hy
   · obtain rfl:j=i:=by omega
     rw [hx] at hy;cases hy;omega
theorem MinI.done {b:Barn} (hok:b.ok) {n:Nat} {L:List (List Int)} {cs:List Int} (h:Lvc b.dsk b.state n L cs) {m:Int} (hm:MinI cs cs.length m):Zim b n m:=by
 have hdk:=b.dsk_ok hok
 have hst:=b.state_inS hok
 rcases hm with ⟨h1,rfl⟩ | ⟨_,_,⟨j,hj⟩,h4⟩
 · exact .inl ⟨rfl,h.none hdk hst (List.length_eq_zero_iff.1 h1)⟩
 · exact .inr (h.few hdk hst hj fun i y hy=>h4 i y (List.getElem?_eq_some_iff.1 hy).1 hy)
structure Les (d d':Dsk):Prop where
 n:d.n=d'.n
 g:d.gangs≤d'.gangs
 lasts:∀ k<d.n,na d.lasts k≤na d'.lasts k
theorem Les.next {d d':Dsk} (h:Les d d') (hd:d.ok) (hd':d'.ok) {s s' t:HSt} (hs:d.inS s) (hs':d'.inS s') (hle:∀ k<d.n,na s k≤na s' k) {l:List Nat} (hl:∀ k∈l,k<d.n) (e:d.next s l=some t):∃ t',d'.next s' l=some t'∧∀ k<d.n,na t k≤na t' k:=by
 have hn:=h.n
 obtain ⟨_,h2⟩:=d.next_at hd.n.2 hs.len hl e
 have hl':∀ k∈l,k<d'.n:=fun k hk=>by have:=hl k hk;omega
 have hm:∀ k<d.n,d.mid s l k≤d'.mid s' l k:=fun k hk=>by
   have h4:=hle k hk
   have h5:=h.lasts k hk
   unfold Dsk.mid
   by_cases h3:k∈l
   · rw [if_pos h3,if_pos h3];omega
   · rw [if_neg h3,if_neg h3];exact h4
 obtain ⟨t',ht'⟩:=d'.next_some hd'.n.2 hs'.len hl' (fun k hk=>by
   have hk0:k<d.n:=by omega
   have:=hm k hk0;have:=(h2 k).1 hk0;have:=d.inS_mid hd hs l hk0;have:=d'.inS_mid hd' hs' l hk;have:=(hd.ever k hk0).2.1;have:=(hd'.ever k hk).2.1;omega)
 refine ⟨t',ht',fun k hk=>?_⟩
 have hk':k<d'.n:=by omega
 obtain ⟨_,h3⟩:=d'.next_at hd'.n.2 hs'.len hl' ht'
 have a1:=(h2 k).2;have a2:=(h3 k).2
 have:=hm k hk
 have b1:=d.inS_mid hd hs l hk;have b2:=d'.inS_mid hd' hs' l hk'
 have:=(hd.ever k hk).2.1;have:=(hd'.ever k hk').2.1
 rw [a1,a2]
 split<;>split<;>omega
theorem Les.trs {d d':Dsk} (h:Les d d') {l:List Nat} (hl:l∈d.trs false):l∈d'.trs false:=by
 obtain ⟨u,hu,rfl,h1,_⟩:=d.mem_trs.1 hl
 have hn:=h.n;have hg:=h.g
 refine d'.mem_trs.2 ⟨u,by rw [← hn];exact hu,by rw [← hn],?_,fun h=>by cases h⟩
 unfold Dsk.g at h1 ⊢
 omega
theorem Les.pth {d d':Dsk} (h:Les d d') (hd:d.ok) (hd':d'.ok) {s s':HSt} (hs:d.inS s) (hs':d'.inS s') (hle:∀ k<d.n,na s k≤na s' k):∀ {n:Nat} {t:HSt} {c:Nat},d.pth n s t c→∃ t',d'.pth n s' t' c∧∀ k<d.n,na t k≤na t' k
 | 0,t,c,hp=>by obtain ⟨rfl,rfl⟩:=hp;exact ⟨s',⟨rfl,rfl⟩,hle⟩
 | n+1,t,c,hp=>by
   obtain ⟨u,a,l,h1,h2,h3,rfl⟩:=hp
   obtain ⟨u',i1,i2⟩:=Les.pth h hd hd' hs hs' hle h1
   obtain ⟨t',j1,j2⟩:=h.next hd hd' (d.pth_inS hd hs h1) (d'.pth_inS hd' hs' i1) i2 (d.trs_lt h2) h3
   exact ⟨t',⟨u',a,l,i1,h.trs h2,j1,rfl⟩,j2⟩
theorem Les.run {d d':Dsk} (h:Les d d') (hd:d.ok) (hd':d'.ok):∀ {p:List (List Nat)} {s s' t:HSt},d.inS s→d'.inS s'→(∀ k<d.n,na s k≤na s' k)→(∀ l∈p,l∈d.trs false)→d.run s p=some t→∃ t',d'.run s' p=some t'∧∀ k<d.n,na t k≤na t' k
 | [],s,s',t,_,_,hle,_,hr=>by cases hr;exact ⟨s',rfl,hle⟩
 | l::p,s,s',t,hs,hs',hle,hp,hr=>by
   unfold Dsk.run at hr
   split at hr
   · cases hr
   · rename_i u hu
     obtain ⟨u',j1,j2⟩:=h.next hd hd' hs hs' hle (d.trs_lt (hp l (by simp))) hu
     have hlt:=d'.trs_lt (h.trs (hp l (by simp)))
     obtain ⟨t',i1,i2⟩:=Les.run h hd hd' (d.next_inS hd hs (d.trs_lt (hp l (by simp))) hu) (d'.next_inS hd' hs' hlt j1) j2 (fun m hm=>hp m (by simp [hm])) hr
     refine ⟨t',?_,i2⟩
     unfold Dsk.run
     rw [j1];exact i1
theorem Za0 {d:Dsk} (hd:d.ok) {s:HSt} (hs:d.inS s) {v:Int} (h:Kpt d s v) (n:Nat):(∃ t c,d.pth n s t c)↔v=1000000∨(n:Int)≤v:=by
 rw [← d.alive_iff hd hs]
 rcases h with ⟨rfl,h1⟩ | ⟨j,hj,rfl,h1,h2⟩
 · exact ⟨fun _=>.inl rfl,fun _=>h1 n⟩
 · constructor
   · intro h3
     right
     rcases Nat.lt_or_ge j n with h4 | h4
     · exact absurd (d.alive_le (by omega) h3) h2
     · omega
   · rintro (h3 | h3)
     · omega
     · exact d.alive_le (by omega) h1
theorem ZcD {d:Dsk} {s:HSt} {v:Int} (h:Kpt d s v):0≤v∧(v=1000000∨v≤14641):=by
 rcases h with ⟨rfl,_⟩ | ⟨j,hj,rfl,_⟩<;>omega
theorem Zhq {d d':Dsk} (hd:d.ok) (hd':d'.ok) {s s':HSt} (hs:d.inS s) (hs':d'.inS s') (hp:∀ n,(∃ t c,d.pth n s t c)→∃ t c,d'.pth n s' t c) {v v':Int} (h:Kpt d s v) (h':Kpt d' s' v'):v≤v'∧(v=1000000→v'=1000000):=by
 have n1:=ZcD h;have n2:=ZcD h'
 have key:∀ n:Nat,(v=1000000∨(n:Int)≤v)→(v'=1000000∨(n:Int)≤v'):=fun n hn=>(Za0 hd' hs' h' n).1 (hp n ((Za0 hd hs h n).2 hn))
 rcases Int.lt_or_le v' 1000000 with h1 | h1
 · have h2:=key (v'.toNat+1)
   have h3:=key v.toNat
   omega
 · omega
theorem Les.kpt {d d':Dsk} (h:Les d d') (hd:d.ok) (hd':d'.ok) {s s':HSt} (hs:d.inS s) (hs':d'.inS s') (hle:∀ k<d.n,na s k≤na s' k) {v v':Int} (hv:Kpt d s v) (hv':Kpt d' s' v'):v≤v'∧(v=1000000→v'=1000000) :=
 Zhq hd hd' hs hs' (fun _ ⟨_,c,hp⟩=>by obtain ⟨t',i,_⟩:=h.pth hd hd' hs hs' hle hp;exact ⟨t',c,i⟩) hv hv'
theorem Les.few {d d':Dsk} (h:Les d d') (hd:d.ok) (hd':d'.ok) {s s':HSt} (hs:d.inS s) (hs':d'.inS s') (hle:∀ k<d.n,na s k≤na s' k) {n c c':Nat} (hc:FewC d s n c) (hc':FewC d' s' n c'):c'≤c:=by
 obtain ⟨t,ht⟩:=hc.is
 obtain ⟨t',i,_⟩:=h.pth hd hd' hs hs' hle ht
 exact hc'.le _ _ i
theorem FewC.less {d:Dsk} {s:HSt} {n c c':Nat} (h:FewC d s (n+1) c) (h':FewC d s n c'):c'≤c:=by
 obtain ⟨t,u,a,l,h1,_,_,rfl⟩:=h.is
 have:=h'.le _ _ h1
 omega
structure PlnOk (b:Barn) (n c:Nat) (p:List (List Nat)):Prop where
 few:FewC b.dsk b.state n c
 len:p.length=n
 trs:∀ l∈p,l∈b.dsk.trs false
 run:∃ t,b.dsk.run b.state p=some t
 sum:Z3O p=c
theorem Z4d {b:Barn} (hok:b.ok) (hck:b.check=0) {n:Nat} (hn:n≤20):(Z5S b n=6∧Z68 b n=0∧¬ ∃ t c,b.dsk.pth n b.state t c)∨∃ (c:Nat) (p:List (List Nat)),Z5S b n=0∧Z68 b n=c∧ZcN b n=p.map il∧PlnOk b n c p:=by
 have hin:inB (n:Int) 0 20=true:=by simp [inB];omega
 have he:Z5S b n=bif (Z4s b.dsk (Z2Y b.dsk b.state n) b.dsk.nst).isNone then 6 else 0:=by
   unfold Z5S;rw [decide_eq_true hck,hin,Int.toNat_natCast];rfl
 rcases ZaV (b.dsk_ok hok) (b.state_inS hok) n with ⟨h1,h2⟩ | ⟨s,c,h1,h2,h3,h4,h5,h6⟩
 · have e6:Z5S b n=6:=by rw [he,h1];rfl
   exact .inl ⟨e6,by unfold Z68;rw [e6];rfl,h2⟩
 · have e0:Z5S b n=0:=by rw [he,h1];rfl
   refine .inr ⟨c,Z21 b.dsk b.state n s,e0,by unfold Z68;rw [e0,Int.toNat_natCast,h1];rfl,by unfold ZcN;rw [Int.toNat_natCast,h1];rfl,h2,h3,h4,⟨s,h5⟩,h6⟩
structure RndOk (b:Barn) (p q:List (List Nat)):Prop where
 hp:∀ l∈p,l∈b.dsk.trs true
 hq:∀ l∈q,l∈b.dsk.trs true
 ne:q≠[]
 len:p.length+q.length≤14641
 run:∃ u,b.dsk.run b.state p=some u∧b.dsk.run u q=some u
theorem Dsk.run_rep {d:Dsk} {u:HSt} {q:List (List Nat)} (h:d.run u q=some u):∀ n,d.run u (List.replicate n q).flatten=some u
 | 0=>rfl
 | n+1=>by
   rw [List.replicate_succ,List.flatten_cons,d.run_app,h]
   exact run_rep h n
theorem RndOk.goes {b:Barn} (hb:b.ok) {p q:List (List Nat)} (h:RndOk b p q):b.goes (p.map il) (q.map il):=fun n=>by
 obtain ⟨u,h1,h2⟩:=h.run
 have e:p.map il++rep n (q.map il)=(p++(List.replicate n q).flatten).map il:=by
   unfold rep
   rw [List.map_append,List.map_flatten,List.map_replicate]
 rw [e]
 have hr:b.dsk.run (b.stw b.warms) (p++(List.replicate n q).flatten)=some u:=by
   rw [Barn.stw_warms hb,b.dsk.run_app,h1]
   exact Dsk.run_rep h2 n
 rcases Barn.run_burns hb (p++(List.replicate n q).flatten) b.warms 0 (Cool.start hb) (fun l hl k hk=>by
   rcases List.mem_append.1 hl with hl | hl
   · exact b.dsk.trs_lt (h.hp l hl) k hk
   · obtain ⟨r,hr,hl⟩:=List.mem_flatten.1 hl
     rw [(List.mem_replicate.1 hr).2] at hl
     exact b.dsk.trs_lt (h.hq l hl) k hk) with ⟨ws,h3,_⟩ | ⟨x,ws,_,h4⟩
 · rw [h3]
 · rw [hr] at h4;cases h4
structure Met (d:Dsk) (s0:HSt) (S:List HSt) (p:List (List Nat)) (s:HSt):Prop where
 len:S.length=p.length
 nd:S.Nodup
 trs:∀ l∈p,l∈d.trs true
 at_:∀ j t,S[j]?=some t→d.run s0 (p.take j)=some t∧d.inS t
 run:d.run s0 p=some s
 inS:d.inS s
 ever:∀ m,s∈d.alive m
theorem Met.start {d:Dsk} {s:HSt} (h:d.inS s) (he:∀ m,s∈d.alive m):Met d s [] [] s:=⟨rfl,List.nodup_nil,by simp,by simp,rfl,h,he⟩
theorem Met.few {d:Dsk} (hd:d.ok) {s0 s:HSt} {S:List HSt} {p:List (List Nat)} (h:Met d s0 S p s):S.length≤d.nst:=by
 have:=Z3E h.nd (m:=d.sts) fun t ht=>by
   obtain ⟨j,hj⟩:=List.getElem?_of_mem ht
   exact (d.mem_sts hd t).2 (h.at_ j t hj).2
 rw [d.sts_len] at this
 exact this
theorem Met.next {d:Dsk} (hd:d.ok) {s0 s t:HSt} {S:List HSt} {p:List (List Nat)} (h:Met d s0 S p s) (hs:s∉S) {l:List Nat} (hl:l∈d.trs true) (hn:d.next s l=some t) (he:∀ m,t∈d.alive m):Met d s0 (S++[s]) (p++[l]) t where
 len:=by rw [List.length_append,List.length_append,h.len];rfl
 nd:=List.nodup_append.2 ⟨h.nd,by simp,fun x hx y hy e=>hs (by rw [← List.mem_singleton.1 hy,← e];exact hx)⟩
 trs m hm:=by
   rcases List.mem_append.1 hm with hm | hm
   · exact h.trs m hm
   · rw [List.mem_singleton.1 hm];exact hl
 at_ j u hu:=by
   have hlen:=h.len
   rcases Nat.lt_or_ge j S.length with hj | hj
   · rw [List.getElem?_append_left hj] at hu
     rw [List.take_append_of_le_length (by omega)]
     exact h.at_ j u hu
   · have hj2:=(List.getElem?_eq_some_iff.1 hu).1
     rw [List.length_append,List.length_singleton] at hj2
     obtain rfl:j=S.length:=by omega
     rw [List.getElem?_append_right (Nat.le_refl _),Nat.sub_self] at hu
     cases hu
     rw [hlen,List.take_left]
     exact ⟨h.run,h.inS⟩
 run:=by rw [d.run_app,h.run];dsimp only;rw [d.run_one];exact hn
 inS:=d.next_inS hd h.inS (d.trs_lt hl) hn
 ever:=he
theorem Met.done {b:Barn} (hok:b.ok) {s:HSt} {S:List HSt} {p:List (List Nat)} (h:Met b.dsk b.state S p s) {j:Nat} (hj:S[j]?=some s):RndOk b (p.take j) (p.drop j):=by
 have hjl:=(List.getElem?_eq_some_iff.1 hj).1
 have hlen:=h.len
 have hf:=h.few (b.dsk_ok hok)
 have hn:=(b.dsk.nst_le (b.dsk_ok hok)).2
 refine ⟨fun l hl=>h.trs l (List.mem_of_mem_take hl),fun l hl=>h.trs l (List.mem_of_mem_drop hl),fun e=>?_,?_,s,(h.at_ j s hj).1,?_⟩
 · have:=congrArg List.length e
   rw [List.length_drop,List.length_nil] at this;omega
 · rw [List.length_take,List.length_drop];omega
 · have h1:=h.run
   rw [← List.take_append_drop j p,b.dsk.run_app,(h.at_ j s hj).1] at h1
   exact h1
theorem Inn.sub {l k:List PL} (h:∀ x∈k,x∈l) {w:World} (hi:Inn l w):Inn k w:=fun x hx=>hi x (h x hx)
theorem brn_iff {b:Barn} {p:List (List Int)}:(Zb0 b p).2.2=false↔(b.burnsF b.warms p 0).1=none:=by
 rcases Z8B b p with ⟨ws,h1,h2⟩ | ⟨d,k,ws,h1,h2⟩<;>rw [h1,h2]<;>simp
structure RWant (b:Barn) (p q:List (List Int)) (w u:Int) (g:Bool):Prop where
 u:u=Z3y b p q
 g:g=true↔Z3y b p q=0∧b.goes p q
 w:(b.check≠0∧w=b.check)∨(b.check=0∧w=0∧Kpt b.dsk b.state 1000000)∨(b.check=0∧w=6∧∃ v,v≠1000000∧Kpt b.dsk b.state v)
theorem RWant.w1 {b:Barn} {p q:List (List Int)} {w u:Int} {g:Bool} (h:RWant b p q w u g) (hc:b.check≠0):w=b.check:=by
 rcases h.w with ⟨_,h2⟩ | ⟨h1,_⟩ | ⟨h1,_⟩
 · exact h2
 · exact absurd h1 hc
 · exact absurd h1 hc
theorem RWant.val {b:Barn} {p q:List (List Int)} {w u:Int} {g:Bool} (h:RWant b p q w u g) {v:Value} (hv:Zik b p q v):v = .tuple #[.bool g,.int .i64 u]:=by
 rcases hv with ⟨h1,rfl⟩ | ⟨h1,is,h2,rfl⟩
 · have e:g=false:=by
     cases hg:g with
     | false=>rfl
     | true=>exact absurd (h.g.1 hg).1 h1
   rw [e,h.u]
 · have e:is=g:=by
     rw [Bool.eq_iff_iff,h2,h.g]
     exact ⟨fun h3=>⟨h1,h3⟩,fun h3=>h3.2⟩
   rw [e,h.u,h1]
theorem Z4y:cal Tryz.prog 19=true:=by kernel_rfl
theorem Z0Z:cal Tryz.prog 20=true:=by kernel_rfl
theorem ZiS:cal Tryz.prog 56=true:=by kernel_rfl
theorem Zjn:ZB Tryz.prog 24=some 1:=by kernel_rfl
theorem ZeO:ZB Tryz.prog 26=some 9:=by kernel_rfl
theorem Zjp:ZB Tryz.prog 81=some 1:=by kernel_rfl
theorem Zkq:elN Tryz.prog 22=some 1:=by kernel_rfl
theorem Z7k:ZT Tryz.prog 83 0=some 0:=by kernel_rfl
theorem Z3w:ZT Tryz.prog 83 1=some 1:=by kernel_rfl
theorem Z0G:ZT Tryz.prog 83 2=some 2:=by kernel_rfl
theorem ik3:Z7Y Tryz.prog 3=some .i64:=by kernel_rfl
theorem Zkc:Z7Y Tryz.prog 81=some .u32:=by kernel_rfl
theorem Zbn:Z2n Tryz.prog 22=true:=by kernel_rfl
theorem Zkv:ZL Tryz.prog 26=some [(0,1),(1,1),(2,6),(8,1)]:=by kernel_rfl
theorem ZeS:ZL Tryz.prog 34=some [(0,1),(1,1)]:=by kernel_rfl
theorem Zkw:ZL Tryz.prog 36=some [(0,1),(1,1),(2,2)]:=by kernel_rfl
theorem Zkx:ZL Tryz.prog 83=some [(0,1),(1,1),(2,1)]:=by kernel_rfl
theorem Zie:Z0g Tryz.prog 22=true:=by kernel_rfl
theorem sc5:Z0g Tryz.prog 5=true:=by kernel_rfl
theorem Zap:Z0g Tryz.prog 81=true:=by kernel_rfl
theorem Zkz:slE Tryz.prog 24=some (36,4):=by kernel_rfl
theorem us3:(Tryz.prog.underlying 3).isSome=true:=by kernel_rfl
theorem us5:(Tryz.prog.underlying 5).isSome=true:=by kernel_rfl
theorem Zij:(Tryz.prog.underlying 81).isSome=true:=by kernel_rfl
theorem ZeI:Zw Tryz.prog 26=some ([.int .i64 0,.int .i64 0,.int .i64 0,.int .i64 0,.int .i64 0,.int .i64 0,.int .i64 0,.int .i64 0,.slice none 0 0]):=by kernel_rfl
theorem ZeU:Zw Tryz.prog 34=some ([.int .i64 0,.int .i64 0]):=by kernel_rfl
theorem ZkD:Zw Tryz.prog 83=some ([.slice none 0 0,.int .i64 0,.int .u32 0]):=by kernel_rfl
def nn (l:List Int) (k:Nat):Int:=l.getD k 0
theorem ZcJ {l:List Int} {i j:Nat} {v:Int} (h:i<l.length):nn (l.set i v) j=bif i == j then v else nn l j:=by
 unfold nn
 rw [List.getD_eq_getElem?_getD,List.getD_eq_getElem?_getD,List.getElem?_set]
 by_cases e:i=j
 · subst e;rw [if_pos rfl,if_pos h];simp
 · rw [if_neg e,show (i == j)=false from by simpa using e];rfl
def urow (x:Int):List Value:=[.int .u8 x]
def Z41 (l:List Int):List (List Value):=l.map urow
theorem Zc7 (g:List Int) (ag:Option Addr) (cg:Nat) (hgl:g.length≤9223372036854775807) (H:Z7) (R:Z4) :
    Fn Tryz.prog 6 [.slice ag g.length cg] H R (fun v H' R'=>∃ bk,∃ mx:Int,(0≤mx∧mx≤4294967295)∧v = .pointer (some ⟨bk,0,none⟩)∧H'=(bk,cel 83 [.slice ag g.length cg,.int .i64 (0),.int .u32 (mx)])::H∧R'=R):=by
 refine Z9 Tryz.func6 rfl Tryz.ntmps6 rfl ?_
 refine sqt 1 rfl (pur 1 rfl (sqt 8 rfl (pur 2 rfl (sp rfl (PE.lenSl Zbn rfl) rfl ?_))))
 refine spE rfl (PE.convU us3 Zkc rfl) rfl ?_
 rintro _ ⟨u6,rfl,hu6⟩
 refine spE rfl (PE.xorU rfl rfl) rfl ?_
 rintro _ ⟨u7,rfl,hu7⟩
 refine sp rfl (PE.build (out:=[_,_,_]) Zkx ZkD rfl rfl) rfl (bx rfl rfl rfl (fun b9=>pur 1 rfl (Z5 ?_)))
 exact rtA rfl rfl rfl ⟨b9,u7,hu7,rfl,rfl,rfl⟩ idH
theorem Z8T (g:List Int) (ag:Option Addr) (cg bk:Nat) (hgl:g.length≤9223372036854775807) (tq mx:Int) (htq:0≤tq∧tq≤1000000000) (hmx:0≤mx∧mx≤4294967295) (H:Z7) (R:Z4) [hG:MemRows ag 1 (Z41 g) R] :
    Fn Tryz.prog 56 [.pointer (some ⟨bk,0,none⟩)] ((bk,cel 83 [.slice ag g.length cg,.int .i64 (tq),.int .u32 (mx)])::H) R (fun v H' R'=>∃ x m':Int,(0≤x∧x≤65535)∧v = .int .i64 x∧(0≤m'∧m'≤4294967295)∧H'=(bk,cel 83 [.slice ag g.length cg,.int .i64 (tq+1),.int .u32 (m')])::H∧R'=R):=by
 refine Z9 Tryz.func56 rfl Tryz.ntmps56 rfl ?_
 refine sqt 1 rfl (pur 1 rfl (Z0 (sqt 6 rfl (pur 1 rfl (sp rfl (PE.nilCheck rfl) rfl (sp rfl (PE.fA Z7k rfl) rfl (spL rfl rfl (lh Zie rfl rfl) rfl (sp rfl (PE.lenSl Zbn rfl) rfl (pur 1 rfl (sqt 2 rfl (pur 2 rfl ?_)))))))))))
 refine Z2 rfl ?_ ?_<;>intro hc0<;>try simp only [cS] at hc0
 obtain ⟨y,hy⟩:∃ y,g[(tq%g.length).toNat]?=some y:=⟨_,List.getElem?_eq_getElem (by have:=Int.emod_lt_of_pos tq hc0;have:=Int.emod_nonneg tq (show (g.length:Int)≠0 by omega);omega)⟩
 refine Zl (a:=ag) (sz:=1) (rows:=Z41 g) (by intro h0;simp [Z41] at h0;simp [h0] at hy) (fun bgr ogr he=>?_)
 subst he
 refine Zd [0,0,2,6,14,0,32,96,224,0,512,1536,3584,0,15872,32736,65504,131040,262142,524286,1048575,2097151,4194303] (tks 0 4 (.ld 4 (tks 5 3 (.ld 8 (tks 9 3 (.ld 12 (tks 13 3 (.ld 16 (tks 17 5 (.big 22 .done)))))))))) Zq (by kernel_rfl) ?_
 refine Zm 2 rfl (tk rfl (PE.nilCheck rfl) rfl (tk rfl (PE.fA Z0G rfl) rfl (ld rfl rfl (lh Zap rfl rfl) rfl (Zm 1 rfl (tk rfl (PE.nilCheck rfl) rfl (tk rfl (PE.fA Z7k rfl) rfl (ld rfl rfl (lh Zie rfl rfl) rfl (Zm 1 rfl (tk rfl (PE.nilCheck rfl) rfl (tk rfl (PE.fA Z3w rfl) rfl (ld rfl rfl (lh sc3 rfl rfl) rfl (Zm 1 rfl (tk rfl (PE.rem rfl rfl (by omega)) rfl (tk rfl (PE.indexAddr Zkq rfl rfl (by exact Int.emod_nonneg tq (by omega)) (by exact Int.emod_lt_of_pos tq hc0)) rfl (ld rfl rfl (lf0 (x:=.int .u8 y) sc5 (by simp [Z41,urow,hy];rfl) rfl) rfl ?_)))))))))))))))
 refine tkE rfl (PE.convU us5 Zkc rfl) rfl ?_
 rintro _ ⟨u28,rfl,hu28⟩
 refine tkE rfl (PE.xorU rfl rfl) rfl ?_
 rintro _ ⟨u29,rfl,hu29⟩
 refine tkE rfl (PE.mulU rfl rfl) rfl ?_
 rintro _ ⟨u30,rfl,hu30⟩
 refine tk rfl (PE.nilCheck rfl) rfl (tk rfl (PE.fA Z0G rfl) rfl ?_)
 refine sto rfl rfl rfl Zjp rfl rfl rfl rfl ?_
 refine bgT (sqt 8 rfl (pur 1 rfl (sp rfl (PE.nilCheck rfl) rfl (sp rfl (PE.fA Z3w rfl) rfl (spL rfl rfl (lh sc3 rfl rfl) rfl (sp rfl (PE.add rfl rfl (by omega)) rfl (sp rfl (PE.nilCheck rfl) rfl (sp rfl (PE.fA Z3w rfl) rfl ?_))))))))
 refine sto rfl rfl rfl cn3 rfl rfl rfl rfl ?_
 refine Z0 (Z0 ?_)
 refine Zd [0,1,3,7,0,16,48,112,240,511] (tks 0 3 (.ld 3 (tks 4 3 (.ld 7 (.tk 8 (.tk 9 .done)))))) Zq (by kernel_rfl) ?_
 refine Zm 1 rfl (tk rfl (PE.nilCheck rfl) rfl (tk rfl (PE.fA Z3w rfl) rfl (ld rfl rfl (lh sc3 rfl rfl) rfl (Zm 1 rfl (tk rfl (PE.nilCheck rfl) rfl (tk rfl (PE.fA Z7k rfl) rfl (ld rfl rfl (lh Zie rfl rfl) rfl (tk rfl (PE.lenSl Zbn rfl) rfl (Zm 1 rfl ?_)))))))))
 refine Z2 rfl ?_ ?_<;>intro hc1<;>try simp only [cS] at hc1
 refine sqr 10 rfl (pur 2 rfl (sp rfl (PE.nilCheck rfl) rfl (sp rfl (PE.fA Z0G rfl) rfl (spL rfl rfl (lh Zap rfl rfl) rfl ?_))))
 refine spE rfl (PE.mulU rfl rfl) rfl ?_
 rintro _ ⟨u55,rfl,hu55⟩
 refine spE rfl (PE.addU rfl rfl) rfl ?_
 rintro _ ⟨u56,rfl,hu56⟩
 refine sp rfl (PE.nilCheck rfl) rfl (sp rfl (PE.fA Z0G rfl) rfl ?_)
 refine sto rfl rfl rfl Zjp rfl rfl rfl rfl ?_
 refine Z0 ?_
 refine Zd [0,1,3,7,0,16,48,112,240,511,1023,2047,4095,8191] (tks 0 3 (.ld 3 (tks 4 3 (.ld 7 (tks 8 6 .done))))) Zq (by kernel_rfl) ?_
 refine Zm 1 rfl (tk rfl (PE.nilCheck rfl) rfl (tk rfl (PE.fA Z0G rfl) rfl (ld rfl rfl (lh Zap rfl rfl) rfl (Zm 1 rfl (tk rfl (PE.nilCheck rfl) rfl (tk rfl (PE.fA Z0G rfl) rfl (ld rfl rfl (lh Zap rfl rfl) rfl ?_)))))))
 refine tkE rfl (PE.shrU rfl rfl (by decide) (by omega) (by omega)) rfl ?_
 rintro _ ⟨u67,rfl,hu67⟩
 refine tkE rfl (PE.xorU rfl rfl) rfl ?_
 rintro _ ⟨u68,rfl,hu68⟩
 refine tkE rfl (PE.shrU rfl rfl (by decide) (by omega) (by omega)) rfl ?_
 rintro _ ⟨u69,rfl,hu69⟩
 refine tkE rfl (PE.andU rfl rfl (by decide) (by decide)) rfl ?_
 rintro _ ⟨u70,rfl,hu70⟩
 refine tk rfl (PE.conv64 Zij ik3 rfl (by omega)) rfl (Zm 1 rfl (Z5 ?_))
 first
   | exact rtA rfl rfl rfl ⟨u70,_,hu70,rfl,hu56,rfl,rfl⟩ idH
   | exact rtA rfl rfl rfl ⟨u70,_,hu70,rfl,hu30,rfl,rfl⟩ idH
   | exact rtA rfl rfl rfl ⟨u70,_,hu70,rfl,hmx,rfl,rfl⟩ idH
 refine Z3 (Z0 ?_)
 refine Zd [0,1,3,7,0,16,48,112,240,511,1023,2047,4095,8191] (tks 0 3 (.ld 3 (tks 4 3 (.ld 7 (tks 8 6 .done))))) Zq (by kernel_rfl) ?_
 refine Zm 1 rfl (tk rfl (PE.nilCheck rfl) rfl (tk rfl (PE.fA Z0G rfl) rfl (ld rfl rfl (lh Zap rfl rfl) rfl (Zm 1 rfl (tk rfl (PE.nilCheck rfl) rfl (tk rfl (PE.fA Z0G rfl) rfl (ld rfl rfl (lh Zap rfl rfl) rfl ?_)))))))
 refine tkE rfl (PE.shrU rfl rfl (by decide) (by omega) (by omega)) rfl ?_
 rintro _ ⟨u67,rfl,hu67⟩
 refine tkE rfl (PE.xorU rfl rfl) rfl ?_
 rintro _ ⟨u68,rfl,hu68⟩
 refine tkE rfl (PE.shrU rfl rfl (by decide) (by omega) (by omega)) rfl ?_
 rintro _ ⟨u69,rfl,hu69⟩
 refine tkE rfl (PE.andU rfl rfl (by decide) (by decide)) rfl ?_
 rintro _ ⟨u70,rfl,hu70⟩
 refine tk rfl (PE.conv64 Zij ik3 rfl (by omega)) rfl (Zm 1 rfl (Z5 ?_))
 first
   | exact rtA rfl rfl rfl ⟨u70,_,hu70,rfl,hu56,rfl,rfl⟩ idH
   | exact rtA rfl rfl rfl ⟨u70,_,hu70,rfl,hu30,rfl,rfl⟩ idH
   | exact rtA rfl rfl rfl ⟨u70,_,hu70,rfl,hmx,rfl,rfl⟩ idH
 refine Z3 (sqt 8 rfl (pur 1 rfl (sp rfl (PE.nilCheck rfl) rfl (sp rfl (PE.fA Z3w rfl) rfl (spL rfl rfl (lh sc3 rfl rfl) rfl (sp rfl (PE.add rfl rfl (by omega)) rfl (sp rfl (PE.nilCheck rfl) rfl (sp rfl (PE.fA Z3w rfl) rfl ?_))))))))
 refine sto rfl rfl rfl cn3 rfl rfl rfl rfl ?_
 refine Z0 (Z0 ?_)
 refine Zd [0,1,3,7,0,16,48,112,240,511] (tks 0 3 (.ld 3 (tks 4 3 (.ld 7 (.tk 8 (.tk 9 .done)))))) Zq (by kernel_rfl) ?_
 refine Zm 1 rfl (tk rfl (PE.nilCheck rfl) rfl (tk rfl (PE.fA Z3w rfl) rfl (ld rfl rfl (lh sc3 rfl rfl) rfl (Zm 1 rfl (tk rfl (PE.nilCheck rfl) rfl (tk rfl (PE.fA Z7k rfl) rfl (ld rfl rfl (lh Zie rfl rfl) rfl (tk rfl (PE.lenSl Zbn rfl) rfl (Zm 1 rfl ?_)))))))))
 refine Z2 rfl ?_ ?_<;>intro hc1<;>try simp only [cS] at hc1
 refine sqr 10 rfl (pur 2 rfl (sp rfl (PE.nilCheck rfl) rfl (sp rfl (PE.fA Z0G rfl) rfl (spL rfl rfl (lh Zap rfl rfl) rfl ?_))))
 refine spE rfl (PE.mulU rfl rfl) rfl ?_
 rintro _ ⟨u55,rfl,hu55⟩
 refine spE rfl (PE.addU rfl rfl) rfl ?_
 rintro _ ⟨u56,rfl,hu56⟩
 refine sp rfl (PE.nilCheck rfl) rfl (sp rfl (PE.fA Z0G rfl) rfl ?_)
 refine sto rfl rfl rfl Zjp rfl rfl rfl rfl ?_
 refine Z0 ?_
 refine Zd [0,1,3,7,0,16,48,112,240,511,1023,2047,4095,8191] (tks 0 3 (.ld 3 (tks 4 3 (.ld 7 (tks 8 6 .done))))) Zq (by kernel_rfl) ?_
 refine Zm 1 rfl (tk rfl (PE.nilCheck rfl) rfl (tk rfl (PE.fA Z0G rfl) rfl (ld rfl rfl (lh Zap rfl rfl) rfl (Zm 1 rfl (tk rfl (PE.nilCheck rfl) rfl (tk rfl (PE.fA Z0G rfl) rfl (ld rfl rfl (lh Zap rfl rfl) rfl ?_)))))))
 refine tkE rfl (PE.shrU rfl rfl (by decide) (by omega) (by omega)) rfl ?_
 rintro _ ⟨u67,rfl,hu67⟩
 refine tkE rfl (PE.xorU rfl rfl) rfl ?_
 rintro _ ⟨u68,rfl,hu68⟩
 refine tkE rfl (PE.shrU rfl rfl (by decide) (by omega) (by omega)) rfl ?_
 rintro _ ⟨u69,rfl,hu69⟩
 refine tkE rfl (PE.andU rfl rfl (by decide) (by decide)) rfl ?_
 rintro _ ⟨u70,rfl,hu70⟩
 refine tk rfl (PE.conv64 Zij ik3 rfl (by omega)) rfl (Zm 1 rfl (Z5 ?_))
 first
   | exact rtA rfl rfl rfl ⟨u70,_,hu70,rfl,hu56,rfl,rfl⟩ idH
   | exact rtA rfl rfl rfl ⟨u70,_,hu70,rfl,hu30,rfl,rfl⟩ idH
   | exact rtA rfl rfl rfl ⟨u70,_,hu70,rfl,hmx,rfl,rfl⟩ idH
 refine Z3 (Z0 ?_)
 refine Zd [0,1,3,7,0,16,48,112,240,511,1023,2047,4095,8191] (tks 0 3 (.ld 3 (tks 4 3 (.ld 7 (tks 8 6 .done))))) Zq (by kernel_rfl) ?_
 refine Zm 1 rfl (tk rfl (PE.nilCheck rfl) rfl (tk rfl (PE.fA Z0G rfl) rfl (ld rfl rfl (lh Zap rfl rfl) rfl (Zm 1 rfl (tk rfl (PE.nilCheck rfl) rfl (tk rfl (PE.fA Z0G rfl) rfl (ld rfl rfl (lh Zap rfl rfl) rfl ?_)))))))
 refine tkE rfl (PE.shrU rfl rfl (by decide) (by omega) (by omega)) rfl ?_
 rintro _ ⟨u67,rfl,hu67⟩
 refine tkE rfl (PE.xorU rfl rfl) rfl ?_
 rintro _ ⟨u68,rfl,hu68⟩
 refine tkE rfl (PE.shrU rfl rfl (by decide) (by omega) (by omega)) rfl ?_
 rintro _ ⟨u69,rfl,hu69⟩
 refine tkE rfl (PE.andU rfl rfl (by decide) (by decide)) rfl ?_
 rintro _ ⟨u70,rfl,hu70⟩
 refine tk rfl (PE.conv64 Zij ik3 rfl (by omega)) rfl (Zm 1 rfl (Z5 ?_))
 first
   | exact rtA rfl rfl rfl ⟨u70,_,hu70,rfl,hu56,rfl,rfl⟩ idH
   | exact rtA rfl rfl rfl ⟨u70,_,hu70,rfl,hu30,rfl,rfl⟩ idH
   | exact rtA rfl rfl rfl ⟨u70,_,hu70,rfl,hmx,rfl,rfl⟩ idH
theorem ZV (g:List Int) (ag:Option Addr) (cg bk:Nat) (hgl:g.length≤9223372036854775807) (tq mx:Int) (htq:0≤tq∧tq≤1000000000) (hmx:0≤mx∧mx≤4294967295) (n:Int) (H:Z7) (R:Z4) [hG:MemRows ag 1 (Z41 g) R] :
    Fn Tryz.prog 20 [.pointer (some ⟨bk,0,none⟩),.int .i64 n] ((bk,cel 83 [.slice ag g.length cg,.int .i64 (tq),.int .u32 (mx)])::H) R (fun v H' R'=>∃ x m':Int,(0≤x∧x<max 1 n)∧v = .int .i64 x∧(0≤m'∧m'≤4294967295)∧H'=(bk,cel 83 [.slice ag g.length cg,.int .i64 (tq+1),.int .u32 (m')])::H∧R'=R):=by
 refine Z9 Tryz.func20 rfl Tryz.ntmps20 rfl ?_
 refine sqt 1 rfl (pur 1 rfl (sqt 6 rfl (pur 1 rfl ?_)))
 refine cl rfl ZiS rfl rfl (Z8T g ag cg bk hgl tq mx htq hmx _ _) ?_
 rintro _ _ _ ⟨x,m',hx,rfl,hm',rfl,rfl⟩
 refine pur 1 rfl (sp rfl (PE.max rfl rfl) rfl (sp rfl (PE.rem rfl rfl (by omega)) rfl (pur 1 rfl (Z5 ?_))))
 exact rtA rfl rfl rfl ⟨_,m',⟨Int.emod_nonneg _ (by omega),Int.emod_lt_of_pos _ (by omega)⟩,rfl,hm',rfl,rfl⟩ idH
theorem Z1j (g:List Int) (ag:Option Addr) (cg bk:Nat) (hgl:g.length≤9223372036854775807) (tq mx:Int) (htq:0≤tq∧tq≤1000000000) (hmx:0≤mx∧mx≤4294967295) (lo hi:Int) (hb : -1000000≤lo∧lo≤1000000 ∧ -1000000≤hi∧hi≤1000000) (H:Z7) (R:Z4) [hG:MemRows ag 1 (Z41 g) R] :
    Fn Tryz.prog 19 [.pointer (some ⟨bk,0,none⟩),.int .i64 lo,.int .i64 hi] ((bk,cel 83 [.slice ag g.length cg,.int .i64 (tq),.int .u32 (mx)])::H) R (fun v H' R'=>∃ x m':Int,(lo≤x∧x<lo+max 1 (hi-lo+1))∧v = .int .i64 x∧(0≤m'∧m'≤4294967295)∧H'=(bk,cel 83 [.slice ag g.length cg,.int .i64 (tq+1),.int .u32 (m')])::H∧R'=R):=by
 refine Z9 Tryz.func19 rfl Tryz.ntmps19 rfl ?_
 refine sqt 1 rfl (pur 1 rfl (sqt 9 rfl (pur 4 rfl (sp rfl (PE.sub rfl rfl (by omega)) rfl (sp rfl (PE.add rfl rfl (by omega)) rfl ?_)))))
 refine cl rfl Z0Z rfl rfl (ZV g ag cg bk hgl tq mx htq hmx (hi-lo+1) _ _) ?_
 rintro _ _ _ ⟨x,m',hx,rfl,hm',rfl,rfl⟩
 refine sp rfl (PE.add rfl rfl (by omega)) rfl (pur 1 rfl (Z5 ?_))
 exact rtA rfl rfl rfl ⟨lo+x,m',⟨by omega,by omega⟩,rfl,hm',rfl,rfl⟩ idH
structure Ord (p:List Nat) (n:Nat):Prop where
 len:p.length=n
 nd:p.Nodup
 lt:∀ i∈p,i<n
theorem Ord.nil:Ord [] 0:=⟨rfl,List.nodup_nil,by simp⟩
structure InsI (l xs:List Int) (i j:Nat):Prop where
 perm:xs.Perm l
 le:j≤i
 at_:∀ p q,p<q→q≤i→q≠j→nn xs p≤nn xs q
structure SrtI (l xs:List Int) (i:Nat):Prop where
 perm:xs.Perm l
 at_:∀ p q,p<q→q<i→nn xs p≤nn xs q
theorem SrtI.start (l:List Int):SrtI l l 1:=⟨.refl _,fun p q h1 h2=>by omega⟩
theorem InsI.done {l xs:List Int} {i j:Nat} (h:InsI l xs i j) (hj:j=0∨nn xs (j-1)≤nn xs j):SrtI l xs (i+1):=⟨h.perm,fun p q h1 h2=>by
 by_cases hq:q=j
 · subst hq
   have h3:nn xs (q-1)≤nn xs q:=hj.resolve_left (by omega)
   by_cases hp:p=q-1
   · subst hp;exact h3
   · have:=h.at_ p (q-1) (by omega) (by omega) (by omega);omega
 · exact h.at_ p q h1 (by omega) hq⟩
theorem ZhC {xs:List Int} {k:Nat} (h:k<xs.length):nn xs k=xs[k]:=by unfold nn;rw [List.getD_eq_getElem?_getD,List.getElem?_eq_getElem h];rfl
theorem InsI.swap {l xs:List Int} {i j:Nat} (h:InsI l xs i j) (hj:0<j) (hi:i<xs.length) (hlt:nn xs j<nn xs (j-1)):InsI l ((xs.set j (nn xs (j-1))).set (j-1) (nn xs j)) i (j-1):=by
 have hle:=h.le
 have hv:∀ q,nn ((xs.set j (nn xs (j-1))).set (j-1) (nn xs j)) q=if q=j-1 then nn xs j else if q=j then nn xs (j-1) else nn xs q:=fun q=>by
   rw [ZcJ (by rw [List.length_set];omega),ZcJ (by omega)]
   by_cases h1:q=j-1
   · subst h1;simp
   · have e1:(j-1 == q)=false:=by simp;omega
     rw [e1,if_neg h1]
     by_cases h2:q=j
     · subst h2;simp
     · have e2:(j == q)=false:=by simp;omega
       rw [e2,if_neg h2];rfl
 refine ⟨?_,by omega,fun p q h1 h2 h3=>?_⟩
 · have e := @List.set_set_perm Int xs j (j-1) (by omega) (by omega)
   rw [ZhC (k:=j-1) (by omega),ZhC (k:=j) (by omega)]
   exact e.trans h.perm
 · rw [hv p,hv q]
   have A:=h.at_ p q h1 h2
   have B:=h.at_ p (j-1)
   have C:=h.at_ j q
   have E:=h.at_ (j-1) q
   rw [if_neg h3]
   by_cases hq:q=j
   · rw [if_pos hq]
     split
     · omega
     · rw [if_neg (by omega)];exact B (by omega) (by omega) (by omega)
   · rw [if_neg hq]
     split
     · exact C (by omega) h2 hq
     · split
       · exact E (by omega) h2 hq
       · exact A hq
structure RiseI (n c:Nat) (rs:List Int):Prop where
 len:rs.length=6
 le:n≤c∧c≤6∧n≤2
 zero:∀ j,j<6→j<n∨c≤j→na rs j=0
 rise:∀ j,n≤j→j<c→6≤na rs j∧na rs j≤20
 up:∀ j,n≤j→j+1<c→na rs j≤na rs (j+1)
theorem RiseI.start {n:Nat} (h:n≤2):RiseI n n [0,0,0,0,0,0]:=⟨rfl,⟨by omega,by omega,h⟩,fun j hj _=>by
 match j,hj with
 | 0,_ | 1,_ | 2,_ | 3,_ | 4,_ | 5,_=>rfl,fun j h1 h2=>by omega,fun j h1 h2=>by omega⟩
theorem RiseI.more {n c:Nat} {rs:List Int} {v:Int} (h:RiseI n c rs) (hc:c<6) (hv:6≤v∧v≤20) (hu:n<c→na rs (c-1)≤v):RiseI n (c+1) (rs.set c v):=by
 have hle:=h.le
 have hat:∀ j,na (rs.set c v) j=if c=j then v else na rs j:=fun j=>Z2K (by rw [h.len];omega)
 refine ⟨by rw [List.length_set];exact h.len,⟨by omega,by omega,hle.2.2⟩,fun j hj h1=>?_,fun j h1 h2=>?_,fun j h1 h2=>?_⟩
 · rw [hat,if_neg (by omega)];exact h.zero j hj (by omega)
 · rw [hat]
   split
   · exact hv
   · exact h.rise j h1 (by omega)
 · rw [hat,hat,if_neg (show ¬ c=j by omega)]
   split
   · rename_i e
     have:=hu (by omega)
     rw [show c-1=j by omega] at this
     exact this
   · exact h.up j h1 (by omega)
structure BinH (x:HBin):Prop where
 mark:18≤x.mark∧x.mark≤60
 warm:0≤x.warm∧x.warm≤x.mark
 lo:0≤x.lo∧x.lo≤5
 hi:x.lo≤x.hi∧x.hi≤5
structure MadeH (b:Barn) (nb ng:Int):Prop where
 ok:b.ok
 check:b.check=0
 nb:(b.bins.length:Int)≤nb
 ng:b.gangs≤ng
 bins:∀ x∈b.bins,BinH x
theorem ZcF {l:List Int} (h:l.length=6):∃ a b c d e f,l=[a,b,c,d,e,f]:=by
 match l,h with
 | [a,b,c,d,e,f],_=>exact ⟨a,b,c,d,e,f,rfl⟩
theorem ZdY {n:Nat} {rs:List Int} {bl:List HBin} {cool gangs nb ng:Int} (hr:RiseI n 6 rs) (hb:∀ x∈bl,BinH x) (hl:1≤bl.length∧bl.length≤4) (hnb:(bl.length:Int)≤nb) (hc:0≤cool∧cool≤60) (hg:0≤gangs∧gangs≤3) (hng:gangs≤ng):MadeH ⟨cool,gangs,rs,bl⟩ nb ng:=by
 have hok:Barn.ok ⟨cool,gangs,rs,bl⟩:=by
   refine ⟨hr.len,hl,hc,⟨hg.1,by show gangs≤4;omega⟩,fun v hv=>?_,fun x hx=>?_,?_,fun x hx=>(hb x hx).hi.1⟩
   · obtain ⟨j,hj⟩:=List.getElem?_of_mem hv
     have hj6:=(List.getElem?_eq_some_iff.1 hj).1
     have hv2:na rs j=v:=by unfold na;rw [List.getD_eq_getElem?_getD,hj];rfl
     have hlen:=hr.len
     have hj6:j<6:=by have:(Barn.mk cool gangs rs bl).rise.length=6:=hlen;omega
     rcases Nat.lt_or_ge j n with h1 | h1
     · left;rw [← hv2];exact hr.zero j hj6 (.inl h1)
     · right;rw [← hv2];exact hr.rise j h1 hj6
   · have h1:=hb x hx
     exact ⟨⟨by have:=h1.mark;omega,h1.mark.2⟩,h1.warm,h1.lo,by have:=h1.lo;have:=h1.hi;omega⟩
   · have key:∀ j,j+1<6→na rs j≤na rs (j+1):=fun j hj=>by
       rcases Nat.lt_or_ge j n with h1 | h1
       · rw [hr.zero j (by omega) (.inl h1)]
         rcases Nat.lt_or_ge (j+1) n with h2 | h2
         · rw [hr.zero (j+1) hj (.inl h2)];exact Int.le_refl _
         · have:=hr.rise (j+1) h2 hj;omega
       · exact hr.up j h1 hj
     show srt rs=true
     have k0:=key 0 (by omega);have k1:=key 1 (by omega);have k2:=key 2 (by omega);have k3:=key 3 (by omega);have k4:=key 4 (by omega)
     obtain ⟨a,b,c,d,e,f,rfl⟩:=ZcF hr.len
     simp only [na,List.getD_cons_zero,List.getD_cons_succ] at k0 k1 k2 k3 k4
     simp [srt,k0,k1,k2,k3,k4]
 exact ⟨hok,Z4z hok hg.2,hnb,hng,hb⟩
theorem Zd8 {c g:Int} {rs:List Int} {bl:List HBin} {sl:Value} {k:Nat} (hk:k<6):(btl ⟨c,g,rs,bl⟩ sl)[0+2+((k:Nat):Int).toNat*1]?=some (.int .i64 (na rs k)):=by
 match k,hk with
 | 0,_ | 1,_ | 2,_ | 3,_ | 4,_ | 5,_=>rfl
theorem Z4v {c g:Int} {rs:List Int} {bl:List HBin} {sl:Value} {k:Nat} (hk:k<6) (hr:rs.length=6) (v:Int):spl (btl ⟨c,g,rs,bl⟩ sl) (0+2+((k:Nat):Int).toNat*1) [.int .i64 v]=btl ⟨c,g,rs.set k v,bl⟩ sl:=by
 obtain ⟨a,b,c,d,e,f,rfl⟩:=ZcF hr
 match k,hk with
 | 0,_ | 1,_ | 2,_ | 3,_ | 4,_ | 5,_=>rfl
theorem Zf7 (g:List Int) (ag:Option Addr) (cg bk:Nat) (hgl:g.length≤9223372036854775807) (tq mx:Int) (htq:0≤tq∧tq≤1000000) (hmx:0≤mx∧mx≤4294967295) (nb ng:Int) (hnb:1≤nb∧nb≤4) (hng:0≤ng∧ng≤3) (H:Z7) (R:Z4) [hG:MemRows ag 1 (Z41 g) R] :
    Fn Tryz.prog 5 [.pointer (some ⟨bk,0,none⟩),.int .i64 nb,.int .i64 ng] ((bk,cel 83 [.slice ag g.length cg,.int .i64 (tq),.int .u32 (mx)])::H) R (fun v H' R'=>∃ (b:Barn) (ab:Option Addr) (cb:Nat) (tq' mx':Int),MadeH b nb ng∧v=b.v (b.sl ab cb)∧(tq≤tq'∧tq'≤tq+40)∧(0≤mx'∧mx'≤4294967295) ∧
      H'=(bk,cel 83 [.slice ag g.length cg,.int .i64 (tq'),.int .u32 (mx')])::H∧R'=RowsA ab 4 (Zt b.bins)::R):=by
 refine Z9 Tryz.func5 rfl Tryz.ntmps5 rfl ?_
 refine sqt 1 rfl (alc rfl ZeI rfl (fun b6=>sqt 8 rfl (pur 1 rfl ?_)))
 refine ZE bk ?_
 refine cl rfl Z0Z rfl rfl (ZV g ag cg bk hgl _ _ (by omega) (by assumption) (30) _ _) ?_
 rintro _ _ R1 ⟨x13,m13,hx13,rfl,hm13,rfl,hR1⟩
 obtain rfl:=hR1.symm
 refine pur 2 rfl ?_
 refine cl rfl Z4y rfl rfl (Z1j g ag cg bk hgl _ _ (by omega) (by assumption) (0) (ng) (by first | omega | (dsimp only;omega)) _ _) ?_
 rintro _ _ R1 ⟨x16,m16,hx16,rfl,hm16,rfl,hR1⟩
 obtain rfl:=hR1.symm
 refine sp rfl (PE.build (out:=btl ⟨x13,x16,[0,0,0,0,0,0],[]⟩ (.slice none 0 0)) Zkv ZeI rfl rfl) rfl (alc rfl ZeI rfl (fun b7=>?_))
 refine sto rfl rfl rfl ZeO rfl rfl rfl rfl ?_
 refine sqt 3 rfl (pur 1 rfl ?_)
 refine ZE bk ?_
 refine cl rfl Z4y rfl rfl (Z1j g ag cg bk hgl _ _ (by omega) (by assumption) (0) (2) (by first | omega | (dsimp only;omega)) _ _) ?_
 rintro _ _ R1 ⟨x19,m19,hx19,rfl,hm19,rfl,hR1⟩
 obtain rfl:=hR1.symm
 refine pur 1 rfl (Z0 (sqt 2 rfl (pur 2 rfl (Z1 ?_))))
 obtain ⟨n,rfl⟩:∃ n:Nat,x19=n:=⟨x19.toNat,by omega⟩
 refine Zc (ι:={x:Nat×List Int×Int×Int // RiseI n x.1 x.2.1∧(tq+3≤x.2.2.1∧x.2.2.1≤tq+3+x.1)∧(0≤x.2.2.2∧x.2.2.2≤4294967295)}) (fun x=>⟨[(0,.pointer (some ⟨bk,0,none⟩)),(1,.int .i64 nb),(6,.pointer (some ⟨b6,0,none⟩)),(7,.pointer (some ⟨b7,0,none⟩)),(8,.int .i64 n),(9,.int .i64 x.1.1)],(bk,cel 83 [.slice ag g.length cg,.int .i64 (x.1.2.2.1),.int .u32 (x.1.2.2.2)])::(b7,cel 26 (btl ⟨x13,x16,x.1.2.1,[]⟩ (.slice none 0 0)))::(b6,cel 26 (btl Zi3 (.slice none 0 0)))::H,R⟩) (fun x=>6-x.1.1) ⟨(n,[0,0,0,0,0,0],tq+1+1+1,m19),RiseI.start (by omega),by dsimp only;omega,by assumption⟩ ?_ (fun x=>?_)
 exact Zf idH
 obtain ⟨⟨c,rs,tq2,mx2⟩,hri,htq2,hmx2⟩:=x
 dsimp only at hri htq2 hmx2 ⊢
 have hle:=hri.le
 have hrl:=hri.len
 refine Z0 (sqt 2 rfl (pur 2 rfl ?_))
 refine Z2 rfl ?_ ?_<;>intro hc0<;>try simp only [cS] at hc0
 refine Z3 (Z0 (Z1 (sqt 1 rfl (pur 1 rfl (Z0 (sqt 3 rfl (pur 3 rfl ?_)))))))
 refine Z2 rfl ?_ ?_<;>intro hc1<;>try simp only [cS] at hc1
 have hrp:=hri.rise (c-1) (by omega) (by omega)
 refine sqr 6 rfl (pur 1 rfl (sp rfl (PE.sub rfl rfl (by omega)) rfl ?_))
 rw [show (c:Int)-1=((c-1:Nat):Int) by omega]
 refine sp rfl (PE.fA Z49 rfl) rfl (sp rfl (PE.indexArr ZeN rfl rfl (by omega) (by omega)) rfl (spL rfl rfl (lh sc3 rfl (Zd8 (by omega))) rfl (pur 1 rfl (sqr 9 rfl (pur 3 rfl ?_)))))
 refine ZE bk ?_
 refine cl rfl Z0Z rfl rfl (ZV g ag cg bk hgl _ _ (by omega) (by assumption) (4) _ _) ?_
 rintro _ _ R1 ⟨x36,m36,hx36,rfl,hm36,rfl,hR1⟩
 obtain rfl:=hR1.symm
 refine sp rfl (PE.add rfl rfl (by omega)) rfl (sp rfl (PE.min rfl rfl) rfl (sp rfl (PE.fA Z49 rfl) rfl (sp rfl (PE.indexArr ZeN rfl rfl (by omega) (by omega)) rfl ?_)))
 first | refine Z03 (l':=btl ⟨x13,x16,rs.set c (min 20 (na rs (c-1)+x36)),[]⟩ (.slice none 0 0)) rfl rfl rfl cn3 rfl rfl rfl (Z4v (by omega) hrl _) (by show 0+2+((c:Nat):Int).toNat*1+1≤9;omega) ?_ | refine Z03 (l':=btl ⟨x13,x16,rs.set c (min 20 (6+x36)),[]⟩ (.slice none 0 0)) rfl rfl rfl cn3 rfl rfl rfl (Z4v (by omega) hrl _) (by show 0+2+((c:Nat):Int).toNat*1+1≤9;omega) ?_
 refine sqr 3 rfl (pur 1 rfl (sp rfl (PE.add rfl rfl (by omega)) rfl (pur 1 rfl ?_)))
 first | exact Ze ⟨(c+1,rs.set c (min 20 (na rs (c-1)+x36)),tq2+1,m36),hri.more (by omega) (by omega) (fun _=>by omega),by dsimp only;omega,by assumption⟩ (by dsimp only;omega) idH | exact Ze ⟨(c+1,rs.set c (min 20 (6+x36)),tq2+1,m36),hri.more (by omega) (by omega) (fun h=>by omega),by dsimp only;omega,by assumption⟩ (by dsimp only;omega) idH
 refine Z3 (sqr 9 rfl (pur 3 rfl ?_))
 refine ZE bk ?_
 refine cl rfl Z0Z rfl rfl (ZV g ag cg bk hgl _ _ (by omega) (by assumption) (4) _ _) ?_
 rintro _ _ R1 ⟨x36,m36,hx36,rfl,hm36,rfl,hR1⟩
 obtain rfl:=hR1.symm
 refine sp rfl (PE.add rfl rfl (by omega)) rfl (sp rfl (PE.min rfl rfl) rfl (sp rfl (PE.fA Z49 rfl) rfl (sp rfl (PE.indexArr ZeN rfl rfl (by omega) (by omega)) rfl ?_)))
 first | refine Z03 (l':=btl ⟨x13,x16,rs.set c (min 20 (na rs (c-1)+x36)),[]⟩ (.slice none 0 0)) rfl rfl rfl cn3 rfl rfl rfl (Z4v (by omega) hrl _) (by show 0+2+((c:Nat):Int).toNat*1+1≤9;omega) ?_ | refine Z03 (l':=btl ⟨x13,x16,rs.set c (min 20 (6+x36)),[]⟩ (.slice none 0 0)) rfl rfl rfl cn3 rfl rfl rfl (Z4v (by omega) hrl _) (by show 0+2+((c:Nat):Int).toNat*1+1≤9;omega) ?_
 refine sqr 3 rfl (pur 1 rfl (sp rfl (PE.add rfl rfl (by omega)) rfl (pur 1 rfl ?_)))
 first | exact Ze ⟨(c+1,rs.set c (min 20 (na rs (c-1)+x36)),tq2+1,m36),hri.more (by omega) (by omega) (fun _=>by omega),by dsimp only;omega,by assumption⟩ (by dsimp only;omega) idH | exact Ze ⟨(c+1,rs.set c (min 20 (6+x36)),tq2+1,m36),hri.more (by omega) (by omega) (fun h=>by omega),by dsimp only;omega,by assumption⟩ (by dsimp only;omega) idH
 obtain rfl:c=6:=by omega
 refine Z8 (Za (Za (Zn (Z0 (sqt 4 rfl (pur 2 rfl ?_))))))
 refine cl rfl Z4y rfl rfl (Z1j g ag cg bk hgl _ _ (by omega) (by assumption) (1) (nb) (by first | omega | (dsimp only;omega)) _ _) ?_
 rintro _ _ R1 ⟨x43,m43,hx43,rfl,hm43,rfl,hR1⟩
 obtain rfl:=hR1.symm
 refine pur 1 rfl (Z1 ?_)
 obtain ⟨n43,rfl⟩:∃ n:Nat,x43=n:=⟨x43.toNat,by omega⟩
 refine Zc (ι:=(x:{x:Nat×List HBin×Int×Int // x.1≤n43∧x.2.1.length=x.1∧(∀ y∈x.2.1,BinH y)∧(tq≤x.2.2.1∧x.2.2.1≤tq+10+4*x.1)∧(0≤x.2.2.2∧x.2.2.2≤4294967295)})×OSl 36 4 (Zt x.1.2.1)) (fun x=>⟨[(0,.pointer (some ⟨bk,0,none⟩)),(1,.int .i64 nb),(6,.pointer (some ⟨b6,0,none⟩)),(7,.pointer (some ⟨b7,0,none⟩)),(8,.int .i64 n),(43,.int .i64 n43),(44,.int .i64 x.1.1.1)],(bk,cel 83 [.slice ag g.length cg,.int .i64 (x.1.1.2.2.1),.int .u32 (x.1.1.2.2.2)])::(x.2.G++(b7,cel 26 (btl ⟨x13,x16,rs,x.1.1.2.1⟩ x.2.fs))::(b6,cel 26 (btl Zi3 (.slice none 0 0)))::H),R⟩) (fun x=>n43-x.1.1.1) ⟨⟨(0,[],tq2+1,m43),Nat.zero_le _,rfl,by simp,by dsimp only;omega,by assumption⟩,OSl.nil _ _⟩ ?_ (fun x=>?_)
 exact Zf idH
 obtain ⟨⟨⟨i,bl,tq3,mx3⟩,hi,hbl,hbh,htq3,hmx3⟩,o⟩:=x
 dsimp only at hi hbl hbh htq3 hmx3 o ⊢
 refine sqt 1 rfl (pur 1 rfl (Z0 ?_))
 refine Z2 rfl ?_ ?_<;>intro hc2<;>try simp only [cS] at hc2
 refine Z3 (Z0 (Z1 (sqt 8 rfl (pur 1 rfl ?_))))
 refine cl rfl Z4y rfl rfl (Z1j g ag cg bk hgl _ _ (by omega) (by assumption) (18) (60) (by first | omega | (dsimp only;omega)) _ _) ?_
 rintro _ _ R1 ⟨x47,m47,hx47,rfl,hm47,rfl,hR1⟩
 obtain rfl:=hR1.symm
 refine pur 1 rfl ?_
 refine cl rfl Z0Z rfl rfl (ZV g ag cg bk hgl _ _ (by omega) (by assumption) (6) _ _) ?_
 rintro _ _ R1 ⟨x49,m49,hx49,rfl,hm49,rfl,hR1⟩
 obtain rfl:=hR1.symm
 refine sp rfl (PE.build (out:=[_,_]) ZeS ZeU rfl rfl) rfl (sp rfl (PE.build (out:=[_,_,_,_]) Zkw ZeJ rfl rfl) rfl (alc rfl ZeJ rfl (fun b11=>?_)))
 refine sto rfl rfl rfl Zib rfl rfl rfl rfl ?_
 refine Z0 ?_
 refine Zd [0,0,2,6,14,31,0,0,128,384,0,1024,3072,7168,15360,32767,8127,131071,262143,524287,1048575] (.tk 0 (.tk 1 (.ld 2 (.tk 3 (.tk 4 (tks 6 3 (.ld 9 (.tk 10 (.tk 11 (.ld 12 (.tk 13 (.tk 14 (.big 5 (.tk 16 (.big 15 (.big 17 (.tk 18 (.tk 19 (.big 20 .done))))))))))))))))))) Zq (by kernel_rfl) ?_
 refine Zm 1 rfl (tk rfl (PE.fA Z3v rfl) rfl (ld rfl rfl (lh sc3 rfl rfl) rfl (tk rfl (PE.min rfl rfl) rfl (tk rfl (PE.add rfl rfl (by omega)) rfl (Zm 1 rfl (tk rfl (PE.fA Z2G rfl) rfl (tk rfl (PE.fA Z28 rfl) rfl (ld rfl rfl (lh sc3 rfl rfl) rfl (tk rfl (PE.fA Z2G rfl) rfl (tk rfl (PE.fA Z28 rfl) rfl (ld rfl rfl (lh sc3 rfl rfl) rfl (tk rfl (PE.add rfl rfl (by omega)) rfl (tk rfl (PE.min rfl rfl) rfl ?_)))))))))))))
 refine ZE bk ?_
 refine cl rfl Z0Z rfl rfl (ZV g ag cg bk hgl _ _ (by omega) (by assumption) (min x47 30+1) _ _) ?_
 rintro _ _ R1 ⟨x57,m57,hx57,rfl,hm57,rfl,hR1⟩
 obtain rfl:=hR1.symm
 refine bg (fun w hs=>⟨(lh sc3 rfl rfl) w hs,(lh sc3 rfl rfl) w hs,trivial,trivial⟩) ?_
 refine tk rfl (PE.fA Z5E rfl) rfl ?_
 refine ZE bk ?_
 refine cl rfl Z4y rfl rfl (Z1j g ag cg bk hgl _ _ (by omega) (by assumption) (x49) (min 5 (x49+2)) (by first | omega | (dsimp only;omega)) _ _) ?_
 rintro _ _ R1 ⟨x67,m67,hx67,rfl,hm67,rfl,hR1⟩
 obtain rfl:=hR1.symm
 refine bgT ?_
 refine sto rfl rfl rfl cn3 rfl rfl rfl rfl ?_
 refine bgT (tk rfl (PE.fA Z2G rfl) rfl (tk rfl (PE.fA Z29 rfl) rfl ?_))
 refine sto rfl rfl rfl cn3 rfl rfl rfl rfl ?_
 refine bgT (sqr 7 rfl (sp rfl (PE.fA ZX rfl) rfl (spL rfl rfl (lh Z31 rfl rfl) rfl (spL rfl rfl (lhA [.int .i64 x57,.int .i64 x47,.int .i64 x49,.int .i64 x67] ZeM rfl rfl rfl) rfl ?_))))
 refine bsl (out:=[_,_,_,_]) rfl Zkz ZeJ rfl rfl rfl rfl rfl rfl (fun b74=>?_)
 refine apO (o) rfl Zis rfl rfl (Z2z (row:=Z3W ⟨x57,x47,x49,x67⟩) rfl) rfl rfl ((by rw [Z1i];simp only [List.length_singleton];omega)) rfl (fun o75=>?_)
 refine sp rfl (PE.fA ZX rfl) rfl ?_
 refine Z03 (l':=btl ⟨x13,x16,rs,bl++[⟨x57,x47,x49,x67⟩]⟩ o75.fs) rfl rfl rfl Zjn rfl (by rw [o75.cells.1];first | done | rfl) (by rw [o75.cells.1];simp [o75.cells.2]) (by rw [o75.cells.1];first | done | rfl) (by rw [o75.cells.1];first | done | exact Nat.le_of_ble_eq_true rfl) ?_
 refine sqr 2 rfl (sp rfl (PE.add rfl rfl (by omega)) rfl (pur 1 rfl ?_))
 exact Z0e ⟨⟨(i+1,bl++[⟨x57,x47,x49,x67⟩],tq3+1+1+1+1,m67),by dsimp only;omega,by rw [List.length_append,hbl];rfl,fun y hy=>by
   rcases List.mem_append.1 hy with hy | hy
   · exact hbh y hy
   · rw [List.mem_singleton.1 hy];exact ⟨by dsimp only;omega,by dsimp only;omega,by dsimp only;omega,by dsimp only;omega⟩,by dsimp only;omega,by assumption⟩,o75.cast (by rw [Z37];rfl)⟩ (by dsimp only;omega) sbA (fun w h=>(h.del b74).del b11)
 obtain rfl:i=n43:=by omega
 obtain ⟨ab,cb,he,hf⟩:=o.freeze
 rw [he,Z1i]
 refine Sy.heap (H':=_) (fun w h=>hf (h.perm (List.perm_middle (l₁:=o.G) (a:=_)).symm)) ?_
 clear he hf
 have hmade:=ZdY (nb:=nb) (ng:=ng) hri hbh (by omega) (by omega) (show 0≤x13∧x13≤60 by omega) (show 0≤x16∧x16≤3 by omega) (by omega)
 refine Z8 (Za (Za (Zn (sqt 2 rfl (spL rfl rfl (lhA (btl ⟨x13,x16,rs,bl⟩ (.slice ab bl.length cb)) Z3U rfl rfl rfl) rfl ?_)))))
 refine sto rfl rfl rfl ZeO rfl rfl rfl rfl ?_
 refine Z5 ?_
 exact Zk (vs:=[_]) rfl (.cons (RV.cell rfl (lhA (btl ⟨x13,x16,rs,bl⟩ (.slice ab bl.length cb)) Z3U rfl rfl rfl)) .nil) rfl ⟨⟨x13,x16,rs,bl⟩,ab,cb,_,_,hmade,rfl,⟨by omega,by omega⟩,by assumption,rfl,rfl⟩ (fun w h=>((h.del b7).del b6))
structure DayI (sp:List Nat) (k:Nat) (l:List Int):Prop where
 nd:l.Nodup
 mem:∀ y∈l,∃ i j:Nat,i<k∧sp[i]?=some j∧y=(j:Int)
theorem DayI.skip {sp:List Nat} {k:Nat} {l:List Int} (h:DayI sp k l):DayI sp (k+1) l:=⟨h.nd,fun y hy=>by obtain ⟨i,j,h1,h2⟩:=h.mem y hy;exact ⟨i,j,by omega,h2⟩⟩
theorem DayI.more {sp:List Nat} {k j:Nat} {l:List Int} (h:DayI sp k l) (hn:sp.Nodup) (hj:sp[k]?=some j):DayI sp (k+1) (l++[(j:Int)]):=by
 refine ⟨List.nodup_append.2 ⟨h.nd,by simp,fun x hx y hy e=>?_⟩,fun y hy=>?_⟩
 · rw [List.mem_singleton] at hy
   obtain ⟨i,j',h1,h2,h3⟩:=h.mem x hx
   have e2:j'=j:=by omega
   subst e2
   have hi:=(List.getElem?_eq_some_iff.1 h2).1
   have:=(List.getElem?_inj hi hn).1 (h2.trans hj.symm)
   omega
 · rcases List.mem_append.1 hy with hy | hy
   · obtain ⟨i,j',h1,h2⟩:=h.mem y hy;exact ⟨i,j',by omega,h2⟩
   · rw [List.mem_singleton.1 hy];exact ⟨k,j,by omega,hj,rfl⟩
structure Cls (b:Barn) (cl:List Int):Prop where
 len:cl.length=b.bins.length
 at_:∀ k x,b.bins[k]?=some x→x.lo≤na cl k∧na cl k≤x.hi
theorem Cls.rise {b:Barn} (hok:b.ok) {cl:List Int} (h:Cls b cl):∀ k<b.bins.length,na b.rise (na cl k).toNat≤b.worst (b.bins.getD k hb0):=fun k hk=>by
 obtain ⟨x,hx⟩:∃ x,b.bins[k]?=some x:=⟨_,List.getElem?_eq_getElem hk⟩
 rw [Z0v hx]
 have h1:=h.at_ k x hx
 have h2:=hok.bins x (List.mem_of_getElem? hx)
 exact ZcR hok.srt (by omega) (by rw [hok.len];omega)
theorem Z82 {b:Barn} (hck:b.check=0) {p:List (List Nat)} (hl:p.length≤20000) (h:∀ l∈p,l∈b.dsk.trs false):b.planned (p.map il)=0:=by
 unfold Barn.planned
 rw [decide_eq_true hck,cond_true]
 exact Z6M (d:=b.dsk) hl h
theorem Z7L (b:Barn) (ab:Option Addr) (cb:Nat) (hl:b.bins.length≤9223372036854775807) (hr:b.rise.length=6) (hck:b.check=0) (H:Z7) (R:Z4) [hB:MemRows ab 4 (Zt b.bins) R]:Fn Tryz.prog 14 [b.v (b.sl ab cb)] H R (fun v H' R'=>(∃ m,Kpt b.dsk b.state m∧v = .tuple #[.int .i64 m,.int .i64 0])∧H'=H∧R'=R):=fun w hw=>by
 refine CallsIn.mono (Z8D b ab cb hl hr H R w hw) ?_
 rintro e' w' ⟨u,H',R',⟨h1,h2,h3⟩,he,hs'⟩
 refine ⟨u,H',R',⟨?_,h2,h3⟩,he,hs'⟩
 rcases h1 with ⟨h,_⟩ | ⟨_,m,hm,rfl⟩
 · exact absurd hck h
 · exact ⟨m,hm,rfl⟩
theorem Zht {b b':Barn} (hb:b.ok) (hb':b'.ok) (hg:b.gangs≤b'.gangs) (hn:b.bins.length=b'.bins.length) (hx:∀ (k:Nat) (x x':HBin),b.bins[k]?=some x→b'.bins[k]?=some x'→b.days x b.cool≤b'.days x' b'.cool∧b.days x x.warm≤b'.days x' x'.warm) :
   Les b.dsk b'.dsk∧∀ k<b.dsk.n,na b.state k≤na b'.state k:=by
 have key:∀ k,k<b.bins.length→∃ x x',b.bins[k]?=some x∧b'.bins[k]?=some x':=fun k hk=>⟨_,_,List.getElem?_eq_getElem hk,List.getElem?_eq_getElem (by omega)⟩
 refine ⟨⟨hn,hg,fun k hk=>?_⟩,fun k hk=>?_⟩
 · obtain ⟨x,x',h1,h2⟩:=key k hk
   have a1:na b.dsk.lasts k=b.days x b.cool:=Z1f (b.map_get hb _ h1)
   have a2:na b'.dsk.lasts k=b'.days x' b'.cool:=Z1f (b'.map_get hb' _ h2)
   rw [a1,a2];exact (hx k x x' h1 h2).1
 · obtain ⟨x,x',h1,h2⟩:=key k hk
   have a1:na b.state k=b.days x x.warm:=Z1f (b.map_get hb _ h1)
   have a2:na b'.state k=b'.days x' x'.warm:=Z1f (b'.map_get hb' _ h2)
   rw [a1,a2];exact (hx k x x' h1 h2).2
theorem PlnOk.cold {b:Barn} (hok:b.ok) {n c:Nat} {p:List (List Nat)} (h:PlnOk b n c p):(Zb0 b (p.map il)).2.2=false:=by
 obtain ⟨t,ht⟩:=h.run
 rw [brn_iff]
 rcases Barn.run_burns hok p b.warms 0 (Cool.start hok) (fun l hl=>b.dsk.trs_lt (h.trs l hl)) with ⟨ws,h3,_⟩ | ⟨x,ws,_,h4⟩
 · rw [h3]
 · rw [Barn.stw_warms hok,ht] at h4;cases h4
structure NoW (b b':Barn):Prop where
 ok:b'.ok
 check:b'.check=0
 les:Les b.dsk b'.dsk
 st:∀ k<b.dsk.n,na b.state k≤na b'.state k
theorem NoW.kpt {b b':Barn} (h:NoW b b') (hok:b.ok) {v v':Int} (hv:Kpt b.dsk b.state v) (hv':Kpt b'.dsk b'.state v'):v≤v' :=
 (h.les.kpt (b.dsk_ok hok) (b'.dsk_ok h.ok) (b.state_inS hok) (b'.state_inS h.ok) h.st hv hv').1
theorem Zep {l junk vs:List Value} {i:Nat} (h:i+vs.length≤l.length):spl (l++junk) i vs=spl l i vs++junk:=by
 unfold spl
 rw [List.take_append_of_le_length (by omega),List.drop_append_of_le_length h]
 simp only [List.append_assoc]
theorem Z7v {d:Dsk} {n:Nat} {s t:HSt} {c:Nat} (h:d.pth (n+1) s t c):∃ u a,d.pth n s u a:=by
 obtain ⟨u,a,l,h1,_⟩:=h
 exact ⟨u,a,h1⟩
theorem PlnOk.less {b:Barn} (hok:b.ok) (hck:b.check=0) {n c:Nat} {p:List (List Nat)} (hn:n+1≤20) (h:PlnOk b (n+1) c p):Z5S b n=0∧Z68 b n≤c∧b.planned ((p.take n).map il)=0∧(Zb0 b ((p.take n).map il)).2.2=false:=by
 obtain ⟨t,ht⟩:=h.few.is
 have hl:=h.len
 refine ⟨?_,?_,Z82 hck (by rw [List.length_take];omega) (fun l hl=>h.trs l (List.mem_of_mem_take hl)),?_⟩
 · rcases Z4d hok hck (n:=n) (by omega) with ⟨_,_,h2⟩ | ⟨c',q,h2,_⟩
   · exact absurd (Z7v ht) h2
   · exact h2
 · rcases Z4d hok hck (n:=n) (by omega) with ⟨_,_,h2⟩ | ⟨c',q,_,h3,_,h4⟩
   · exact absurd (Z7v ht) h2
   · have:=h.few.less h4.few;omega
 · have h1:=brn_iff.1 (h.cold hok)
   rw [← List.take_append_drop n p,List.map_append] at h1
   exact brn_iff.2 (Z8C h1)
end Go.Proofs.YthijcgkicjljhaaGreat.Ht
namespace Go.Proofs.YthijcgkicjljhaaGreat
set_option linter.unusedSimpArgs false
set_option linter.unusedVariables false
open Go
theorem Z1Y:Z1g Tryz.prog 126=some 6:=by kernel_rfl
theorem ZiL:cal Tryz.prog 43=true:=by kernel_rfl
theorem ZiM:cal Tryz.prog 44=true:=by kernel_rfl
theorem ZiN:cal Tryz.prog 45=true:=by kernel_rfl
theorem ZiO:cal Tryz.prog 46=true:=by kernel_rfl
theorem ZiP:cal Tryz.prog 47=true:=by kernel_rfl
theorem ZiQ:cal Tryz.prog 48=true:=by kernel_rfl
theorem ZiR:cal Tryz.prog 49=true:=by kernel_rfl
theorem Zjg:ZB Tryz.prog 126=some 6:=by kernel_rfl
theorem Z5L:Z2n Tryz.prog 68=true:=by kernel_rfl
theorem ZjC:ZL Tryz.prog 126=some [(0,1),(1,1),(2,1),(3,1),(4,1),(5,1)]:=by kernel_rfl
theorem Zbx:ZL Tryz.prog 188=some [(0,1),(1,2)]:=by kernel_rfl
theorem ZhF:ZL Tryz.prog 190=some [(0,1),(1,1)]:=by kernel_rfl
theorem Zea:ZL Tryz.prog 192=some [(0,1),(1,1),(2,1)]:=by kernel_rfl
theorem ZeS:ZL Tryz.prog 34=some [(0,1),(1,1)]:=by kernel_rfl
theorem Zem:slE Tryz.prog 122=some (188,3):=by kernel_rfl
theorem ZjS:slE Tryz.prog 123=some (190,2):=by kernel_rfl
theorem ZjT:slE Tryz.prog 124=some (192,3):=by kernel_rfl
theorem Z6a:slE Tryz.prog 30=some (3,1):=by kernel_rfl
theorem Zi6:Zw Tryz.prog 126=some ([.int .i64 0,.int .i64 0,.int .i64 0,.slice none 0 0,.slice none 0 0,.slice none 0 0]):=by kernel_rfl
theorem Z3P:Zw Tryz.prog 188=some ([.int .i64 0,.int .i64 0,.int .i64 0]):=by kernel_rfl
theorem ZaG:Zw Tryz.prog 190=some ([.int .i64 0,.int .i64 0]):=by kernel_rfl
theorem Z8h:Zw Tryz.prog 192=some ([.int .i64 0,.int .i64 0,.int .i64 0]):=by kernel_rfl
theorem zl3:Zw Tryz.prog 3=some ([.int .i64 0]):=by kernel_rfl
theorem ZeU:Zw Tryz.prog 34=some ([.int .i64 0,.int .i64 0]):=by kernel_rfl
namespace Hn
def spF:List Spl:=[⟨0,0,6⟩,⟨1,5,14⟩,⟨2,14,20⟩]
def wtF:Wt:=⟨24,1,3,[⟨0,100,102⟩,⟨6,90,92⟩,⟨12,80,84⟩,⟨20,70,71⟩],[⟨4,-2⟩,⟨15,10⟩],spF⟩
theorem wtF_ok:wtF.ok where
 hours:=by decide
 allow:=by decide
 hands:=by decide
 nc:=by decide
 nb:=by decide
 ns:=by decide
 cnt:=fun c hc=>by
   simp only [wtF,List.mem_cons,List.not_mem_nil,or_false] at hc
   rcases hc with rfl | rfl | rfl | rfl<;>simp [wtF]
 bks:=fun c hc=>by
   simp only [wtF,List.mem_cons,List.not_mem_nil,or_false] at hc
   rcases hc with rfl | rfl<;>simp [wtF]
 spl:=fun c hc=>by
   simp only [wtF,spF,List.mem_cons,List.not_mem_nil,or_false] at hc
   rcases hc with rfl | rfl | rfl<;>simp [wtF]
 inc:=fun i c d h1 h2=>by
   match i,h1,h2 with
   | 0,h1,h2=>cases h1;cases h2;decide
   | 1,h1,h2=>cases h1;cases h2;decide
   | 2,h1,h2=>cases h1;cases h2;decide
   | 3,h1,h2=>cases h2
   | i+4,h1,h2=>cases h1
theorem wtF_clash:wtF.clash=false:=by decide
theorem wtF_prv:wtF.prv wtF.full=17:=by decide
end Hn
theorem Zd9 (H:Z7) (R:Z4) :
    Fn Tryz.prog 49 [.int .i64 14] H R (fun v H' R'=>∃ a c,v = .slice a Hn.spF.length c∧H'=H∧R'=RowsA a 3 (Hn.sprows Hn.spF)::R):=by
 refine Z9 Tryz.func49 rfl Tryz.ntmps49 rfl ?_
 refine sqt 1 rfl (pur 1 rfl (sqt 6 rfl (sp rfl (PE.build (out:=[_,_,_]) Zea Z8h rfl rfl) rfl (pur 1 rfl (sp rfl (PE.build (out:=[_,_,_]) Zea Z8h rfl rfl) rfl (sp rfl (PE.build (out:=[_,_,_]) Zea Z8h rfl rfl) rfl ?_))))))
 refine bsl (out:=[_,_,_,_,_,_,_,_,_]) rfl ZjT Z8h rfl rfl rfl rfl rfl rfl (fun b7=>?_)
 refine pur 1 rfl (Z5 ?_)
 refine Sy.heap (fun w h=>St.rows (b:=b7) (sz:=3) (rows:=Hn.sprows Hn.spF) (rest:=[]) ((h).pull b7) (by simp [Hn.crow,Hn.crows,Hn.bkrow,Hn.bkrows,Hn.sprow,Hn.sprows,Hn.wtF,Hn.spF])) ?_
 exact rtA rfl rfl rfl ⟨some ⟨b7,0,none⟩,3,rfl,rfl,rfl⟩ idH
theorem Zda (a:Option Addr) (c:Nat) (H:Z7) (R:Z4) :
    Fn Tryz.prog 48 [.slice a Hn.spF.length c] H R (fun v H' R'=>∃ a1 a2 k1 k2,v=Hn.wtF.v a1 a2 a k1 k2 c∧H'=H∧R'=RowsA a2 2 (Hn.bkrows Hn.wtF.books)::RowsA a1 3 (Hn.crows Hn.wtF.counts)::R):=by
 refine Z9 Tryz.func48 rfl Tryz.ntmps48 rfl ?_
 refine sqt 1 rfl (alc rfl Zi6 rfl (fun b2=>sqt 15 rfl (sp rfl (PE.build (out:=[_,_]) ZeS ZeU rfl rfl) rfl (sp rfl (PE.build (out:=[_,_,_]) Zbx Z3P rfl rfl) rfl (sp rfl (PE.build (out:=[_,_]) ZeS ZeU rfl rfl) rfl (sp rfl (PE.build (out:=[_,_,_]) Zbx Z3P rfl rfl) rfl (sp rfl (PE.build (out:=[_,_]) ZeS ZeU rfl rfl) rfl (sp rfl (PE.build (out:=[_,_,_]) Zbx Z3P rfl rfl) rfl (sp rfl (PE.build (out:=[_,_]) ZeS ZeU rfl rfl) rfl (sp rfl (PE.build (out:=[_,_,_]) Zbx Z3P rfl rfl) rfl ?_))))))))))
 refine bsl (out:=[_,_,_,_,_,_,_,_,_,_,_,_]) rfl Zem Z3P rfl rfl rfl rfl rfl rfl (fun b11=>?_)
 refine sp rfl (PE.build (out:=[_,_]) ZhF ZaG rfl rfl) rfl (sp rfl (PE.build (out:=[_,_]) ZhF ZaG rfl rfl) rfl ?_)
 refine bsl (out:=[_,_,_,_]) rfl ZjS ZaG rfl rfl rfl rfl rfl rfl (fun b14=>?_)
 refine pur 1 rfl (sp rfl (PE.build (out:=[_,_,_,_,_,_]) ZjC Zi6 rfl rfl) rfl ?_)
 refine sto rfl rfl rfl Zjg rfl rfl rfl rfl ?_
 refine Z5 ?_
 refine Sy.heap (fun w h=>St.rows (b:=b14) (sz:=2) (rows:=Hn.bkrows Hn.wtF.books) (rest:=[]) ((St.rows (b:=b11) (sz:=3) (rows:=Hn.crows Hn.wtF.counts) (rest:=[]) ((h).pull b11) (by simp [Hn.crow,Hn.crows,Hn.bkrow,Hn.bkrows,Hn.sprow,Hn.sprows,Hn.wtF,Hn.spF])).pull b14) (by simp [Hn.crow,Hn.crows,Hn.bkrow,Hn.bkrows,Hn.sprow,Hn.sprows,Hn.wtF,Hn.spF])) ?_
 exact Zk (vs:=[_]) rfl (.cons (RV.cell rfl (lhA (Hn.wtl Hn.wtF (some ⟨b11,0,none⟩) (some ⟨b14,0,none⟩) a 4 2 c) Z1Y rfl rfl rfl)) .nil) rfl ⟨some ⟨b11,0,none⟩,some ⟨b14,0,none⟩,4,2,rfl,rfl,rfl⟩ (fun w h=>h.del b2)
set_option maxHeartbeats 400000 in
theorem Z8F (H:Z7) (R:Z4) :
    FnV Tryz.prog 16 [] H R (.bool true):=by
 refine Z9 Tryz.func16 rfl Tryz.ntmps16 rfl ?_
 refine sqt 1 rfl (pur 1 rfl (sqt 8 rfl ?_))
 refine bsl (out:=[_,_,_]) rfl Z6a zl3 rfl rfl rfl rfl rfl rfl (fun b8=>?_)
 refine Sy.heap (fun w h=>St.rows (b:=b8) (sz:=1) (rows:=Ro.irows [0,1,2]) (rest:=[]) (h.pull b8) (by simp)) ?_
 refine cl rfl ZiM rfl rfl (Ro.c_Three (some ⟨b8,0,none⟩) 3 _ _) ?_
 rintro _ _ _ ⟨att,ct,rfl,rfl,rfl⟩
 refine cl rfl ZiL rfl rfl (Ro.c_FewestT att ct _ _) ?_
 rintro _ _ R1 ⟨afw,cfw,rfl,rfl,hR1⟩
 obtain rfl:=hR1.symm
 clear hR1
 refine pur 5 rfl (sqt 7 rfl ?_)
 refine cl rfl ZiO rfl rfl (Fl.c_Two _ _) ?_
 rintro _ _ _ ⟨pa,pb,pc,pd,pe,pf,rfl,rfl,rfl⟩
 refine clV rfl ZiN rfl rfl (Fl.c_MostT pa pb pc pd pe pf _ _) ?_
 refine pur 5 rfl (sqt 8 rfl ?_)
 refine cl rfl ZiR rfl rfl (Zd9 _ _) ?_
 rintro _ _ _ ⟨asp,csp,rfl,rfl,rfl⟩
 refine cl rfl ZiQ rfl rfl (Zda asp csp _ _) ?_
 rintro _ _ _ ⟨a1,a2,k1,k2,rfl,rfl,rfl⟩
 refine cl rfl ZiP rfl rfl (Hn.c_Missing Hn.wtF a1 a2 asp k1 k2 csp Hn.wtF_ok Hn.wtF_clash _ _) ?_
 rintro _ _ R1 ⟨rfl,rfl,hR1⟩
 obtain rfl:=hR1.symm
 clear hR1
 rw [Hn.wtF_prv]
 refine pur 5 rfl (sqt 24 rfl (pur 3 rfl ?_))
 refine Zv 26 rfl ?_ ?_<;>intro g26
 refine pur 4 rfl ?_
 refine Zv 30 rfl ?_ ?_<;>intro g30
 refine pur 4 rfl ?_
 refine Zv 34 rfl ?_ ?_<;>intro g34
 refine pur 1 rfl ?_
 refine spG rfl rfl rfl rfl (PE.lenSl Z5L rfl) rfl ?_
 refine pur 3 rfl ?_
 refine Zv 39 rfl ?_ ?_<;>intro g39
 refine pur 4 rfl ?_
 refine Zv 43 rfl ?_ ?_<;>intro g43
 refine pur 4 rfl (Z5 ?_)
 exact rtA rfl rfl rfl ⟨rfl,rfl,rfl⟩ (fun w h=>St.sub h)
 exact absurd g43 (by simp)
 exact absurd g39 (by simp)
 exact absurd g34 (by simp)
 exact absurd g30 (by simp)
 exact absurd g26 (by simp)
theorem ZG:Z1g Tryz.prog 39=some 3:=by kernel_rfl
theorem Z1Z:Z1g Tryz.prog 43=some 2:=by kernel_rfl
theorem ZaH:Z1g Tryz.prog 50=some 4:=by kernel_rfl
theorem Zc5:apT Tryz.prog 30=some (3,1,8):=by kernel_rfl
theorem ZeZ:apT Tryz.prog 37=some (50,4,32):=by kernel_rfl
theorem Z4y:cal Tryz.prog 19=true:=by kernel_rfl
theorem Z0Z:cal Tryz.prog 20=true:=by kernel_rfl
theorem ZiG:cal Tryz.prog 29=true:=by kernel_rfl
theorem cn3:ZB Tryz.prog 3=some 1:=by kernel_rfl
theorem Zjo:ZB Tryz.prog 37=some 1:=by kernel_rfl
theorem Z9t:ZB Tryz.prog 39=some 3:=by kernel_rfl
theorem ZaJ:ZB Tryz.prog 50=some 4:=by kernel_rfl
theorem Z3R:elN Tryz.prog 30=some 1:=by kernel_rfl
theorem Z1q:ZT Tryz.prog 39 0=some 0:=by kernel_rfl
theorem Z1r:ZT Tryz.prog 39 1=some 1:=by kernel_rfl
theorem Z0a:ZT Tryz.prog 39 2=some 2:=by kernel_rfl
theorem Z4a:ZT Tryz.prog 50 0=some 0:=by kernel_rfl
theorem Z4b:ZT Tryz.prog 50 1=some 2:=by kernel_rfl
theorem Z2H:ZT Tryz.prog 50 2=some 3:=by kernel_rfl
theorem Z04:Z2n Tryz.prog 30=true:=by kernel_rfl
theorem ZhH:ZL Tryz.prog 39=some [(0,1),(1,1),(2,1)]:=by kernel_rfl
theorem Zab:ZL Tryz.prog 43=some [(0,1),(1,1)]:=by kernel_rfl
theorem ZaL:ZL Tryz.prog 50=some [(0,2),(2,1),(3,1)]:=by kernel_rfl
theorem sc3:Z0g Tryz.prog 3=true:=by kernel_rfl
theorem Z52:Z0g Tryz.prog 37=true:=by kernel_rfl
theorem ZhU:slE Tryz.prog 37=some (50,4):=by kernel_rfl
theorem Z7H:Zw Tryz.prog 39=some ([.int .i64 0,.int .i64 0,.slice none 0 0]):=by kernel_rfl
theorem Z3S:Zw Tryz.prog 43=some ([.int .i64 0,.int .i64 0]):=by kernel_rfl
theorem Z3Q:Zw Tryz.prog 50=some ([.int .i64 0,.int .i64 0,.int .i64 0,.int .i64 0]):=by kernel_rfl
namespace Ht
theorem Z9G {C W:Nat} {rods:List Ro.Rd} {hl:List Int} (h:∀ k,k<C*W→0≤Ro.na hl k∧Ro.na hl k≤9) (x:Ro.Rd):0≤Ro.Rb.feel ⟨C,W,rods⟩ (Ro.na hl) x∧Ro.Rb.feel ⟨C,W,rods⟩ (Ro.na hl) x≤9 :=
 ⟨Ro.feel_nn _ _ _ _,Ro.feel_ub (by decide) _ fun k hk _=>by have h1:=h k hk;have h2:=Ro.dsC_nn C k x.c x.r;show _-Ro.dsC C k x.c x.r≤9;omega⟩
theorem ZcB {n:Nat} {hl:List Int} (h:hl.length=n) (hr:∀ z∈hl,0≤z∧z≤9):∀ k,k<n→0≤Ro.na hl k∧Ro.na hl k≤9:=fun k hk=>hr _ (List.mem_of_getElem? (Ro.na_get (by rw [h];exact hk)))
theorem ZbH {C W:Nat} {z:Nat→Int} (h:∀ k,k<C*W→0≤z k∧z k≤9):Ro.RTru ⟨C,W,[]⟩ z:=⟨h,fun x hx=>(by cases hx)⟩
theorem ZbN {l:List Value} {k:Nat} {v:Value} (h:k<l.length):spl l k [v]=l.set k v:=by
 simp only [spl,List.length_singleton,List.append_assoc,List.singleton_append]
 rw [List.set_eq_take_append_cons_drop,if_pos h]
theorem Z9T {l:List Int} {i k:Nat} {v:Int} (hk:k<l.length) (e:i=k):spl (Zj l) i [.int .i64 v]=Zj (l.set k v):=by
 subst e
 rw [ZbN (by simp [Zj];exact hk)]
 unfold Zj
 rw [List.map_set]
theorem Z9S (l:List Int):(Zj l).length=l.length:=by simp [Zj]
theorem OSl.form {e:Nat} {rods:List Ro.Rd} (o:OSl e 4 (Ro.rdrows rods)):∃ a c,o.fs = .slice a rods.length c:=by
 rcases o.is with ⟨h1,h2,_⟩ | ⟨b,cap,_,h2,_⟩
 · have:rods.length=0:=by rw [← Ro.rd_len,h1];rfl
   exact ⟨none,0,by rw [h2,this]⟩
 · exact ⟨some ⟨b,0,none⟩,cap,by rw [h2,Ro.rd_len]⟩
theorem Z99 (b:Ro.Rb) (a:Option Addr) (c:Nat) (hb:b.ok) (l:List Int) (n:Nat) (hn:l.length=n) (ak:Option Addr) (ck:Nat) (hl:l.length=b.n) (hh:∀ x∈l,0≤x∧x≤9) (x:Ro.Rd) (hx:(0≤x.c∧x.c<5)∧0≤x.r∧x.r<5) (H:Z7) (R:Z4) [hL:MemRows ak 1 (irows l) R]:FnV Tryz.prog 29 [b.v a c,.slice ak n ck,.agg #[.int .i64 x.c,.int .i64 x.r],.int .i64 x.g] H R (.int .i64 (b.feel (Ro.na l) x)):=by
 subst hn;exact Ro.c_lfeels b a c hb l ak ck hl hh x hx H R
set_option maxHeartbeats 1000000 in
theorem Zdc (l1:List Int) (a1:Option Addr) (c1:Nat) (hl1:l1.length≤9223372036854775807) (bq:Nat) (tq mx:Int) (htq:0≤tq∧tq≤1000000) (hmx:0≤mx∧mx≤4294967295) (H:Z7) (R:Z4) [hG1:MemRows a1 1 (Z41 l1) R] :
    Fn Tryz.prog 8 [.pointer (some ⟨bq,0,none⟩),.int .i64 4,.int .i64 3,.int .i64 5] ((bq,cel 83 [.slice a1 l1.length c1,.int .i64 (tq),.int .u32 (mx)])::H) R (fun v H' R'=>∃ (C W:Nat) (rods:List Ro.Rd) (hl:List Int) (ax ah:Option Addr) (cx ch:Nat) (tq' mx':Int),Ro.Rb.ok ⟨C,W,rods⟩∧Ro.RTru ⟨C,W,rods⟩ (Ro.na hl)∧hl.length=C*W∧(∀ z∈hl,0≤z∧z≤9)∧rods.length≤5∧(tq≤tq'∧tq'≤tq+(30))∧(0≤mx'∧mx'≤4294967295)∧v = .tuple #[Ro.Rb.v ⟨C,W,rods⟩ ax cx,.slice ah (C*W) ch]∧H'=(bq,cel 83 [.slice a1 l1.length c1,.int .i64 (tq'),.int .u32 (mx')])::H∧R'=RowsA ax 4 (Ro.rdrows rods)::RowsA ah 1 (irows hl)::R):=by
 refine Z9 Tryz.func8 rfl Tryz.ntmps8 rfl ?_
 refine sqt 2 rfl (alc rfl Z7H rfl (fun b8=>pur 1 rfl (sqt 9 rfl (pur 2 rfl ?_))))
 refine ZE bq ?_
 refine cl rfl Z4y rfl rfl (Z1j l1 a1 c1 bq hl1 _ _ (by omega) (by assumption) (1) (4) (by omega) _ _) ?_
 rintro _ _ R1 ⟨x15,m15,hx15,rfl,hm15,rfl,hR1⟩
 obtain rfl:=hR1.symm
 clear hR1
 refine pur 2 rfl ?_
 refine cl rfl Z4y rfl rfl (Z1j l1 a1 c1 bq hl1 _ _ (by omega) (by assumption) (1) (3) (by omega) _ _) ?_
 rintro _ _ R1 ⟨x18,m18,hx18,rfl,hm18,rfl,hR1⟩
 obtain rfl:=hR1.symm
 clear hR1
 obtain ⟨C,rfl⟩:∃ C:Nat,x15=C:=⟨x15.toNat,by omega⟩
 obtain ⟨W,rfl⟩:∃ W:Nat,x18=W:=⟨x18.toNat,by omega⟩
 have hCW:(C:Int)*(W:Int)=((C*W:Nat):Int):=by simp
 have hCW9:C*W≤4*3:=Nat.mul_le_mul (by omega) (by omega)
 have hCW1:1*1≤C*W:=Nat.mul_le_mul (by omega) (by omega)
 refine sp rfl (PE.build (out:=[.int .i64 (C:Int),.int .i64 (W:Int),.slice none 0 0]) ZhH Z7H rfl rfl) rfl (alc rfl Z7H rfl (fun b10=>?_))
 refine sto rfl rfl rfl Z9t rfl rfl rfl rfl ?_
 refine sqt 7 rfl (sp rfl (PE.fA Z1q rfl) rfl (spL rfl rfl (lh (v:=.int .i64 (C:Int)) sc3 rfl rfl) rfl (sp rfl (PE.fA Z1r rfl) rfl (spL rfl rfl (lh (v:=.int .i64 (W:Int)) sc3 rfl rfl) rfl (sp rfl (PE.mul rfl rfl (by omega)) rfl ?_)))))
 rw [hCW]
 refine mkS (l:=C*W) (c:=C*W) rfl Zc5 zl3 rfl rfl (Nat.le_refl _) (by omega) rfl (fun b25=>?_)
 rw [ZjG]
 refine pur 1 rfl (Z0 (sqt 3 rfl (pur 1 rfl ?_)))
 refine ZE bq ?_
 refine cl rfl Z0Z rfl rfl (ZV l1 a1 c1 bq hl1 _ _ (by omega) (by assumption) (4) _ _) ?_
 rintro _ _ R1 ⟨x27,m27,hx27,rfl,hm27,rfl,hR1⟩
 obtain rfl:=hR1.symm
 clear hR1
 obtain ⟨n27,rfl⟩:∃ n:Nat,x27=n:=⟨x27.toNat,by omega⟩
 refine pur 1 rfl (Z1 ?_)
 refine Zc (ι:={x:Nat×List Int×Int×Int // x.1≤n27∧x.2.1.length=C*W∧(∀ z∈x.2.1,0≤z∧z≤9)∧(tq≤x.2.2.1∧x.2.2.1≤tq+(3+2*x.1))∧(0≤x.2.2.2∧x.2.2.2≤4294967295)}) (fun x=>⟨[(0,.pointer (some ⟨bq,0,none⟩)),(8,.pointer (some ⟨b8,0,none⟩)),(10,.pointer (some ⟨b10,0,none⟩)),(11,.slice (some ⟨b25,0,none⟩) (C*W) (C*W)),(3,.int .i64 5),(27,.int .i64 (n27:Int)),(28,.int .i64 (x.1.1:Int))],(bq,cel 83 [.slice a1 l1.length c1,.int .i64 (x.1.2.2.1),.int .u32 (x.1.2.2.2)])::(b25,cel 3 (Zj (x.1.2.1)))::(b10,cel 39 [.int .i64 (C:Int),.int .i64 (W:Int),.slice none 0 0])::(b8,cel 39 [.int .i64 0,.int .i64 0,.slice none 0 0])::H,R⟩) (fun x=>n27-x.1.1) ⟨(0,List.replicate (C*W) 0,tq+1+1+1,m27),by omega,by simp,fun z hz=>by rw [(List.mem_replicate.1 hz).2];decide,by dsimp only;omega,by assumption⟩ ?_ (fun x=>?_)
 exact Zf idH
 obtain ⟨⟨k,hl,tq2,mx2⟩,hk,hlen,hrng,htq2,hmx2⟩:=x
 dsimp only at hk hlen hrng htq2 hmx2 ⊢
 refine sqt 1 rfl (pur 1 rfl (Z0 ?_))
 refine Z2 rfl ?_ ?_<;>intro hc0<;>try simp only [cS] at hc0
 refine Z3 (Z0 (Z1 (sqr 9 rfl (pur 3 rfl (sp rfl (PE.lenSl Z04 rfl) rfl ?_)))))
 refine cl rfl Z0Z rfl rfl (ZV l1 a1 c1 bq hl1 _ _ (by omega) (by assumption) (((C*W:Nat):Int)) _ _) ?_
 rintro _ _ R1 ⟨x34,m34,hx34,rfl,hm34,rfl,hR1⟩
 obtain rfl:=hR1.symm
 clear hR1
 refine pur 1 rfl ?_
 refine cl rfl Z4y rfl rfl (Z1j l1 a1 c1 bq hl1 _ _ (by omega) (by assumption) (1) (9) (by omega) _ _) ?_
 rintro _ _ R1 ⟨x36,m36,hx36,rfl,hm36,rfl,hR1⟩
 obtain rfl:=hR1.symm
 clear hR1
 refine sp rfl (PE.indexAddr Z3R rfl rfl (by omega) (by omega)) rfl ?_
 refine Z03 (l':=Zj (hl.set x34.toNat x36)) rfl rfl rfl cn3 rfl rfl rfl (Z9T (l:=hl) (k:=x34.toNat) (by omega) (by show 0+x34.toNat*1=_;omega)) (by rw [Z9S,hlen];show 0+x34.toNat*1+1≤_;omega) ?_
 refine sqr 2 rfl (sp rfl (PE.add rfl rfl (by omega)) rfl (pur 1 rfl ?_))
 exact Zb ⟨(k+1,hl.set x34.toNat x36,tq2+1+1,m36),by dsimp only;omega,by dsimp only;rw [List.length_set];exact hlen,fun z hz=>(List.mem_or_eq_of_mem_set hz).elim (hrng z) (fun e=>by omega),by dsimp only;omega,by assumption⟩ idH
 refine Sy.heap (fun w h=>St.intRows (l:=hl) (h.pull b25)) ?_
 have hts:=ZcB hlen hrng
 refine Z8 (Za (Za (Zn (Z0 (sqt 5 rfl (pur 2 rfl (sp rfl (PE.add rfl rfl (by omega)) rfl ?_)))))))
 refine cl rfl Z0Z rfl rfl (ZV l1 a1 c1 bq hl1 _ _ (by omega) (by assumption) (5+1) _ _) ?_
 rintro _ _ R1 ⟨x42,m42,hx42,rfl,hm42,rfl,hR1⟩
 obtain rfl:=hR1.symm
 clear hR1
 obtain ⟨n42,rfl⟩:∃ n:Nat,x42=n:=⟨x42.toNat,by omega⟩
 refine pur 1 rfl (Z1 ?_)
 refine Zc (ι:=(x:{x:Nat×List Ro.Rd×Int×Int // x.1≤n42∧Ro.RTru ⟨C,W,x.2.1⟩ (Ro.na hl)∧Ro.Rb.ok ⟨C,W,x.2.1⟩∧x.2.1.length≤x.1∧(tq≤x.2.2.1∧x.2.2.1≤tq+(10+3*x.1))∧(0≤x.2.2.2∧x.2.2.2≤4294967295)})×OSl 50 4 (Ro.rdrows x.1.2.1)) (fun x=>⟨[(0,.pointer (some ⟨bq,0,none⟩)),(8,.pointer (some ⟨b8,0,none⟩)),(10,.pointer (some ⟨b10,0,none⟩)),(11,.slice (some ⟨b25,0,none⟩) (C*W) (C*W)),(42,.int .i64 (n42:Int)),(43,.int .i64 (x.1.1.1:Int))],(bq,cel 83 [.slice a1 l1.length c1,.int .i64 (x.1.1.2.2.1),.int .u32 (x.1.1.2.2.2)])::(x.2.G++((b10,cel 39 [.int .i64 (C:Int),.int .i64 (W:Int),x.2.fs])::(b8,cel 39 [.int .i64 0,.int .i64 0,.slice none 0 0])::H)),RowsA (some ⟨b25,0,none⟩) 1 (irows hl)::R⟩) (fun x=>n42-x.1.1.1) ⟨⟨(0,[],tq2+1,m42),by omega,ZbH hts,⟨⟨by dsimp only;omega,by dsimp only;omega⟩,⟨by dsimp only;omega,by dsimp only;omega⟩,Nat.zero_le _,fun x hx=>(by cases hx)⟩,Nat.zero_le _,by dsimp only;omega,by assumption⟩,OSl.nil _ _⟩ ?_ (fun x=>?_)
 exact Zf idH
 obtain ⟨⟨⟨k2,rods,tq4,mx4⟩,hk2,hrt,hrok,hrl,htq4,hmx4⟩,o⟩:=x
 dsimp only at hk2 hrt hrok hrl htq4 hmx4 o ⊢
 refine sqt 1 rfl (pur 1 rfl (Z0 ?_))
 refine Z2 rfl ?_ ?_<;>intro hc1<;>try simp only [cS] at hc1
 obtain ⟨ao,co,hoe⟩:=OSl.form o
 refine Z3 (Z0 (Z1 (Z0 ?_)))
 refine Z2j (ι:={x:Int×Int×Int×Nat×Int×Int // (0≤x.1∧x.1<C)∧(0≤x.2.1∧x.2.1<W)∧(0≤x.2.2.1∧x.2.2.1≤3)∧(tq≤x.2.2.2.2.1∧x.2.2.2.2.1≤tq+(13+3*k2))∧(0≤x.2.2.2.2.2∧x.2.2.2.2.2≤4294967295)}) (fun x=>⟨[(0,.pointer (some ⟨bq,0,none⟩)),(8,.pointer (some ⟨b8,0,none⟩)),(10,.pointer (some ⟨b10,0,none⟩)),(11,.slice (some ⟨b25,0,none⟩) (C*W) (C*W)),(12,.pointer (some ⟨x.1.2.2.2.1,0,none⟩)),(42,.int .i64 (n42:Int)),(43,.int .i64 (k2:Int))],(x.1.2.2.2.1,cel 50 [.int .i64 x.1.1,.int .i64 x.1.2.1,.int .i64 x.1.2.2.1,.int .i64 0])::(bq,cel 83 [.slice a1 l1.length c1,.int .i64 (x.1.2.2.2.2.1),.int .u32 (x.1.2.2.2.2.2)])::(o.G++((b10,cel 39 [.int .i64 (C:Int),.int .i64 (W:Int),o.fs])::(b8,cel 39 [.int .i64 0,.int .i64 0,.slice none 0 0])::H)),RowsA (some ⟨b25,0,none⟩) 1 (irows hl)::R⟩) ?_ ?_
 refine Zd [0,0,2,7,0,0,32,127,255,0,767,2047,0,8191] (.tk 0 (.tk 1 (.ld 2 (.tk 4 (.tk 5 (.ld 6 (.tk 9 (.any (.alt 3 (.any (.alt 7 (.tk 8 (.any (.alt 10 (.tk 11 (.big 12 (.big 13 .done))) (.alt 12 (.big 10 (.tk 11 (.big 13 .done))) .stop)))) (.alt 12 (.big 7 (.tk 8 (.big 10 (.tk 11 (.big 13 .done))))) .stop))) (.alt 12 (.big 3 (.big 7 (.tk 8 (.big 10 (.tk 11 (.big 13 .done)))))) .stop)))))))))) Zq (by kernel_rfl) ?_
 refine Zm 1 rfl (tk rfl (PE.fA Z1q rfl) rfl (ld rfl rfl (lh (v:=.int .i64 (C:Int)) sc3 rfl rfl) rfl (Zm 1 rfl (tk rfl (PE.fA Z1r rfl) rfl (ld rfl rfl (lh (v:=.int .i64 (W:Int)) sc3 rfl rfl) rfl (Zm 1 rfl ?_))))))
 refine Zs ?_ ?_
 refine ZE bq ?_
 refine cl rfl Z0Z rfl rfl (ZV l1 a1 c1 bq hl1 _ _ (by omega) (by assumption) ((C:Int)) _ _) ?_
 rintro _ _ R1 ⟨x48,m48,hx48,rfl,hm48,rfl,hR1⟩
 obtain rfl:=hR1.symm
 clear hR1
 refine bg (fun w hs=>⟨(lh (v:=.int .i64 (W:Int)) sc3 rfl rfl) w hs,trivial,trivial⟩) ?_
 refine Zs ?_ ?_
 refine ZE bq ?_
 refine cl rfl Z0Z rfl rfl (ZV l1 a1 c1 bq hl1 _ _ (by omega) (by assumption) ((W:Int)) _ _) ?_
 rintro _ _ R1 ⟨x52,m52,hx52,rfl,hm52,rfl,hR1⟩
 obtain rfl:=hR1.symm
 clear hR1
 refine bgT (tk rfl (PE.build (out:=[.int .i64 x48,.int .i64 x52]) Zab Z3S rfl rfl) rfl ?_)
 refine Zs ?_ ?_
 refine ZE bq ?_
 refine cl rfl Z0Z rfl rfl (ZV l1 a1 c1 bq hl1 _ _ (by omega) (by assumption) (4) _ _) ?_
 rintro _ _ R1 ⟨x55,m55,hx55,rfl,hm55,rfl,hR1⟩
 obtain rfl:=hR1.symm
 clear hR1
 refine bgT (tk rfl (PE.build (out:=[.int .i64 x48,.int .i64 x52,.int .i64 x55,.int .i64 0]) ZaL Z3Q rfl rfl) rfl (alc rfl Z3Q rfl (fun b12=>bgT ?_)))
 refine sto rfl rfl rfl ZaJ rfl rfl rfl rfl ?_
 refine bgT ?_
 exact Zh ⟨(x48,x52,x55,b12,tq4+1+1+1,_),by dsimp only;omega,by dsimp only;omega,by dsimp only;omega,by dsimp only;omega,by assumption⟩ (fun w h=>h.pull b12)
 refine Zs ?_ ?_
 refine alc rfl Z3Q rfl (fun b12=>bgT ?_)
 refine ZE bq ?_
 refine cl rfl Z0Z rfl rfl (ZV l1 a1 c1 bq hl1 _ _ (by omega) (by assumption) (4) _ _) ?_
 rintro _ _ R1 ⟨x55,m55,hx55,rfl,hm55,rfl,hR1⟩
 obtain rfl:=hR1.symm
 clear hR1
 refine bgT (tk rfl (PE.build (out:=[.int .i64 x48,.int .i64 x52,.int .i64 x55,.int .i64 0]) ZaL Z3Q rfl rfl) rfl ?_)
 refine sto rfl rfl rfl ZaJ rfl rfl rfl rfl ?_
 refine bgT ?_
 exact Zh ⟨(x48,x52,x55,b12,tq4+1+1+1,_),by dsimp only;omega,by dsimp only;omega,by dsimp only;omega,by dsimp only;omega,by assumption⟩ (fun w h=>h.pull b12)
 exact ZO
 refine Zs ?_ ?_
 refine alc rfl Z3Q rfl (fun b12=>?_)
 refine bg (fun w hs=>⟨(lh (v:=.int .i64 (W:Int)) sc3 rfl rfl) w hs,trivial⟩) ?_
 refine ZE bq ?_
 refine cl rfl Z0Z rfl rfl (ZV l1 a1 c1 bq hl1 _ _ (by omega) (by assumption) ((W:Int)) _ _) ?_
 rintro _ _ R1 ⟨x52,m52,hx52,rfl,hm52,rfl,hR1⟩
 obtain rfl:=hR1.symm
 clear hR1
 refine bgT (tk rfl (PE.build (out:=[.int .i64 x48,.int .i64 x52]) Zab Z3S rfl rfl) rfl ?_)
 refine ZE bq ?_
 refine cl rfl Z0Z rfl rfl (ZV l1 a1 c1 bq hl1 _ _ (by omega) (by assumption) (4) _ _) ?_
 rintro _ _ R1 ⟨x55,m55,hx55,rfl,hm55,rfl,hR1⟩
 obtain rfl:=hR1.symm
 clear hR1
 refine bgT (tk rfl (PE.build (out:=[.int .i64 x48,.int .i64 x52,.int .i64 x55,.int .i64 0]) ZaL Z3Q rfl rfl) rfl ?_)
 refine sto rfl rfl rfl ZaJ rfl rfl rfl rfl ?_
 refine bgT ?_
 exact Zh ⟨(x48,x52,x55,b12,tq4+1+1+1,_),by dsimp only;omega,by dsimp only;omega,by dsimp only;omega,by dsimp only;omega,by assumption⟩ (fun w h=>h.pull b12)
 exact ZO
 refine Zs ?_ ?_
 refine alc rfl Z3Q rfl (fun b12=>?_)
 refine bg (fun w hs=>⟨(lh (v:=.int .i64 (W:Int)) sc3 rfl rfl) w hs,(lh (v:=.int .i64 (C:Int)) sc3 rfl rfl) w hs,trivial⟩) ?_
 refine ZE bq ?_
 refine cl rfl Z0Z rfl rfl (ZV l1 a1 c1 bq hl1 _ _ (by omega) (by assumption) ((C:Int)) _ _) ?_
 rintro _ _ R1 ⟨x48,m48,hx48,rfl,hm48,rfl,hR1⟩
 obtain rfl:=hR1.symm
 clear hR1
 refine bg (fun w hs=>⟨(lh (v:=.int .i64 (W:Int)) sc3 rfl rfl) w hs,trivial,trivial⟩) ?_
 refine ZE bq ?_
 refine cl rfl Z0Z rfl rfl (ZV l1 a1 c1 bq hl1 _ _ (by omega) (by assumption) ((W:Int)) _ _) ?_
 rintro _ _ R1 ⟨x52,m52,hx52,rfl,hm52,rfl,hR1⟩
 obtain rfl:=hR1.symm
 clear hR1
 refine bgT (tk rfl (PE.build (out:=[.int .i64 x48,.int .i64 x52]) Zab Z3S rfl rfl) rfl ?_)
 refine ZE bq ?_
 refine cl rfl Z0Z rfl rfl (ZV l1 a1 c1 bq hl1 _ _ (by omega) (by assumption) (4) _ _) ?_
 rintro _ _ R1 ⟨x55,m55,hx55,rfl,hm55,rfl,hR1⟩
 obtain rfl:=hR1.symm
 clear hR1
 refine bgT (tk rfl (PE.build (out:=[.int .i64 x48,.int .i64 x52,.int .i64 x55,.int .i64 0]) ZaL Z3Q rfl rfl) rfl ?_)
 refine sto rfl rfl rfl ZaJ rfl rfl rfl rfl ?_
 refine bgT ?_
 exact Zh ⟨(x48,x52,x55,b12,tq4+1+1+1,_),by dsimp only;omega,by dsimp only;omega,by dsimp only;omega,by dsimp only;omega,by assumption⟩ (fun w h=>h.pull b12)
 exact ZO
 rintro ⟨⟨x48,x52,x55,b12,tq5,mx5⟩,h48,h52,h55,htq5,hmx5⟩
 dsimp only at h48 h52 h55 htq5 hmx5 ⊢
 rw [hoe]
 refine sqt 9 rfl (spL rfl rfl (lhA (Ro.rbl ⟨C,W,rods⟩ ao co) ZG rfl rfl rfl) rfl (pur 1 rfl (sp rfl (PE.fA Z4a rfl) rfl (spL rfl rfl (lhA [.int .i64 x48,.int .i64 x52] Z1Z rfl rfl rfl) rfl (sp rfl (PE.fA Z4b rfl) rfl (spL rfl rfl (lh (v:=.int .i64 x55) sc3 rfl rfl) rfl ?_))))))
 refine cl rfl ZiG rfl rfl (Z99 ⟨C,W,rods⟩ ao co hrok hl (C*W) hlen (some ⟨b25,0,none⟩) (C*W) hlen hrng ⟨x48,x52,x55,0⟩ (by dsimp only;omega) _ _) ?_
 rintro _ _ R1 ⟨rfl,rfl,hR1⟩
 obtain rfl:=hR1.symm
 clear hR1
 obtain ⟨sv,hsv⟩:∃ sv,sv=Ro.Rb.feel ⟨C,W,rods⟩ (Ro.na hl) ⟨x48,x52,x55,0⟩:=⟨_,rfl⟩
 rw [← hsv]
 have hsb:=Z9G hts (C:=C) (W:=W) (rods:=rods) ⟨x48,x52,x55,0⟩
 rw [← hsv] at hsb
 refine sp rfl (PE.fA Z2H rfl) rfl ?_
 refine Z03 (l':=Ro.rdrow ⟨x48,x52,x55,sv⟩) rfl rfl rfl cn3 rfl rfl rfl rfl (nl rfl) ?_
 rw [← hoe]
 refine sqr 7 rfl (sp rfl (PE.fA Z0a rfl) rfl (spL rfl rfl (lh (v:=o.fs) Z52 rfl rfl) rfl (spL rfl rfl (lhA (Ro.rdrow ⟨x48,x52,x55,sv⟩) ZaH rfl rfl rfl) rfl ?_)))
 refine bsl (out:=[_,_,_,_]) rfl ZhU Z3Q rfl rfl rfl rfl rfl rfl (fun b68=>?_)
 refine apO (o) rfl ZeZ rfl rfl (Z2z (row:=Ro.rdrow ⟨x48,x52,x55,sv⟩) rfl) rfl rfl ((by rw [Ro.rd_len];simp only [List.length_singleton];omega)) rfl (fun o69=>?_)
 refine sp rfl (PE.fA Z0a rfl) rfl ?_
 refine Z03 (l':=[.int .i64 (C:Int),.int .i64 (W:Int),o69.fs]) rfl rfl rfl Zjo rfl (by rw [o69.cells.1];first | done | rfl) (by rw [o69.cells.1];simp [o69.cells.2]) (by rw [o69.cells.1];first | done | rfl) (by rw [o69.cells.1];first | done | exact Nat.le_of_ble_eq_true rfl) ?_
 refine sqr 2 rfl (sp rfl (PE.add rfl rfl (by omega)) rfl (pur 1 rfl ?_))
 exact Zb ⟨⟨(k2+1,rods++[⟨x48,x52,x55,sv⟩],tq5,mx5),by dsimp only;omega,hrt.more (by rw [hsv];rfl),Ro.Rb.add_ok hrok (by dsimp only;omega) (by dsimp only;omega),by dsimp only;rw [List.length_append,List.length_singleton];omega,by dsimp only;omega,by assumption⟩,o69.cast (Ro.rd_snoc _ _)⟩ (fun w h9=>((h9.del b68).del b12).perm (by first | exact .refl _ | exact Zy _ [_] _ | exact (Zy _ [_] _).symm))
 refine Z8 (Za (Za (Zn (sqt 4 rfl ?_))))
 obtain ⟨ax,cx,he,hf⟩:=OSl.freeze o
 rw [Ro.rd_len] at he
 rw [he]
 refine Sy.heap (H':=_) (fun w h9=>hf (h9.perm (List.perm_middle (l₁:=o.G) (a:=_)).symm)) ?_
 clear he hf
 refine spL rfl rfl (lhA (Ro.rbl ⟨C,W,rods⟩ ax cx) ZG rfl rfl rfl) rfl (pur 1 rfl ?_)
 refine Z03 (l':=Ro.rbl ⟨C,W,rods⟩ ax cx) rfl rfl rfl Z9t rfl rfl rfl rfl (nl rfl) ?_
 refine pur 1 rfl (Z5 ?_)
 exact Zk (vs:=[_,_]) rfl (.cons (RV.cell rfl (lhA (Ro.rbl ⟨C,W,rods⟩ ax cx) ZG rfl rfl rfl)) (.cons (RV.tmp rfl) .nil)) rfl ⟨C,W,rods,hl,ax,some ⟨b25,0,none⟩,cx,C*W,tq4,mx4,hrok,hrt,hlen,hrng,by omega,by omega,by assumption,rfl,rfl,rfl⟩ (fun w h=>(h.del b10).del b8)
end Ht
end Go.Proofs.YthijcgkicjljhaaGreat
