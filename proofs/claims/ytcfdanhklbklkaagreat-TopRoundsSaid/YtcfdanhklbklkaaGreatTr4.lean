/- Walks of the functions of the program, and the laws that join them: what the last theorem of this claim needs, in order. -/
import Derived.Test.YtcfdanhklbklkaaGreatTr3
namespace Go.Proofs.YtcfdanhklbklkaaGreat.Ht
set_option linter.unusedSimpArgs false
set_option linter.unusedVariables false
theorem Dsk.next_mono {d:Dsk} (hd:d.ok) {s s':HSt} (h:d.inS s) (h':d.inS s') (hle:∀ k<d.n,na s k≤na s' k) {l l':List Nat} (hl:∀ k∈l,k<d.n) (hl':∀ k∈l',k<d.n)
   (hsub:∀ k∈l,k∈l') {t:HSt} (e:d.next s l=some t):∃ t',d.next s' l'=some t'∧∀ k<d.n,na t k≤na t' k:=by
 obtain ⟨_,h2⟩:=d.next_at hd.n.2 h.len hl e
 have hm:∀ k<d.n,d.mid s l k≤d.mid s' l' k:=fun k hk=>by
   have:=hle k hk
   unfold Dsk.mid
   by_cases h3:k∈l
   · rw [if_pos h3,if_pos (hsub k h3)];omega
   · rw [if_neg h3];split<;>omega
 obtain ⟨t',ht'⟩:=d.next_some hd.n.2 h'.len hl' (fun k hk=>by have:=hm k hk;have:=(h2 k).1 hk;have:=d.inS_mid hd h l hk;have:=d.inS_mid hd h' l' hk;have:=(hd.ever k hk).2.1;omega)
 refine ⟨t',ht',fun k hk=>?_⟩
 obtain ⟨_,h3⟩:=d.next_at hd.n.2 h'.len hl' ht'
 have a1:=(h2 k).2;have a2:=(h3 k).2
 have:=hm k hk
 have b1:=d.inS_mid hd h l hk;have b2:=d.inS_mid hd h' l' hk
 have:=(hd.ever k hk).2.1
 rw [a1,a2]
 split<;>split<;>omega
theorem ZcL:((List.range 5).all fun n=>(List.range (2 ^ n)).all fun u=>(List.range (n+1)).all fun g=>!decide ((ZL n u).length≤g)||(List.range (2 ^ n)).any fun v=>decide ((ZL n v).length=g)&&(ZL n u).all fun k=>(ZL n v).contains k)=true:=by decide +kernel
theorem ZcM {n u g:Nat} (hn:n≤4) (hu:u<2 ^ n) (hg:g≤n) (h:(ZL n u).length≤g):∃ v,v<2 ^ n∧(ZL n v).length=g∧∀ k∈ZL n u,k∈ZL n v:=by
 have h0:=ZcL
 rw [List.all_eq_true] at h0
 have h1:=h0 n (List.mem_range.2 (by omega))
 rw [List.all_eq_true] at h1
 have h2:=h1 u (List.mem_range.2 hu)
 rw [List.all_eq_true] at h2
 have h3:=h2 g (List.mem_range.2 (by omega))
 rw [decide_eq_true h,Bool.not_true,Bool.false_or,List.any_eq_true] at h3
 obtain ⟨v,hv,h4⟩:=h3
 rw [Bool.and_eq_true,decide_eq_true_eq,List.all_eq_true] at h4
 exact ⟨v,List.mem_range.1 hv,h4.1,fun k hk=>by simpa using h4.2 k hk⟩
theorem Dsk.mem_trs {d:Dsk} {full:Bool} {l:List Nat}:l∈d.trs full↔∃ u,u<2 ^ d.n∧l=ZL d.n u∧(l.length:Int)≤d.g∧(full=true→d.g≤(l.length:Int)):=by
 unfold Dsk.trs
 rw [List.mem_filter,List.mem_map]
 have hm:d.may full l=true↔(l.length:Int)≤d.g∧(full=true→d.g≤(l.length:Int)):=by
   unfold Dsk.may
   cases full<;>simp<;>omega
 constructor
 · rintro ⟨⟨u,hu,rfl⟩,h⟩;exact ⟨u,List.mem_range.1 hu,rfl,hm.1 h⟩
 · rintro ⟨u,hu,rfl,h⟩;exact ⟨⟨u,List.mem_range.2 hu,rfl⟩,hm.2 h⟩
theorem Dsk.full_of {d:Dsk} (hd:d.ok) {l:List Nat} (h:l∈d.trs false):∃ l'∈d.trs true,∀ k∈l,k∈l':=by
 obtain ⟨u,hu,rfl,h1,_⟩:=d.mem_trs.1 h
 have hn:=hd.n;have hg:=hd.gangs
 have e:(d.g.toNat:Int)=d.g:=by unfold Dsk.g at *;omega
 obtain ⟨v,hv,h2,h3⟩:=ZcM (g:=d.g.toNat) hn.2 hu (by unfold Dsk.g at *;omega) (by omega)
 exact ⟨_,d.mem_trs.2 ⟨v,hv,rfl,by omega,fun _=>by omega⟩,h3⟩
def Dsk.pth (d:Dsk):Nat→HSt→HSt→Nat→Prop
 | 0,s,t,c=>t=s∧c=0
 | n+1,s,t,c=>∃ u a l,d.pth n s u a∧l∈d.trs false∧d.next u l=some t∧c=a+l.length
theorem Dsk.pth_cons {d:Dsk} {s u:HSt} {l:List Nat} (hl:l∈d.trs false) (e:d.next s l=some u):∀ {n:Nat} {t:HSt} {c:Nat},d.pth n u t c→d.pth (n+1) s t (l.length+c)
 | 0,t,c,h=>by obtain ⟨rfl,rfl⟩:=h;exact ⟨s,0,l,⟨rfl,rfl⟩,hl,e,by omega⟩
 | n+1,t,c,h=>by
   obtain ⟨v,a,l',h1,h2,h3,rfl⟩:=h
   exact ⟨v,l.length+a,l',pth_cons hl e h1,h2,h3,by omega⟩
theorem Dsk.pth_uncons {d:Dsk} {s:HSt}:∀ {n:Nat} {t:HSt} {c:Nat},d.pth (n+1) s t c→∃ l u a,l∈d.trs false∧d.next s l=some u∧d.pth n u t a∧c=l.length+a
 | 0,t,c,h=>by
   obtain ⟨v,a,l,⟨rfl,rfl⟩,h2,h3,rfl⟩:=h
   exact ⟨l,t,0,h2,h3,⟨rfl,rfl⟩,by omega⟩
 | n+1,t,c,h=>by
   obtain ⟨v,a,l,h1,h2,h3,rfl⟩:=h
   obtain ⟨l',u,a',i1,i2,i3,rfl⟩:=pth_uncons h1
   exact ⟨l',u,a'+l.length,i1,i2,⟨v,a',l,i3,h2,h3,rfl⟩,by omega⟩
theorem Dsk.trs_sub {d:Dsk} {l:List Nat} (h:l∈d.trs true):l∈d.trs false:=by
 obtain ⟨u,hu,rfl,h1,_⟩:=d.mem_trs.1 h
 exact d.mem_trs.2 ⟨u,hu,rfl,h1,fun h=>by cases h⟩
theorem Dsk.pth_inS {d:Dsk} (hd:d.ok) {s:HSt} (hs:d.inS s):∀ {n:Nat} {t:HSt} {c:Nat},d.pth n s t c→d.inS t
 | 0,t,c,h=>by obtain ⟨rfl,rfl⟩:=h;exact hs
 | n+1,t,c,h=>by
   obtain ⟨v,a,l,h1,h2,h3,rfl⟩:=h
   exact d.next_inS hd (pth_inS hd hs h1) (d.trs_lt h2) h3
theorem Dsk.pth_alive {d:Dsk} (hd:d.ok):∀ {n:Nat} {s s' t:HSt} {c:Nat},d.inS s→d.inS s'→(∀ k<d.n,na s k≤na s' k)→d.pth n s t c→s'∈d.alive n
 | 0,s,s',t,c,_,h',_,_=>(d.mem_sts hd s').2 h'
 | n+1,s,s',t,c,h,h',hle,hp=>by
   obtain ⟨v,a,_,h1,_⟩:=id hp
   obtain ⟨l,u,a',i1,i2,i3,_⟩:=d.pth_uncons hp
   obtain ⟨l',j1,j2⟩:=d.full_of hd i1
   obtain ⟨u',k1,k2⟩:=d.next_mono hd h h' hle (d.trs_lt i1) (d.trs_lt j1) j2 i2
   exact d.alive_succ.2 ⟨pth_alive hd h h' hle h1,d.helped_iff.2 ⟨l',j1,u',k1,pth_alive hd (d.next_inS hd h (d.trs_lt i1) i2) (d.next_inS hd h' (d.trs_lt j1) k1) k2 i3⟩⟩
theorem Dsk.alive_pth {d:Dsk}:∀ {n:Nat} {s:HSt},s∈d.alive n→∃ t c,d.pth n s t c
 | 0,s,_=>⟨s,0,rfl,rfl⟩
 | n+1,s,h=>by
   obtain ⟨l,hl,t,ht,hta⟩:=d.helped_iff.1 (d.alive_succ.1 h).2
   obtain ⟨t',c,hp⟩:=alive_pth hta
   exact ⟨t',_,d.pth_cons (d.trs_sub hl) ht hp⟩
theorem Dsk.alive_iff {d:Dsk} (hd:d.ok) {n:Nat} {s:HSt} (hs:d.inS s):s∈d.alive n↔∃ t c,d.pth n s t c :=
 ⟨d.alive_pth,fun ⟨_,_,h⟩=>d.pth_alive hd hs hs (fun _ _=>Int.le_refl _) h⟩
theorem Dsk.alive_stop (d:Dsk):∃ n,n≤d.nst∧d.alive (n+1)=d.alive n:=by
 by_cases h:∃ n,n≤d.nst∧d.alive (n+1)=d.alive n
 · exact h
 · have h1:∀ m,m≤d.nst+1→(d.alive m).length+m≤d.nst:=by
     intro m
     induction m with
     | zero=>intro _;show d.sts.length+0≤_;rw [d.sts_len];omega
     | succ m ih =>
       intro hm
       have:=ih (by omega)
       have h2:((d.alive m).filter fun s=>!d.helped (d.alive m) s).length≠0:=fun e=>h ⟨m,by omega,d.alive_same e⟩
       have:=d.alive_less h2
       omega
   have:=h1 (d.nst+1) (Nat.le_refl _)
   omega
theorem Dsk.alive_ever {d:Dsk} {s:HSt} {m:Nat} (hm:d.nst≤m) (h:s∈d.alive m):∀ k,s∈d.alive k:=fun k=>by
 obtain ⟨n,hn,e⟩:=d.alive_stop
 rcases Nat.lt_or_ge k n with h1 | h1
 · exact d.alive_le (by omega) h
 · obtain ⟨j,rfl⟩:∃ j,k=n+j:=⟨k-n,by omega⟩
   rw [d.alive_fix e];exact d.alive_le (by omega) h
theorem Zfp {d:Dsk} (hd:d.ok) {s:HSt} (hs:d.inS s) {j:Nat} (hj:j≤d.nst) (h1:∃ t c,d.pth j s t c) (h2:¬ ∃ t c,d.pth (j+1) s t c):Kpt d s j :=
 .inr ⟨j,Nat.le_trans hj (d.nst_le hd).2,rfl,(d.alive_iff hd hs).2 h1,fun h=>h2 ((d.alive_iff hd hs).1 h)⟩
theorem Z6A {d:Dsk} (hd:d.ok) {s:HSt} (hs:d.inS s) {m:Nat} (hm:d.nst≤m) (h1:∃ t c,d.pth m s t c):Kpt d s 1000000 :=
 .inl ⟨rfl,d.alive_ever hm ((d.alive_iff hd hs).2 h1)⟩
def Zef (la s:List Int) (u k:Nat):Int:=bif u.testBit k then max (na s k) (na la k) else na s k
def Zd6 (v:Int):Int:=bif decide (v=1000000) then v else v-1
def rNx (la s:List Int) (u:Nat):Nat→Option (List Int)
 | 0=>some []
 | k+1=>match rNx la s u k with
   | none=>none
   | some t=>bif decide (Zd6 (Zef la s u k)<0) then none else some (t++[Zd6 (Zef la s u k)])
theorem Z7x {la s:List Int} {u:Nat}:∀ {k:Nat} {t:List Int},rNx la s u k=some t→t.length=k
 | 0,t,h=>by cases h;rfl
 | k+1,t,h=>by
   unfold rNx at h
   split at h
   · cases h
   · rename_i v hv
     cases h1:decide (Zd6 (Zef la s u k)<0) with
     | true=>rw [h1] at h;cases h
     | false=>rw [h1] at h;cases h;simp [Z7x hv]
theorem Zfz {l:List Int} {v:Int} {k:Nat}:na (l++[v]) k=if k<l.length then na l k else if k=l.length then v else 0:=by
 unfold na
 rw [List.getD_eq_getElem?_getD,List.getD_eq_getElem?_getD]
 by_cases h:k<l.length
 · rw [if_pos h,List.getElem?_append_left h]
 · rw [if_neg h,List.getElem?_append_right (by omega)]
   by_cases h1:k=l.length
   · rw [if_pos h1,h1];simp
   · rw [if_neg h1,List.getElem?_eq_none (by simp;omega)];rfl
theorem rNx_iff {la s:List Int} {u:Nat}:∀ {n:Nat} {t:List Int},rNx la s u n=some t↔t.length=n∧∀ k<n,0≤Zd6 (Zef la s u k)∧na t k=Zd6 (Zef la s u k)
 | 0,t=>by
   constructor
   · intro h;cases h;exact ⟨rfl,fun k hk=>absurd hk (Nat.not_lt_zero _)⟩
   · rintro ⟨h,_⟩;rw [List.length_eq_zero_iff.1 h];rfl
 | n+1,t=>by
   constructor
   · intro h
     refine ⟨Z7x h,?_⟩
     unfold rNx at h
     split at h
     · cases h
     · rename_i v hv
       obtain ⟨h1,h2⟩:=rNx_iff.1 hv
       by_cases h3:Zd6 (Zef la s u n)<0
       · rw [decide_eq_true h3] at h;cases h
       · rw [decide_eq_false h3,cond_false] at h;cases h
         intro k hk
         rw [Zfz,h1]
         by_cases h4:k<n
         · rw [if_pos h4];exact h2 k h4
         · obtain rfl:k=n:=by omega
           rw [if_neg h4,if_pos rfl];exact ⟨by omega,rfl⟩
   · rintro ⟨h1,h2⟩
     have e:t=t.take n++[na t n]:=by
       have:=List.take_append_drop n t
       rw [List.drop_eq_getElem_cons (by omega),List.drop_eq_nil_of_le (by omega)] at this
       have h3:na t n=t[n]:=by unfold na;rw [List.getD_eq_getElem?_getD,List.getElem?_eq_getElem (by omega)];rfl
       rw [h3];exact this.symm
     have hv:rNx la s u n=some (t.take n):=rNx_iff.2 ⟨by rw [List.length_take];omega,fun k hk=>by
       have:=h2 k (by omega)
       have e2:na (t.take n) k=na t k:=by unfold na;rw [List.getD_eq_getElem?_getD,List.getD_eq_getElem?_getD,List.getElem?_take,if_pos hk]
       rw [e2];exact this⟩
     have h4:=h2 n (by omega)
     unfold rNx
     rw [hv]
     simp only
     rw [decide_eq_false (by omega),cond_false,← h4.2,← e]
theorem Z23 {l:List Int} {k:Nat}:na (pad l) k=na l k:=by
 unfold na pad
 rw [List.getD_eq_getElem?_getD,List.getD_eq_getElem?_getD]
 rcases Nat.lt_or_ge k l.length with h | h
 · rw [List.getElem?_append_left h]
 · rw [List.getElem?_append_right h,List.getElem?_eq_none h,List.getElem?_replicate]
   split<;>rfl
theorem Zbf {s t:List Int} (hs:s.length=t.length) (h:pad s=pad t):s=t:=by
 refine List.ext_getElem? fun k=>?_
 rcases Nat.lt_or_ge k s.length with h1 | h1
 · have:na (pad s) k=na (pad t) k:=by rw [h]
   rw [Z23,Z23] at this
   unfold na at this
   rw [List.getD_eq_getElem?_getD,List.getD_eq_getElem?_getD,List.getElem?_eq_getElem h1,List.getElem?_eq_getElem (by omega)] at this
   rw [List.getElem?_eq_getElem h1,List.getElem?_eq_getElem (by omega)]
   simpa using this
 · rw [List.getElem?_eq_none h1,List.getElem?_eq_none (by omega)]
theorem mem_bitl {n u k:Nat}:k∈ZL n u↔k<n∧u.testBit k=true:=by
 unfold ZL;rw [List.mem_filter,List.mem_range]
theorem Z7y {d:Dsk} {la s:List Int} (hla:∀ k<d.n,na la k=na d.lasts k) (u:Nat) {k:Nat} (hk:k<d.n):Zef la s u k=d.mid (pad s) (ZL d.n u) k:=by
 unfold Zef Dsk.mid
 rw [Z23,hla k hk]
 cases h:u.testBit k with
 | true=>rw [if_pos (mem_bitl.2 ⟨hk,h⟩)];rfl
 | false=>rw [if_neg (fun h1=>by have:=(mem_bitl.1 h1).2;rw [h] at this;cases this)];rfl
theorem Zd4 {d:Dsk} (hn:d.n≤4) {la s t:List Int} (hla:∀ k<d.n,na la k=na d.lasts k) (hs:s.length=d.n) (ht:t.length=d.n) (u:Nat):rNx la s u d.n=some t↔d.next (pad s) (ZL d.n u)=some (pad t):=by
 have hl:∀ k∈ZL d.n u,k<d.n:=fun k hk=>Z75 hk
 have hps:(pad s).length=4:=Z2J (by omega)
 rw [rNx_iff]
 constructor
 · rintro ⟨_,h⟩
   obtain ⟨t',ht'⟩:=d.next_some hn hps hl (fun k hk=>by
     have:=(h k hk).1
     rw [Z7y hla u hk] at this
     unfold Zd6 at this
     by_cases h1:d.mid (pad s) (ZL d.n u) k=1000000
     · exact .inl h1
     · rw [decide_eq_false h1,cond_false] at this;exact .inr (by omega))
   rw [ht']
   congr 1
   obtain ⟨h2,h3⟩:=d.next_at hn hps hl ht'
   refine Z9r h2 (Z2J (by omega)) fun k hk=>?_
   rw [(h3 k).2,Z23]
   by_cases hkn:k<d.n
   · rw [(h k hkn).2,Z7y hla u hkn]
     unfold Zd6
     by_cases h1:d.mid (pad s) (ZL d.n u) k=1000000
     · rw [if_neg (by omega),decide_eq_true h1];rfl
     · rw [if_pos ⟨hkn,h1⟩,decide_eq_false h1];rfl
   · rw [if_neg (by omega)]
     unfold Dsk.mid
     rw [if_neg (fun h1=>hkn (hl k h1)),Z23]
     unfold na
     rw [List.getD_eq_getElem?_getD,List.getD_eq_getElem?_getD,List.getElem?_eq_none (by omega),List.getElem?_eq_none (by omega)]
 · intro h
   obtain ⟨h2,h3⟩:=d.next_at hn hps hl h
   refine ⟨ht,fun k hk=>?_⟩
   obtain ⟨h4,h5⟩:=h3 k
   have h4:=h4 hk
   rw [Z23] at h5
   rw [Z7y hla u hk,h5]
   unfold Zd6
   by_cases h1:d.mid (pad s) (ZL d.n u) k=1000000
   · rw [if_neg (by omega),decide_eq_true h1,cond_true];exact ⟨by omega,rfl⟩
   · rw [if_pos ⟨hk,h1⟩,decide_eq_false h1,cond_false];exact ⟨by omega,rfl⟩
theorem ZcW:((List.range 5).all fun n=>(List.range (2 ^ n)).all fun u=>decide ((ZL n u).length=(ZL 4 u).length))=true:=by decide +kernel
theorem Z7s {n u:Nat} (hn:n≤4) (hu:u<2 ^ n):(ZL 4 u).length=(ZL n u).length:=by
 have h0:=ZcW
 rw [List.all_eq_true] at h0
 have h1:=h0 n (List.mem_range.2 (by omega))
 rw [List.all_eq_true] at h1
 exact (of_decide_eq_true (h1 u (List.mem_range.2 hu))).symm
theorem ZfC (u:Nat):(ZL 4 u).length≤4:=Z0R 4 u
def rS (n:Nat) (g:Int) (la s:List Int) (u:Nat):Option (List Int):=bif decide (((ZL 4 u).length:Int)≤g) then rNx la s u n else none
theorem Zir {n:Nat} {g:Int} {la s t:List Int} {u:Nat} (h:rS n g la s u=some t):t.length=n:=by
 unfold rS at h
 cases h1:decide (((ZL 4 u).length:Int)≤g) with
 | true=>rw [h1] at h;exact Z7x h
 | false=>rw [h1] at h;cases h
def Sx (n:Nat) (g:Int) (la:List Int) (now:List (List Int)) (i u:Nat) (t:List Int):Prop:=∃ j s v,now[j]?=some s∧(j<i∨(j=i∧v<u))∧v<2 ^ n∧rS n g la s v=some t
theorem Sx.step {n:Nat} {g:Int} {la s t:List Int} {now:List (List Int)} {i u:Nat} (hs:now[i]?=some s) (hu:u<2 ^ n):Sx n g la now i (u+1) t↔Sx n g la now i u t∨rS n g la s u=some t:=by
 constructor
 · rintro ⟨j,s',v,h1,h2,h3,h4⟩
   rcases h2 with h2 | ⟨rfl,h2⟩
   · exact .inl ⟨j,s',v,h1,.inl h2,h3,h4⟩
   · rcases Nat.lt_or_ge v u with h5 | h5
     · exact .inl ⟨j,s',v,h1,.inr ⟨rfl,h5⟩,h3,h4⟩
     · obtain rfl:v=u:=by omega
       rw [hs] at h1;cases h1;exact .inr h4
 · rintro (⟨j,s',v,h1,h2,h3,h4⟩ | h)
   · exact ⟨j,s',v,h1,by omega,h3,h4⟩
   · exact ⟨i,s,u,hs,by omega,hu,h⟩
theorem Sx.next {n:Nat} {g:Int} {la t:List Int} {now:List (List Int)} {i:Nat}:Sx n g la now (i+1) 0 t↔Sx n g la now i (2 ^ n) t:=by
 constructor
 · rintro ⟨j,s',v,h1,h2,h3,h4⟩
   exact ⟨j,s',v,h1,by omega,h3,h4⟩
 · rintro ⟨j,s',v,h1,h2,h3,h4⟩
   exact ⟨j,s',v,h1,by omega,h3,h4⟩
structure Bf (n:Nat) (g:Int) (la:List Int) (now:List (List Int)) (i u:Nat) (L:List (List Int)):Prop where
 len:∀ t∈L,t.length=n
 nd:L.Nodup
 mem:∀ t,t∈L↔Sx n g la now i u t
theorem Bf.start {n:Nat} {g:Int} {la:List Int} {now:List (List Int)}:Bf n g la now 0 0 []:=⟨by simp,List.nodup_nil,fun t=>by
 constructor
 · intro h;cases h
 · rintro ⟨j,s,v,_,h,_⟩;omega⟩
theorem Bf.next {n:Nat} {g:Int} {la:List Int} {now:List (List Int)} {i:Nat} {L:List (List Int)} (h:Bf n g la now i (2 ^ n) L):Bf n g la now (i+1) 0 L:=⟨h.len,h.nd,fun t=>(h.mem t).trans Sx.next.symm⟩
theorem Bf.skip {n:Nat} {g:Int} {la s:List Int} {now:List (List Int)} {i u:Nat} {L:List (List Int)} (h:Bf n g la now i u L) (hs:now[i]?=some s) (hu:u<2 ^ n) (hn:∀ t,rS n g la s u=some t→t∈L):Bf n g la now i (u+1) L:=⟨h.len,h.nd,fun t=>by
 rw [Sx.step hs hu,← h.mem]
 exact ⟨.inl,fun h1=>h1.elim id (hn t)⟩⟩
theorem Bf.add {n:Nat} {g:Int} {la s t:List Int} {now:List (List Int)} {i u:Nat} {L:List (List Int)} (h:Bf n g la now i u L) (hs:now[i]?=some s) (hu:u<2 ^ n) (ht:rS n g la s u=some t) (hn:t∉L):Bf n g la now i (u+1) (L++[t]) where
 len x hx:=by
   rcases List.mem_append.1 hx with hx | hx
   · exact h.len x hx
   · rw [List.mem_singleton.1 hx];exact Zir ht
 nd:=List.nodup_append.2 ⟨h.nd,by simp,fun x hx y hy e=>hn (by rw [← List.mem_singleton.1 hy,← e];exact hx)⟩
 mem x:=by
   rw [Sx.step hs hu,← h.mem,List.mem_append,List.mem_singleton,ht]
   exact or_congr_right ⟨fun e=>by rw [e],fun e=>(Option.some.inj e).symm⟩
theorem Z4i {α:Type} [DecidableEq α]:∀ {l m:List α},l.Nodup→(∀ x∈l,x∈m)→l.length≤m.length
 | [],_,_,_=>Nat.zero_le _
 | x::l,m,hn,h=>by
   rw [List.nodup_cons] at hn
   have hx:=h x (by simp)
   have h1:=Z4i (m:=m.erase x) hn.2 fun y hy=>(List.mem_erase_of_ne (show y≠x from fun e=>hn.1 (by rw [← e];exact hy))).2 (h y (by simp [hy]))
   rw [List.length_erase_of_mem hx] at h1
   have:=List.length_pos_of_mem hx
   rw [List.length_cons];omega
theorem Z6I {α β:Type} {f:α→β}:∀ {l:List α},(∀ x∈l,∀ y∈l,f x=f y→x=y)→l.Nodup→(l.map f).Nodup
 | [],_,_=>List.nodup_nil
 | x::l,hf,hn=>by
   rw [List.nodup_cons] at hn
   rw [List.map_cons,List.nodup_cons]
   refine ⟨fun h=>?_,Z6I (fun a ha b hb=>hf a (by simp [ha]) b (by simp [hb])) hn.2⟩
   obtain ⟨y,hy,e⟩:=List.mem_map.1 h
   have e2:=hf y (by simp [hy]) x (by simp) e
   exact hn.1 (e2▸hy)
structure Lv (d:Dsk) (s0:HSt) (day:Nat) (L:List (List Int)):Prop where
 len:∀ t∈L,t.length=d.n
 mem:∀ t,t.length=d.n→(t∈L↔∃ c,d.pth day s0 (pad t) c)
theorem Z49 {d:Dsk} (hd:d.ok) {u:HSt} (h:d.inS u):pad (u.take d.n)=u:=by
 have hn:=hd.n
 refine Z9r (Z2J (by rw [List.length_take];omega)) h.len fun k hk=>?_
 rw [Z23]
 unfold na
 rw [List.getD_eq_getElem?_getD,List.getD_eq_getElem?_getD,List.getElem?_take]
 by_cases h1:k<d.n
 · rw [if_pos h1]
 · rw [if_neg h1]
   have:=h.out k hk (by omega)
   unfold na at this
   rw [List.getD_eq_getElem?_getD] at this
   rw [this];rfl
theorem Lv.start {d:Dsk} {s:List Int} (hs:s.length=d.n):Lv d (pad s) 0 [s]:=⟨fun t ht=>by rw [List.mem_singleton.1 ht];exact hs,fun t ht=>by
 rw [List.mem_singleton]
 constructor
 · rintro rfl;exact ⟨0,rfl,rfl⟩
 · rintro ⟨c,h,_⟩;exact Zbf (by omega) h⟩
theorem Lv.inS {d:Dsk} (hd:d.ok) {s0:HSt} (h0:d.inS s0) {day:Nat} {L:List (List Int)} (h:Lv d s0 day L) {t:List Int} (ht:t∈L):d.inS (pad t):=by
 obtain ⟨c,hc⟩:=(h.mem t (h.len t ht)).1 ht
 exact d.pth_inS hd h0 hc
theorem Z6L {d:Dsk} (hd:d.ok) {la s t:List Int} (hla:∀ k<d.n,na la k=na d.lasts k) (hs:s.length=d.n) (ht:t.length=d.n) {v:Nat} (hv:v<2 ^ d.n):rS d.n d.gangs la s v=some t↔ZL d.n v∈d.trs false∧d.next (pad s) (ZL d.n v)=some (pad t):=by
 have hn:=hd.n
 have e:=Z7s hn.2 hv
 have hle:=Z0R d.n v
 have hm:ZL d.n v∈d.trs false↔((ZL d.n v).length:Int)≤d.gangs:=by
   rw [d.mem_trs]
   unfold Dsk.g
   constructor
   · rintro ⟨_,_,_,h,_⟩;omega
   · intro h;exact ⟨v,hv,rfl,by omega,fun h=>by cases h⟩
 unfold rS
 rw [e]
 by_cases h:((ZL d.n v).length:Int)≤d.gangs
 · rw [decide_eq_true h,cond_true,Zd4 hn.2 hla hs ht]
   exact ⟨fun h1=>⟨hm.2 h,h1⟩,fun h1=>h1.2⟩
 · rw [decide_eq_false h,cond_false]
   exact ⟨fun h1=>(by cases h1),fun h1=>absurd (hm.1 h1.1) h⟩
theorem Lv.next {d:Dsk} (hd:d.ok) {s0:HSt} (h0:d.inS s0) {la:List Int} (hla:∀ k<d.n,na la k=na d.lasts k) {day:Nat} {now L:List (List Int)} (h:Lv d s0 day now) (hb:Bf d.n d.gangs la now now.length 0 L):Lv d s0 (day+1) L where
 len:=hb.len
 mem t ht:=by
   rw [hb.mem]
   constructor
   · rintro ⟨j,s,v,h1,_,h3,h4⟩
     have hm:=List.mem_of_getElem? h1
     obtain ⟨c,hc⟩:=(h.mem s (h.len s hm)).1 hm
     obtain ⟨h5,h6⟩:=(Z6L hd hla (h.len s hm) ht h3).1 h4
     exact ⟨_,_,_,_,hc,h5,h6,rfl⟩
   · rintro ⟨c,u,a,l,h1,h2,h3,_⟩
     obtain ⟨v,hv,rfl,_⟩:=d.mem_trs.1 h2
     have hu:=d.pth_inS hd h0 h1
     have hlen:(u.take d.n).length=d.n:=by rw [List.length_take,hu.len];have:=hd.n;omega
     have e:=Z49 hd hu
     have hm:u.take d.n∈now:=(h.mem _ hlen).2 ⟨a,by rw [e];exact h1⟩
     obtain ⟨j,hj⟩:=List.getElem?_of_mem hm
     exact ⟨j,_,v,hj,.inl (List.getElem?_eq_some_iff.1 hj).1,hv,(Z6L hd hla hlen ht hv).2 ⟨h2,by rw [e];exact h3⟩⟩
theorem Bf.few {d:Dsk} (hd:d.ok) {s0:HSt} (h0:d.inS s0) {la:List Int} (hla:∀ k<d.n,na la k=na d.lasts k) {day i u:Nat} {now L:List (List Int)} (h:Lv d s0 day now) (hb:Bf d.n d.gangs la now i u L):L.length≤14641:=by
 have h1:(L.map pad).length≤d.sts.length:=Z4i (Z6I (fun x hx y hy e=>Zbf (by rw [hb.len x hx,hb.len y hy]) e) hb.nd) fun p hp=>by
   obtain ⟨t,ht,rfl⟩:=List.mem_map.1 hp
   obtain ⟨j,s,v,h1,_,h3,h4⟩:=(hb.mem t).1 ht
   have hm:=List.mem_of_getElem? h1
   obtain ⟨h5,h6⟩:=(Z6L hd hla (h.len s hm) (hb.len t ht) h3).1 h4
   exact (d.mem_sts hd _).2 (d.next_inS hd (h.inS hd h0 hm) (d.trs_lt h5) h6)
 rw [List.length_map,d.sts_len] at h1
 have:=(d.nst_le hd).2
 omega
theorem Lv.ends {d:Dsk} (hd:d.ok) {s0:HSt} (h0:d.inS s0) {day:Nat} (hday:day≤d.nst) {now:List (List Int)} (h:Lv d s0 day now) (hne:now≠[]) (h':Lv d s0 (day+1) []):Kpt d s0 day:=by
 refine Zfp hd h0 hday ?_ ?_
 · obtain ⟨t,ht⟩:=List.exists_mem_of_ne_nil now hne
   obtain ⟨c,hc⟩:=(h.mem t (h.len t ht)).1 ht
   exact ⟨_,c,hc⟩
 · rintro ⟨t,c,hc⟩
   have hi:=d.pth_inS hd h0 hc
   have hlen:(t.take d.n).length=d.n:=by rw [List.length_take,hi.len];have:=hd.n;omega
   have:=(h'.mem _ hlen).2 ⟨c,by rw [Z49 hd hi];exact hc⟩
   cases this
theorem Lv.ever {d:Dsk} (hd:d.ok) {s0:HSt} (h0:d.inS s0) {day:Nat} (hday:d.nst≤day) {now:List (List Int)} (h:Lv d s0 day now) (hne:now≠[]):Kpt d s0 1000000:=by
 obtain ⟨t,ht⟩:=List.exists_mem_of_ne_nil now hne
 obtain ⟨c,hc⟩:=(h.mem t (h.len t ht)).1 ht
 exact Z6A hd h0 hday ⟨_,c,hc⟩
open Go
def SpI (b:Barn) (m:Nat) (s e:Int):Prop:=(e=6∧s=0∧∀ g:Nat,m≤g→g≤b.bins.length→b.ends g) ∨
 (e=0∧∃ g:Nat,s=g∧m≤g∧g≤b.bins.length∧Kpt (b.withG g).dsk b.state 1000000∧∀ j:Nat,m≤j→j<g→b.ends j)
theorem SpI.start (b:Barn):SpI b (b.bins.length+1) 0 6:=.inl ⟨rfl,rfl,fun g h1 h2=>by omega⟩
theorem SpI.yes {b:Barn} {k:Nat} (hk:k≤b.bins.length) (h:Kpt (b.withG k).dsk b.state 1000000):SpI b k k 0:=.inr ⟨rfl,k,rfl,Nat.le_refl _,hk,h,fun j h1 h2=>by omega⟩
theorem SpI.no {b:Barn} {k:Nat} {s e:Int} (h:SpI b (k+1) s e) (hn:b.ends k):SpI b k s e:=by
 rcases h with ⟨h1,h2,h3⟩ | ⟨h1,g,h2,h3,h4,h5,h6⟩
 · refine .inl ⟨h1,h2,fun g hg hg2=>?_⟩
   rcases Nat.lt_or_ge k g with h | h
   · exact h3 g h hg2
   · obtain rfl:g=k:=by omega
     exact hn
 · refine .inr ⟨h1,g,h2,by omega,h4,h5,fun j hj hj2=>?_⟩
   rcases Nat.lt_or_ge k j with h | h
   · exact h6 j h hj2
   · obtain rfl:j=k:=by omega
     exact hn
theorem Z3y {b:Barn} {g:Nat} (h:b.ends g):¬ Kpt (b.withG g).dsk b.state 1000000:=fun h2=>by
 obtain ⟨w,hw,h3⟩:=h
 exact hw (kpt_unique h3 h2)
theorem SpI.eq {b:Barn} {s e:Int} (h:SpI b 0 s e) (hc:b.check=0) {v:Value} (hq:Zgd b v):v = .tuple #[.int .i64 s,.int .i64 e]:=by
 rcases hq with ⟨h1,_⟩ | ⟨_,⟨g,hg,hn,hk,rfl⟩ | ⟨hn,rfl⟩⟩
 · exact absurd hc h1
 · rcases h with ⟨rfl,rfl,h3⟩ | ⟨rfl,g2,rfl,_,h4,h5,h6⟩
   · exact absurd hk (Z3y (h3 g (Nat.zero_le _) hg))
   · rcases Nat.lt_trichotomy g g2 with h7 | h7 | h7
     · exact absurd hk (Z3y (h6 g (Nat.zero_le _) h7))
     · rw [h7]
     · exact absurd h5 (Z3y (hn g2 h7))
 · rcases h with ⟨rfl,rfl,h3⟩ | ⟨rfl,g2,rfl,_,h4,h5,h6⟩
   · rfl
   · exact absurd h5 (Z3y (hn g2 h4))
structure FewC (d:Dsk) (s:HSt) (n c:Nat):Prop where
 is:∃ t,d.pth n s t c
 le:∀ t c',d.pth n s t c'→c≤c'
structure Fsp (es:List (HSt×List Int)) (m:MW):Prop where
 mem:∀ t w,Z0e m t=some w→(t,w)∈es
 has:∀ t w,(t,w)∈es→∃ w',Z0e m t=some w'∧na w' 5≤na w 5
theorem Fsp.nil:Fsp [] []:=⟨fun t w h=>(by cases h),fun t w h=>(by cases h)⟩
theorem Fsp.add {es:List (HSt×List Int)} {m:MW} {e:HSt×List Int} (h:Fsp es m) (hz:∀ f∈es,f.2≠zw):Fsp (es++[e]) (Z29 m e):=by
 obtain ⟨k,v⟩:=e
 have key:(Z29 m (k,v)=Z8E m k v∧∀ w,Z0e m k=some w→na v 5<na w 5)∨(Z29 m (k,v)=m∧∃ w,Z0e m k=some w∧na w 5≤na v 5):=by
   unfold Z29
   dsimp only
   cases hk:Z0e m k with
   | none=>exact .inl ⟨by rw [Option.getD_none,decide_eq_true rfl];rfl,fun w h=>by cases h⟩
   | some w0 =>
     have h0:w0≠zw:=hz _ (h.mem _ _ hk)
     rw [Option.getD_some,decide_eq_false h0,Bool.false_or]
     by_cases h1:na v 5<na w0 5
     · rw [decide_eq_true h1];exact .inl ⟨rfl,fun w hw=>by cases hw;exact h1⟩
     · rw [decide_eq_false h1];exact .inr ⟨rfl,w0,rfl,by omega⟩
 rcases key with ⟨e1,h1⟩ | ⟨e1,w0,h1,h2⟩
 · rw [e1]
   refine ⟨fun t w hw=>?_,fun t w hw=>?_⟩
   · rw [Z4e] at hw
     by_cases hkt:k=t
     · rw [decide_eq_true hkt] at hw;cases hw;subst hkt;simp
     · rw [decide_eq_false hkt] at hw;exact List.mem_append_left _ (h.mem _ _ hw)
   · rw [Z4e]
     by_cases hkt:k=t
     · subst hkt
       rw [decide_eq_true rfl]
       refine ⟨v,rfl,?_⟩
       rcases List.mem_append.1 hw with h3 | h3
       · obtain ⟨w',h4,h5⟩:=h.has _ _ h3
         have:=h1 _ h4
         omega
       · cases List.mem_singleton.1 h3;exact Int.le_refl _
     · rw [decide_eq_false hkt]
       rcases List.mem_append.1 hw with h3 | h3
       · exact h.has _ _ h3
       · cases List.mem_singleton.1 h3;exact absurd rfl hkt
 · rw [e1]
   refine ⟨fun t w hw=>List.mem_append_left _ (h.mem _ _ hw),fun t w hw=>?_⟩
   rcases List.mem_append.1 hw with h3 | h3
   · exact h.has _ _ h3
   · cases List.mem_singleton.1 h3;exact ⟨w0,h1,h2⟩
theorem Fsp.fold:∀ {fs es:List (HSt×List Int)} {m:MW},Fsp es m→(∀ f∈es++fs,f.2≠zw)→Fsp (es++fs) (fs.foldl Z29 m)
 | [],es,m,h,_=>by rw [List.append_nil];exact h
 | f::fs,es,m,h,hz=>by
   have:=Fsp.fold (fs:=fs) (h.add (e:=f) fun g hg=>hz g (List.mem_append_left _ hg)) (fun g hg=>hz g (by simpa [List.append_assoc] using hg))
   rw [List.append_assoc] at this
   exact this
theorem mem_ev {d:Dsk} {m:MW} {e:HSt×List Int}:e∈(d.sts.take d.nst).flatMap (evW d m)↔∃ s,s∈d.sts∧∃ w,Z0e m s=some w∧∃ l,l∈d.trs false∧∃ t,d.next s l=some t∧e=(t,s++[(Z0D l:Int),na w 5+(l.length:Int)]):=by
 rw [List.take_of_length_le (by rw [d.sts_len];exact Nat.le_refl _),List.mem_flatMap]
 refine exists_congr fun s=>and_congr_right fun _=>?_
 unfold evW Z63
 cases Z0e m s with
 | none=>simp
 | some w =>
   dsimp only
   rw [List.take_length,List.mem_filterMap]
   constructor
   · rintro ⟨l,hl,he⟩
     unfold ZhX at he
     rw [Option.map_eq_some_iff] at he
     obtain ⟨t,ht,rfl⟩:=he
     exact ⟨w,rfl,l,hl,t,ht,rfl⟩
   · rintro ⟨w',hw,l,hl,t,ht,rfl⟩
     cases hw
     exact ⟨l,hl,by unfold ZhX;rw [ht];rfl⟩
theorem ZjX {d:Dsk} (hd:d.ok) {s t:HSt} (hs:d.inS s) {l:List Nat} (hl:l∈d.trs false) (hn:d.next s l=some t) (c:Int):s++[(Z0D l:Int),c]≠zw:=by
 intro e
 obtain ⟨s0,s1,s2,s3,rfl⟩:=Z36 hs.len
 have e2:s0=0∧(Z0D l:Int)=0:=by
   have h1:=congrArg (fun z=>na z 0) e
   have h2:=congrArg (fun z=>na z 4) e
   exact ⟨h1,h2⟩
 have hn1:=hd.n
 have h2:=((d.next_at hn1.2 hs.len (d.trs_lt hl) hn).2 0).1 (by omega)
 have h0:(0:Nat)∉l:=fun hm=>by
   have h3:=Z2N l 0
   rw [decide_eq_true hm,show Z0D l=0 by have:=e2.2;omega] at h3
   simp at h3
 unfold Dsk.mid at h2
 rw [if_neg h0] at h2
 have h4:na [s0,s1,s2,s3] 0=0:=e2.1
 omega
theorem Z8y {d:Dsk} (hd:d.ok) (s0:HSt) (i:Nat):Fsp ((d.sts.take d.nst).flatMap (evW d (Z03 d s0 i))) (Z03 d s0 (i+1)):=by
 have h:=Fsp.fold (fs:=(d.sts.take d.nst).flatMap (evW d (Z03 d s0 i))) Fsp.nil (fun f hf=>by
   rw [List.nil_append] at hf
   obtain ⟨s,hs,w,_,l,hl,t,ht,rfl⟩:=mem_ev.1 hf
   exact ZjX hd ((d.mem_sts hd s).1 hs) hl ht _)
 rw [List.nil_append] at h
 exact h
theorem Z4d {d:Dsk} {s0:HSt} (s:HSt):Z0e (Z03 d s0 0) s=bif decide (s0=s) then some zw else none:=by
 unfold Z03 Z0e
 rw [List.find?_cons]
 dsimp only
 cases decide (s0=s)<;>rfl
theorem Z6F {d:Dsk} (hd:d.ok) {s0:HSt} {i:Nat} {s:HSt} {w:List Int} (h:Z0e (Z03 d s0 (i+1)) s=some w) :
   ∃ u w' l,u∈d.sts∧Z0e (Z03 d s0 i) u=some w'∧l∈d.trs false∧d.next u l=some s∧w=u++[(Z0D l:Int),na w' 5+(l.length:Int)]:=by
 obtain ⟨u,hu,w',hw',l,hl,t,ht,e⟩:=mem_ev.1 ((Z8y hd s0 i).mem _ _ h)
 cases e
 exact ⟨u,w',l,hu,hw',hl,ht,rfl⟩
theorem Z5W {u:HSt} (hu:u.length=4) (x y:Int):na (u++[x,y]) 5=y∧na (u++[x,y]) 4=x∧(u++[x,y]).take 4=u:=by
 obtain ⟨a,b,c,e,rfl⟩:=Z36 hu
 exact ⟨rfl,rfl,rfl⟩
theorem Z6G {d:Dsk} (hd:d.ok) {s0:HSt} (h0:d.inS s0):∀ (i:Nat),(∀ s c,d.pth i s0 s c→∃ w,Z0e (Z03 d s0 i) s=some w∧na w 5≤(c:Int))∧(∀ s w,Z0e (Z03 d s0 i) s=some w→∃ c:Nat,na w 5=c∧d.pth i s0 s c)
 | 0=>by
   refine ⟨fun s c h=>?_,fun s w h=>?_⟩
   · obtain ⟨rfl,rfl⟩:=h
     exact ⟨zw,by rw [Z4d,decide_eq_true rfl];rfl,by decide⟩
   · rw [Z4d] at h
     by_cases e:s0=s
     · rw [decide_eq_true e] at h;cases h;exact ⟨0,by decide,e.symm,rfl⟩
     · rw [decide_eq_false e] at h;cases h
 | i+1=>by
   obtain ⟨i1,i2⟩:=Z6G hd h0 i
   refine ⟨fun s c h=>?_,fun s w h=>?_⟩
   · obtain ⟨u,a,l,h1,h2,h3,rfl⟩:=h
     obtain ⟨w,hw,hle⟩:=i1 u a h1
     have hu:=d.pth_inS hd h0 h1
     obtain ⟨w',hw',hle'⟩:=(Z8y hd s0 i).has s (u++[(Z0D l:Int),na w 5+(l.length:Int)]) (mem_ev.2 ⟨u,(d.mem_sts hd u).2 hu,w,hw,l,h2,s,h3,rfl⟩)
     rw [(Z5W hu.len _ _).1] at hle'
     exact ⟨w',hw',by push_cast;omega⟩
   · obtain ⟨u,w',l,hu,hw',hl,ht,rfl⟩:=Z6F hd h
     obtain ⟨c,hc,hp⟩:=i2 u w' hw'
     have hul:=((d.mem_sts hd u).1 hu).len
     refine ⟨c+l.length,?_,u,c,l,hp,hl,ht,rfl⟩
     rw [(Z5W hul _ _).1,hc];push_cast;rfl
def Bsp (m:MW) (D:List HSt):Option (HSt×Int)→Prop
 | none=>∀ s∈D,Z0e m s=none
 | some p=>p.1∈D∧∃ w,Z0e m p.1=some w∧p.2=na w 5∧∀ s∈D,∀ w',Z0e m s=some w'→p.2≤na w' 5
theorem Bsp.add {m:MW} {D:List HSt} {acc:Option (HSt×Int)} (h:Bsp m D acc) (s:HSt):Bsp m (D++[s]) (Z3K m acc s):=by
 unfold Z3K
 cases hs:Z0e m s with
 | none =>
   dsimp only
   cases acc with
   | none=>intro t ht;rcases List.mem_append.1 ht with h1 | h1;exact h t h1;rw [List.mem_singleton.1 h1];exact hs
   | some p =>
     obtain ⟨h1,w,h2,h3,h4⟩:=h
     refine ⟨List.mem_append_left _ h1,w,h2,h3,fun t ht w' hw'=>?_⟩
     rcases List.mem_append.1 ht with h5 | h5
     · exact h4 t h5 w' hw'
     · rw [List.mem_singleton.1 h5,hs] at hw';cases hw'
 | some w =>
   dsimp only
   cases acc with
   | none =>
     refine ⟨by simp,w,hs,rfl,fun t ht w' hw'=>?_⟩
     rcases List.mem_append.1 ht with h5 | h5
     · rw [h t h5] at hw';cases hw'
     · rw [List.mem_singleton.1 h5,hs] at hw';cases hw';exact Int.le_refl _
   | some p =>
     obtain ⟨q,n⟩:=p
     obtain ⟨h1,w0,h2,h3,h4⟩:=h
     dsimp only at h1 h2 h3 h4 ⊢
     by_cases hlt:na w 5<n
     · rw [decide_eq_true hlt,cond_true]
       refine ⟨by simp,w,hs,rfl,fun t ht w' hw'=>?_⟩
       dsimp only
       rcases List.mem_append.1 ht with h5 | h5
       · have:=h4 t h5 w' hw';omega
       · rw [List.mem_singleton.1 h5,hs] at hw';cases hw';exact Int.le_refl _
     · rw [decide_eq_false hlt,cond_false]
       refine ⟨List.mem_append_left _ h1,w0,h2,h3,fun t ht w' hw'=>?_⟩
       dsimp only
       rcases List.mem_append.1 ht with h5 | h5
       · exact h4 t h5 w' hw'
       · rw [List.mem_singleton.1 h5,hs] at hw';cases hw';omega
theorem Bsp.fold {m:MW}:∀ {l D:List HSt} {acc:Option (HSt×Int)},Bsp m D acc→Bsp m (D++l) (l.foldl (Z3K m) acc)
 | [],D,acc,h=>by rw [List.append_nil];exact h
 | s::l,D,acc,h=>by
   have:=Bsp.fold (l:=l) (h.add s)
   rw [List.append_assoc] at this
   exact this
theorem Z8Z (d:Dsk) (m:MW):Bsp m d.sts (Z0j d m d.nst):=by
 have h:=Bsp.fold (m:=m) (l:=d.sts) (D:=[]) (acc:=none) (fun s hs=>by cases hs)
 unfold Z0j
 rw [List.take_of_length_le (by rw [d.sts_len];exact Nat.le_refl _)]
 exact h
def Dsk.run (d:Dsk):HSt→List (List Nat)→Option HSt
 | s,[]=>some s
 | s,l::p=>match d.next s l with
   | none=>none
   | some t=>d.run t p
def Z0P (p:List (List Nat)):Nat:=(p.map List.length).sum
theorem Z9k (p q:List (List Nat)):Z0P (p++q)=Z0P p+Z0P q:=by unfold Z0P;rw [List.map_append,List.sum_append]
theorem Dsk.run_app (d:Dsk):∀ (p q:List (List Nat)) (s:HSt),d.run s (p++q)=match d.run s p with
   | none=>none
   | some t=>d.run t q
 | [],q,s=>rfl
 | l::p,q,s=>by
   have e1:∀ r,d.run s (l::r)=match d.next s l with
     | none=>none
     | some t=>d.run t r:=fun r=>rfl
   rw [List.cons_append,e1,e1]
   cases d.next s l with
   | none=>rfl
   | some t=>exact run_app d p q t
theorem Dsk.run_one (d:Dsk) (s:HSt) (l:List Nat):d.run s [l]=d.next s l:=by
 unfold Dsk.run
 cases d.next s l<;>rfl
theorem Dsk.run_pth {d:Dsk}:∀ {p:List (List Nat)} {s t:HSt},(∀ l∈p,l∈d.trs false)→d.run s p=some t→d.pth p.length s t (Z0P p)
 | [],s,t,_,h=>by cases h;exact ⟨rfl,rfl⟩
 | l::p,s,t,hp,h=>by
   unfold Dsk.run at h
   split at h
   · cases h
   · rename_i u hu
     exact d.pth_cons (hp l (by simp)) hu (run_pth (fun k hk=>hp k (by simp [hk])) h)
theorem Z4J {d:Dsk} (hd:d.ok) {s0:HSt}:∀ (i:Nat) (s:HSt) (w:List Int),Z0e (Z03 d s0 i) s=some w→(Z0Z d s0 i s).length=i∧(∀ l∈Z0Z d s0 i s,l∈d.trs false)∧d.run s0 (Z0Z d s0 i s)=some s∧(Z0P (Z0Z d s0 i s):Int)=na w 5
 | 0,s,w,h=>by
   rw [Z4d] at h
   by_cases e:s0=s
   · rw [decide_eq_true e] at h;cases h;subst e;exact ⟨rfl,fun l hl=>(by cases hl),rfl,rfl⟩
   · rw [decide_eq_false e] at h;cases h
 | i+1,s,w,h=>by
   obtain ⟨u,w',l,hu,hw',hl,ht,rfl⟩:=Z6F hd h
   obtain ⟨a5,a4,aT⟩:=Z5W ((d.mem_sts hd u).1 hu).len (Z0D l:Int) (na w' 5+(l.length:Int))
   obtain ⟨i1,i2,i3,i4⟩:=Z4J hd i u w' hw'
   have hn:=hd.n
   obtain ⟨v,hv,rfl⟩:∃ v,v<2 ^ d.n∧l=ZL d.n v:=by obtain ⟨v,hv,e,_⟩:=d.mem_trs.1 hl;exact ⟨v,hv,e⟩
   have hlt:Z0D (ZL d.n v)<2 ^ d.n:=Z5J fun k hk=>Z75 hk
   have hlt4:Z0D (ZL d.n v)<2 ^ 4:=Nat.lt_of_lt_of_le hlt (Nat.pow_le_pow_right (by decide) hn.2)
   have eb:Z0Z d s0 (i+1) s=Z0Z d s0 i u++[ZL d.n v]:=by
     show Z0Z d s0 i (((Z0e (Z03 d s0 (i+1)) s).getD zw).take 4)++[ZL 4 (na ((Z0e (Z03 d s0 (i+1)) s).getD zw) 4).toNat]=_
     rw [h,Option.getD_some,aT,a4,Int.toNat_natCast,Z67 hlt4 hlt,Z9G]
   rw [eb,a5]
   refine ⟨by simp [i1],fun k hk=>?_,by rw [d.run_app,i3];dsimp only;rw [d.run_one];exact ht,by rw [Z9k];push_cast;rw [i4];rfl⟩
   rcases List.mem_append.1 hk with h4 | h4
   · exact i2 k h4
   · rw [List.mem_singleton.1 h4];exact hl
theorem Zcd {d:Dsk} (hd:d.ok) {s0:HSt} (h0:d.inS s0) (days:Nat):(Z0j d (Z03 d s0 days) d.nst=none∧¬ ∃ t c,d.pth days s0 t c) ∨
   ∃ (s:HSt) (c:Nat),Z0j d (Z03 d s0 days) d.nst=some (s,(c:Int))∧FewC d s0 days c∧(Z0Z d s0 days s).length=days∧(∀ l∈Z0Z d s0 days s,l∈d.trs false)∧d.run s0 (Z0Z d s0 days s)=some s∧Z0P (Z0Z d s0 days s)=c:=by
 have hb:=Z8Z d (Z03 d s0 days)
 obtain ⟨m1,m2⟩:=Z6G hd h0 days
 cases he:Z0j d (Z03 d s0 days) d.nst with
 | none =>
   rw [he] at hb
   refine .inl ⟨rfl,?_⟩
   rintro ⟨t,c,hp⟩
   obtain ⟨w,hw,_⟩:=m1 t c hp
   rw [hb t ((d.mem_sts hd t).2 (d.pth_inS hd h0 hp))] at hw
   cases hw
 | some p =>
   rw [he] at hb
   obtain ⟨s,n⟩:=p
   obtain ⟨h1,w,h2,h3,h4⟩:=hb
   dsimp only at h1 h2 h3 h4
   obtain ⟨c,hc,hp⟩:=m2 s w h2
   obtain ⟨b1,b2,b3,b4⟩:=Z4J hd days s w h2
   refine .inr ⟨s,c,by rw [h3,hc],⟨⟨s,hp⟩,fun t c' hp'=>?_⟩,b1,b2,b3,by omega⟩
   obtain ⟨w',hw',hle⟩:=m1 t c' hp'
   have:=h4 t ((d.mem_sts hd t).2 (d.pth_inS hd h0 hp')) w' hw'
   omega
def Barn.stw (b:Barn) (ws:List Int):HSt:=pad ((List.range b.bins.length).map fun k=>b.days (b.bins.getD k hb0) (na ws k))
theorem Barn.stw_at {b:Barn} {ws:List Int} {k:Nat} (hk:k<b.bins.length):na (b.stw ws) k=b.days (b.bins.getD k hb0) (na ws k):=by
 unfold Barn.stw
 rw [Z23]
 unfold na
 rw [List.getD_eq_getElem?_getD,List.getElem?_map,List.getElem?_range hk];rfl
theorem Barn.stw_out {b:Barn} {ws:List Int} {k:Nat} (hk:b.bins.length≤k):na (b.stw ws) k=0:=by
 unfold Barn.stw
 rw [Z23]
 unfold na
 rw [List.getD_eq_getElem?_getD,List.getElem?_eq_none (by simpa using hk)];rfl
theorem Barn.stw_len {b:Barn} (hb:b.ok) (ws:List Int):(b.stw ws).length=4:=Z2J (by simpa using hb.many.2)
theorem Barn.state_at {b:Barn} (hb:b.ok) {k:Nat} (hk:k<b.bins.length):na b.state k=b.days (b.bins.getD k hb0) (b.bins.getD k hb0).warm:=by
 obtain ⟨x,hx⟩:∃ x,b.bins[k]?=some x:=⟨_,List.getElem?_eq_getElem hk⟩
 rw [Z01 hx]
 exact Z2f (b.map_get hb _ hx)
theorem Barn.lasts_at {b:Barn} (hb:b.ok) {k:Nat} (hk:k<b.bins.length):na b.lasts k=b.days (b.bins.getD k hb0) b.cool:=by
 obtain ⟨x,hx⟩:∃ x,b.bins[k]?=some x:=⟨_,List.getElem?_eq_getElem hk⟩
 rw [Z01 hx]
 exact Z2f (b.map_get hb _ hx)
theorem Barn.warms_at {b:Barn} {k:Nat} (hk:k<b.bins.length):na b.warms k=(b.bins.getD k hb0).warm:=by
 obtain ⟨x,hx⟩:∃ x,b.bins[k]?=some x:=⟨_,List.getElem?_eq_getElem hk⟩
 rw [Z01 hx]
 unfold na Barn.warms
 rw [List.getD_eq_getElem?_getD,List.getElem?_map,hx];rfl
theorem Barn.stw_warms {b:Barn} (hb:b.ok):b.stw b.warms=b.state:=Z9r (b.stw_len hb _) (b.state_sml hb).len fun k _=>by
 rcases Nat.lt_or_ge k b.bins.length with h | h
 · rw [Barn.stw_at h,Barn.state_at hb h,Barn.warms_at h]
 · rw [Barn.stw_out h]
   unfold Barn.state
   rw [Z23]
   unfold na
   rw [List.getD_eq_getElem?_getD,List.getElem?_eq_none (by simpa using h)];rfl
theorem Z4M {r m w v:Int} (hr:0≤r) (h:w≤v):Z0c r m v≤Z0c r m w:=by
 unfold Z0c
 by_cases h0:r=0
 · rw [decide_eq_true h0];exact Int.le_refl _
 · rw [decide_eq_false h0,cond_false,cond_false]
   by_cases h1:m<v
   · rw [decide_eq_true h1,cond_true]
     by_cases h2:m<w
     · rw [decide_eq_true h2];exact Int.le_refl _
     · rw [decide_eq_false h2,cond_false];exact Int.ediv_nonneg (by omega) hr
   · rw [decide_eq_false h1,cond_false,decide_eq_false (by omega),cond_false]
     exact Int.ediv_le_ediv (by omega) (by omega)
theorem Zam {r m w c:Int} (hr:0≤r):max (Z0c r m w) (Z0c r m c)=Z0c r m (min w c):=by
 rcases Int.le_total w c with h | h
 · have:=Z4M (m:=m) hr h
   rw [Int.min_eq_left h];omega
 · have:=Z4M (m:=m) hr h
   rw [Int.min_eq_right h];omega
theorem Zal {r m w:Int} (hr:0<r) (hw:w≤m) (h:m<w+r):Z0c r m w=0:=by
 unfold Z0c
 rw [decide_eq_false (by omega),cond_false,decide_eq_false (by omega),cond_false]
 exact Int.ediv_eq_zero_of_lt (by omega) (by omega)
theorem Z6i {r m w:Int} (hr:0<r) (h:w+r≤m):Z0c r m (w+r)=Z0c r m w-1∧1≤Z0c r m w:=by
 have e:Z0c r m w=Z0c r m (w+r)+1:=by
   unfold Z0c
   rw [decide_eq_false (by omega),cond_false,cond_false,decide_eq_false (by omega),cond_false,decide_eq_false (by omega),cond_false]
   rw [show m-w=(m-(w+r))+1*r by omega,Int.add_mul_ediv_right _ _ (by omega)]
 have:0≤Z0c r m (w+r):=by
   unfold Z0c
   rw [decide_eq_false (by omega),cond_false,decide_eq_false (by omega),cond_false]
   exact Int.ediv_nonneg (by omega) (by omega)
 omega
theorem Zi0 (l:List Nat) (k:Nat):hasI (il l) (k:Int)=decide (k∈l):=by
 rw [Bool.eq_iff_iff,decide_eq_true_eq]
 unfold hasI il
 rw [List.any_eq_true]
 constructor
 · rintro ⟨y,hy,he⟩
   obtain ⟨j,hj,rfl⟩:=List.mem_map.1 hy
   have:=of_decide_eq_true he
   obtain rfl:k=j:=by omega
   exact hj
 · intro h;exact ⟨(k:Int),List.mem_map.2 ⟨k,h,rfl⟩,decide_eq_true rfl⟩
theorem Barn.bin_at {b:Barn} (hb:b.ok) {k:Nat} (hk:k<b.bins.length):b.bins.getD k hb0∈b.bins:=by
 rw [List.getD_eq_getElem?_getD,List.getElem?_eq_getElem hk];exact List.getElem_mem hk
theorem Barn.mid_of {b:Barn} (hb:b.ok) {ws:List Int} (l:List Nat) {k:Nat} (hk:k<b.bins.length):b.dsk.mid (b.stw ws) l k=b.days (b.bins.getD k hb0) (bif hasI (il l) k then min (na ws k) b.cool else na ws k):=by
 have hr:=b.worst_range hb (Barn.bin_at hb hk)
 unfold Dsk.mid
 rw [Zi0,Barn.stw_at hk,show na b.dsk.lasts k=_ from Barn.lasts_at hb hk]
 by_cases h:k∈l
 · rw [if_pos h,decide_eq_true h,cond_true];exact Zam (by omega)
 · rw [if_neg h,decide_eq_false h,cond_false]
theorem Barn.run_day {b:Barn} (hb:b.ok) {ws:List Int} (hw:Cool b ws) {l:List Nat} (hl:∀ k∈l,k<b.bins.length) :
   ((∀ k<b.bins.length,b.hotAt ws (il l) k=false)→b.dsk.next (b.stw ws) l=some (b.stw (b.dayW ws (il l))))∧(∀ k<b.bins.length,b.hotAt ws (il l) k=true→b.dsk.next (b.stw ws) l=none):=by
 have hn:=hb.many
 have key:∀ k<b.bins.length,∃ r m v,(r=0∨6≤r)∧v≤m∧m≤60∧0≤v∧b.dsk.mid (b.stw ws) l k=Z0c r m v∧(b.hotAt ws (il l) k=decide (m<v+r))∧na (b.stw (b.dayW ws (il l))) k=Z0c r m (v+r):=fun k hk=>by
   have hm:=Barn.bin_at hb hk
   have hr:=b.worst_range hb hm
   obtain ⟨x,hx⟩:∃ x,b.bins[k]?=some x:=⟨_,List.getElem?_eq_getElem hk⟩
   have hc:=hw.at_ k x hx
   have hcl:=hb.cool
   have hmk:=(hb.bins x (List.mem_of_getElem? hx)).1
   have e1:=Barn.mid_of hb (ws:=ws) l hk
   rw [Z01 hx] at e1 hr
   refine ⟨b.worst x,x.mark,bif hasI (il l) k then min (na ws k) b.cool else na ws k,by omega,?_,by omega,?_,e1,?_,?_⟩
   · cases hasI (il l) k<;>simp only [cond_true,cond_false]<;>omega
   · cases hasI (il l) k<;>simp only [cond_true,cond_false]<;>omega
   · unfold Barn.hotAt;rw [Z01 hx,b.wdAt_of hx];rfl
   · rw [Barn.stw_at hk,Z2f (b.dayW_at hk),b.wdAt_of hx,Z01 hx];rfl
 constructor
 · intro hcold
   obtain ⟨t,ht⟩:=b.dsk.next_some hn.2 (b.stw_len hb ws) hl (fun k hk=>by
     obtain ⟨r,m,v,h1,h2,h3,h4,h5,h6,h7⟩:=key k hk
     rw [h5]
     rcases h1 with rfl | h1
     · exact .inl rfl
     · have h8:=hcold k hk
       rw [h6,decide_eq_false_iff_not] at h8
       exact .inr (Z6i (by omega) (by omega)).2)
   rw [ht]
   congr 1
   obtain ⟨t1,t2⟩:=b.dsk.next_at hn.2 (b.stw_len hb ws) hl ht
   refine Z9r t1 (b.stw_len hb _) fun k _=>?_
   rw [(t2 k).2]
   rcases Nat.lt_or_ge k b.bins.length with hk | hk
   · obtain ⟨r,m,v,h1,h2,h3,h4,h5,h6,h7⟩:=key k hk
     rw [h7,h5]
     rcases h1 with rfl | h1
     · rw [if_neg (by intro h;exact h.2 rfl)];rfl
     · have h8:=hcold k hk
       rw [h6,decide_eq_false_iff_not] at h8
       have h9:=Z6i (r:=r) (m:=m) (w:=v) (by omega) (by omega)
       have h10:Z0c r m v≤60:=by
         unfold Z0c
         rw [decide_eq_false (by omega),cond_false,decide_eq_false (by omega),cond_false]
         exact Int.le_trans (Int.ediv_le_self _ (by omega)) (by omega)
       rw [if_pos ⟨hk,by omega⟩,h9.1]
   · rw [if_neg (by intro h;have:k<b.bins.length:=h.1;omega),Barn.stw_out hk]
     unfold Dsk.mid
     rw [if_neg (fun h=>by have:=hl k h;omega),Barn.stw_out hk]
 · intro k hk hhot
   cases hnx:b.dsk.next (b.stw ws) l with
   | none=>rfl
   | some t =>
     exfalso
     have h8:=((b.dsk.next_at hn.2 (b.stw_len hb ws) hl hnx).2 k).1 hk
     obtain ⟨r,m,v,h1,h2,h3,h4,h5,h6,h7⟩:=key k hk
     rw [h6,decide_eq_true_eq] at hhot
     have h9:=Zal (r:=r) (m:=m) (w:=v) (by omega) h2 hhot
     rw [h5,h9] at h8
     omega
theorem Barn.run_burns {b:Barn} (hb:b.ok):∀ (p:List (List Nat)) (ws:List Int) (d0:Nat),Cool b ws→(∀ l∈p,∀ k∈l,k<b.bins.length) →
   (∃ ws',b.burnsF ws (p.map il) d0=(none,ws')∧b.dsk.run (b.stw ws) p=some (b.stw ws')∧Cool b ws')∨(∃ q ws',b.burnsF ws (p.map il) d0=(some q,ws')∧b.dsk.run (b.stw ws) p=none)
 | [],ws,d0,hc,_=>.inl ⟨ws,rfl,rfl,hc⟩
 | l::p,ws,d0,hc,hl=>by
   obtain ⟨r1,r2⟩:=Barn.run_day hb hc (hl l (by simp))
   rw [List.map_cons,b.burns_cons]
   cases hf:(List.range b.bins.length).find? (b.hotAt ws (il l)) with
   | some k =>
     rw [List.find?_range_eq_some] at hf
     refine .inr ⟨_,_,rfl,?_⟩
     unfold Dsk.run
     rw [r2 k (List.mem_range.1 hf.2.1) hf.1]
   | none =>
     have hn:∀ k<b.bins.length,b.hotAt ws (il l) k=false:=fun k hk=>by
       have:=List.find?_eq_none.1 hf k (List.mem_range.2 hk)
       simpa using this
     dsimp only
     unfold Dsk.run
     rw [r1 hn]
     exact run_burns hb p _ (d0+1) (hc.next hb hn) (fun m hm=>hl m (by simp [hm]))
theorem Z6S:∀ {l:List Int},sinc l=true→l.Pairwise (· < ·)
 | [],_=>List.Pairwise.nil
 | [x],_=>List.pairwise_singleton _ _
 | x::y::l,h=>by
   unfold sinc at h
   rw [Bool.and_eq_true,decide_eq_true_eq] at h
   have ih:=Z6S h.2
   refine List.Pairwise.cons (fun z hz=>?_) ih
   rcases List.mem_cons.1 hz with rfl | hz
   · exact h.1
   · have:=(List.pairwise_cons.1 ih).1 z hz
     omega
theorem Z6x (n u:Nat):(il (ZL n u)).Pairwise (· < ·):=by
 unfold il ZL
 rw [List.pairwise_map]
 exact (List.Pairwise.filter _ List.pairwise_lt_range).imp fun h=>by omega
theorem Z8I:∀ {l m:List Int},l.Pairwise (· < ·)→m.Pairwise (· < ·)→(∀ x,x∈l↔x∈m)→l=m
 | [],[],_,_,_=>rfl
 | [],y::m,_,_,h=>by have:=(h y).2 (by simp);cases this
 | x::l,[],_,_,h=>by have:=(h x).1 (by simp);cases this
 | x::l,y::m,hl,hm,h=>by
   obtain ⟨l1,l2⟩:=List.pairwise_cons.1 hl
   obtain ⟨m1,m2⟩:=List.pairwise_cons.1 hm
   have exy:x=y:=by
     rcases List.mem_cons.1 ((h x).1 (by simp)) with h1 | h1
     · exact h1
     · rcases List.mem_cons.1 ((h y).2 (by simp)) with h2 | h2
       · exact h2.symm
       · have:=m1 x h1;have:=l1 y h2;omega
   subst exy
   congr 1
   refine Z8I l2 m2 fun z=>⟨fun hz=>?_,fun hz=>?_⟩
   · rcases List.mem_cons.1 ((h z).1 (by simp [hz])) with h3 | h3
     · have:=l1 z hz;omega
     · exact h3
   · rcases List.mem_cons.1 ((h z).2 (by simp [hz])) with h3 | h3
     · have:=m1 z hz;omega
     · exact h3
theorem Z9j {d:Dsk} {l:List Int} (h:dayErr d.n d.gangs l=0):∃ l',l=il l'∧l'∈d.trs false:=by
 unfold dayErr at h
 cases h1:l.all fun k=>inB k 0 ((d.n:Int)-1) with
 | false=>rw [h1] at h;exact absurd (show (1:Int)=0 from h) (by decide)
 | true =>
   rw [h1] at h
   cases h2:sinc l with
   | false=>rw [h2] at h;exact absurd (show (4:Int)=0 from h) (by decide)
   | true =>
     rw [h2] at h
     by_cases h3:d.gangs<(l.length:Int)
     · rw [decide_eq_true h3] at h;exact absurd (show (9:Int)=0 from h) (by decide)
     · rw [List.all_eq_true] at h1
       have hb:∀ x∈l,0≤x∧x<d.n:=fun x hx=>by have:=h1 x hx;simp only [inB,Bool.and_eq_true,decide_eq_true_eq] at this;omega
       have e:l=il (ZL d.n (Z0D (l.map Int.toNat))):=by
         refine Z8I (Z6S h2) (Z6x _ _) fun x=>?_
         unfold il
         rw [List.mem_map]
         constructor
         · intro hx
           refine ⟨x.toNat,mem_bitl.2 ⟨by have:=hb x hx;omega,?_⟩,by have:=hb x hx;omega⟩
           rw [Z2N,decide_eq_true_eq]
           exact List.mem_map.2 ⟨x,hx,rfl⟩
         · rintro ⟨k,hk,rfl⟩
           have:=(mem_bitl.1 hk).2
           rw [Z2N,decide_eq_true_eq] at this
           obtain ⟨y,hy,e⟩:=List.mem_map.1 this
           have:=hb y hy
           have e2:y=(k:Int):=by omega
           rw [← e2];exact hy
       have hu:Z0D (l.map Int.toNat)<2 ^ d.n:=Z5J fun k hk=>by
         obtain ⟨y,hy,rfl⟩:=List.mem_map.1 hk
         have:=hb y hy;omega
       refine ⟨_,e,d.mem_trs.2 ⟨_,hu,rfl,?_,fun h=>by cases h⟩⟩
       have h4:=Z0R d.n (Z0D (l.map Int.toNat))
       have h5:(ZL d.n (Z0D (l.map Int.toNat))).length=l.length:=by conv=>rhs;rw [e];rw [ZaO]
       unfold Dsk.g
       omega
theorem Z4v {d:Dsk}:∀ {p:List (List Int)},daysErr d.n d.gangs p=0→∃ p':List (List Nat),p=p'.map il∧∀ l∈p',l∈d.trs false
 | [],_=>⟨[],rfl,by intro l hl;cases hl⟩
 | l::p,h=>by
   unfold daysErr at h
   by_cases h1:dayErr d.n d.gangs l=0
   · rw [decide_eq_true h1] at h
     obtain ⟨l',rfl,hl'⟩:=Z9j h1
     obtain ⟨p',rfl,hp'⟩:=Z4v h
     refine ⟨l'::p',rfl,fun m hm=>?_⟩
     rcases List.mem_cons.1 hm with rfl | hm
     · exact hl'
     · exact hp' m hm
   · rw [decide_eq_false h1] at h;exact absurd h h1
theorem Z7L {d:Dsk} {p:List (List Int)} (h:planErr d.n d.gangs p=0):p.length≤20000∧∃ p':List (List Nat),p=p'.map il∧∀ l∈p',l∈d.trs false:=by
 unfold planErr at h
 by_cases h1:20000<p.length
 · rw [decide_eq_true h1] at h;exact absurd (show (2:Int)=0 from h) (by decide)
 · rw [decide_eq_false h1] at h
   exact ⟨by omega,Z4v h⟩
theorem Dsk.trs_four {d:Dsk} (hd:d.ok) {l:List Nat} (h:l∈d.trs false):l.length≤4:=Z5U hd h
theorem Dsk.pth_le {d:Dsk} (hd:d.ok):∀ {n:Nat} {s t:HSt} {c:Nat},d.pth n s t c→c≤4*n
 | 0,s,t,c,h=>by obtain ⟨_,rfl⟩:=h;omega
 | n+1,s,t,c,h=>by
   obtain ⟨u,a,l,h1,h2,_,rfl⟩:=h
   have:=pth_le hd h1
   have:=d.trs_four hd h2
   omega
def Sxc (n:Nat) (g:Int) (la:List Int) (now:List (List Int)) (cs:List Int) (i u:Nat) (t:List Int) (x:Int):Prop:=∃ j s v a,now[j]?=some s∧cs[j]?=some a∧(j<i∨(j=i∧v<u))∧v<2 ^ n∧rS n g la s v=some t∧x=a+((ZL 4 v).length:Int)
theorem Sxc.sx {n:Nat} {g:Int} {la:List Int} {now:List (List Int)} {cs:List Int} {i u:Nat} {t:List Int} {x:Int} (h:Sxc n g la now cs i u t x):Sx n g la now i u t:=by
 obtain ⟨j,s,v,a,h1,_,h3,h4,h5,_⟩:=h
 exact ⟨j,s,v,h1,h3,h4,h5⟩
theorem Sxc.step {n:Nat} {g:Int} {la s t:List Int} {now:List (List Int)} {cs:List Int} {i u:Nat} {a x:Int} (hs:now[i]?=some s) (ha:cs[i]?=some a) (hu:u<2 ^ n):Sxc n g la now cs i (u+1) t x↔Sxc n g la now cs i u t x∨(rS n g la s u=some t∧x=a+((ZL 4 u).length:Int)):=by
 constructor
 · rintro ⟨j,s',v,a',h1,h2,h3,h4,h5,h6⟩
   rcases h3 with h3 | ⟨rfl,h3⟩
   · exact .inl ⟨j,s',v,a',h1,h2,.inl h3,h4,h5,h6⟩
   · rcases Nat.lt_or_ge v u with h7 | h7
     · exact .inl ⟨j,s',v,a',h1,h2,.inr ⟨rfl,h7⟩,h4,h5,h6⟩
     · obtain rfl:v=u:=by omega
       rw [hs] at h1;cases h1;rw [ha] at h2;cases h2;exact .inr ⟨h5,h6⟩
 · rintro (⟨j,s',v,a',h1,h2,h3,h4,h5,h6⟩ | ⟨h5,h6⟩)
   · exact ⟨j,s',v,a',h1,h2,by omega,h4,h5,h6⟩
   · exact ⟨i,s,u,a,hs,ha,by omega,hu,h5,h6⟩
theorem Sxc.next {n:Nat} {g:Int} {la t:List Int} {now:List (List Int)} {cs:List Int} {i:Nat} {x:Int}:Sxc n g la now cs (i+1) 0 t x↔Sxc n g la now cs i (2 ^ n) t x:=by
 constructor
 · rintro ⟨j,s',v,a,h1,h2,h3,h4,h5⟩
   exact ⟨j,s',v,a,h1,h2,by omega,h4,h5⟩
 · rintro ⟨j,s',v,a,h1,h2,h3,h4,h5⟩
   exact ⟨j,s',v,a,h1,h2,by omega,h4,h5⟩
structure Bc (n:Nat) (g:Int) (la:List Int) (now:List (List Int)) (cs:List Int) (i u:Nat) (L:List (List Int)) (S:List Int):Prop where
 bf:Bf n g la now i u L
 len:S.length=L.length
 val:∀ (j:Nat) (t:List Int) (x:Int),L[j]?=some t→S[j]?=some x→Sxc n g la now cs i u t x∧∀ y,Sxc n g la now cs i u t y→x≤y
theorem Bc.start {n:Nat} {g:Int} {la:List Int} {now:List (List Int)} {cs:List Int}:Bc n g la now cs 0 0 [] []:=⟨Bf.start,rfl,fun j t x h=>by simp at h⟩
theorem Bc.next {n:Nat} {g:Int} {la:List Int} {now:List (List Int)} {cs:List Int} {i:Nat} {L:List (List Int)} {S:List Int} (h:Bc n g la now cs i (2 ^ n) L S):Bc n g la now cs (i+1) 0 L S :=
 ⟨h.bf.next,h.len,fun j t x h1 h2=>by
   obtain ⟨h3,h4⟩:=h.val j t x h1 h2
   exact ⟨Sxc.next.2 h3,fun y hy=>h4 y (Sxc.next.1 hy)⟩⟩
theorem Bc.skip {n:Nat} {g:Int} {la s:List Int} {now:List (List Int)} {cs:List Int} {i u:Nat} {L:List (List Int)} {S:List Int} {a:Int} (h:Bc n g la now cs i u L S) (hs:now[i]?=some s) (ha:cs[i]?=some a) (hu:u<2 ^ n) (hn:rS n g la s u=none):Bc n g la now cs i (u+1) L S :=
 ⟨h.bf.skip hs hu (fun t ht=>by rw [hn] at ht;cases ht),h.len,fun j t x h1 h2=>by
   obtain ⟨h3,h4⟩:=h.val j t x h1 h2
   refine ⟨(Sxc.step hs ha hu).2 (.inl h3),fun y hy=>?_⟩
   rcases (Sxc.step hs ha hu).1 hy with h5 | ⟨h5,_⟩
   · exact h4 y h5
   · rw [hn] at h5;cases h5⟩
theorem Bc.add {n:Nat} {g:Int} {la s t:List Int} {now:List (List Int)} {cs:List Int} {i u:Nat} {L:List (List Int)} {S:List Int} {a:Int} (h:Bc n g la now cs i u L S) (hs:now[i]?=some s) (ha:cs[i]?=some a) (hu:u<2 ^ n) (ht:rS n g la s u=some t) (hn:t∉L) :
   Bc n g la now cs i (u+1) (L++[t]) (S++[a+((ZL 4 u).length:Int)]) where
 bf:=h.bf.add hs hu ht hn
 len:=by rw [List.length_append,List.length_append,h.len];rfl
 val j t' x h1 h2:=by
   have hl:=h.len
   rcases Nat.lt_or_ge j L.length with hj | hj
   · rw [List.getElem?_append_left hj] at h1
     rw [List.getElem?_append_left (by omega)] at h2
     obtain ⟨h3,h4⟩:=h.val j t' x h1 h2
     refine ⟨(Sxc.step hs ha hu).2 (.inl h3),fun y hy=>?_⟩
     rcases (Sxc.step hs ha hu).1 hy with h5 | ⟨h5,_⟩
     · exact h4 y h5
     · rw [ht] at h5;cases h5;exact absurd (List.mem_of_getElem? h1) hn
   · have hj2:=(List.getElem?_eq_some_iff.1 h1).1
     rw [List.length_append,List.length_singleton] at hj2
     obtain rfl:j=L.length:=by omega
     rw [List.getElem?_append_right (Nat.le_refl _),Nat.sub_self] at h1
     rw [← hl,List.getElem?_append_right (Nat.le_refl _),Nat.sub_self] at h2
     cases h1;cases h2
     refine ⟨(Sxc.step hs ha hu).2 (.inr ⟨ht,rfl⟩),fun y hy=>?_⟩
     rcases (Sxc.step hs ha hu).1 hy with h5 | ⟨_,h5⟩
     · exact absurd ((h.bf.mem _).2 h5.sx) hn
     · rw [h5];exact Int.le_refl _
theorem Bc.low {n:Nat} {g:Int} {la s t:List Int} {now:List (List Int)} {cs:List Int} {i u k:Nat} {L:List (List Int)} {S:List Int} {a x:Int} (h:Bc n g la now cs i u L S) (hs:now[i]?=some s) (ha:cs[i]?=some a) (hu:u<2 ^ n) (ht:rS n g la s u=some t) (hk:L[k]?=some t) (hx:S[k]?=some x) :
   Bc n g la now cs i (u+1) L (S.set k (min x (a+((ZL 4 u).length:Int)))) where
 bf:=h.bf.skip hs hu (fun t2 ht2=>by rw [ht] at ht2;cases ht2;exact List.mem_of_getElem? hk)
 len:=by rw [List.length_set,h.len]
 val j t' y h1 h2:=by
   have hl:=h.len
   have hkl:=(List.getElem?_eq_some_iff.1 hk).1
   by_cases hj:k=j
   · subst hj
     rw [hk] at h1;cases h1
     rw [List.getElem?_set_self (by omega)] at h2;cases h2
     obtain ⟨h3,h4⟩:=h.val k t x hk hx
     refine ⟨(Sxc.step hs ha hu).2 ?_,fun y hy=>?_⟩
     · rcases Int.le_total x (a+((ZL 4 u).length:Int)) with h5 | h5
       · rw [Int.min_eq_left h5];exact .inl h3
       · rw [Int.min_eq_right h5];exact .inr ⟨ht,rfl⟩
     · rcases (Sxc.step hs ha hu).1 hy with h5 | ⟨_,h5⟩
       · have:=h4 y h5;omega
       · omega
   · rw [List.getElem?_set_ne hj] at h2
     obtain ⟨h3,h4⟩:=h.val j t' y h1 h2
     refine ⟨(Sxc.step hs ha hu).2 (.inl h3),fun z hz=>?_⟩
     rcases (Sxc.step hs ha hu).1 hz with h5 | ⟨h5,_⟩
     · exact h4 z h5
     · rw [ht] at h5;cases h5
       exact absurd ((List.getElem?_inj hkl h.bf.nd).1 (hk.trans h1.symm)) hj
structure Lvc (d:Dsk) (s0:HSt) (day:Nat) (L:List (List Int)) (C:List Int):Prop where
 lv:Lv d s0 day L
 len:C.length=L.length
 val:∀ (j:Nat) (t:List Int) (x:Int),L[j]?=some t→C[j]?=some x→∃ c:Nat,x=c∧d.pth day s0 (pad t) c∧∀ c',d.pth day s0 (pad t) c'→c≤c'
theorem Lvc.start {d:Dsk} {s:List Int} (hs:s.length=d.n):Lvc d (pad s) 0 [s] [0]:=⟨Lv.start hs,rfl,fun j t x h1 h2=>by
 cases j with
 | succ j=>simp at h1
 | zero=>cases h1;cases h2;exact ⟨0,rfl,⟨rfl,rfl⟩,fun c' _=>Nat.zero_le _⟩⟩
theorem Lvc.next {d:Dsk} (hd:d.ok) {s0:HSt} (h0:d.inS s0) {la:List Int} (hla:∀ k<d.n,na la k=na d.lasts k) {day:Nat} {now L:List (List Int)} {cs S:List Int} (h:Lvc d s0 day now cs) (hb:Bc d.n d.gangs la now cs now.length 0 L S):Lvc d s0 (day+1) L S where
 lv:=h.lv.next hd h0 hla hb.bf
 len:=hb.len
 val j t x h1 h2:=by
   have hn:=hd.n
   have htl:=hb.bf.len t (List.mem_of_getElem? h1)
   obtain ⟨⟨i,s,v,a,g1,g2,_,g4,g5,rfl⟩,h4⟩:=hb.val j t x h1 h2
   obtain ⟨ca,rfl,hp,_⟩:=h.val i s a g1 g2
   have hsl:=h.lv.len s (List.mem_of_getElem? g1)
   obtain ⟨k1,k2⟩:=(Z6L hd hla hsl htl g4).1 g5
   have e4:=Z7s hn.2 g4
   refine ⟨ca+(ZL d.n v).length,by rw [e4];push_cast;rfl,⟨_,ca,_,hp,k1,k2,rfl⟩,fun c' hc'=>?_⟩
   obtain ⟨u,a',l,p1,p2,p3,rfl⟩:=hc'
   have hu:=d.pth_inS hd h0 p1
   have eu:=Z49 hd hu
   have hul:(u.take d.n).length=d.n:=by rw [List.length_take,hu.len];omega
   have hmem:u.take d.n∈now:=(h.lv.mem _ hul).2 ⟨a',by rw [eu];exact p1⟩
   obtain ⟨i2,hi2⟩:=List.getElem?_of_mem hmem
   have hi2l:=(List.getElem?_eq_some_iff.1 hi2).1
   obtain ⟨y,hy⟩:∃ y,cs[i2]?=some y:=⟨_,List.getElem?_eq_getElem (by rw [h.len];exact hi2l)⟩
   obtain ⟨cy,rfl,_,hmin⟩:=h.val i2 _ y hi2 hy
   rw [eu] at hmin
   have:=hmin a' p1
   obtain ⟨w,hw,rfl,_⟩:=d.mem_trs.1 p2
   have e5:=Z7s hn.2 hw
   have:=h4 _ ⟨i2,_,w,_,hi2,hy,.inl hi2l,hw,(Z6L hd hla hul htl hw).2 ⟨p2,by rw [eu];exact p3⟩,rfl⟩
   omega
theorem Lvc.few {d:Dsk} (hd:d.ok) {s0:HSt} (h0:d.inS s0) {day:Nat} {L:List (List Int)} {C:List Int} (h:Lvc d s0 day L C) {j:Nat} {x:Int} (hx:C[j]?=some x) (hm:∀ (i:Nat) (y:Int),C[i]?=some y→x≤y):∃ c:Nat,x=c∧FewC d s0 day c:=by
 have hj:=(List.getElem?_eq_some_iff.1 hx).1
 have hl:=h.len
 obtain ⟨t,ht⟩:∃ t,L[j]?=some t:=⟨_,List.getElem?_eq_getElem (by omega)⟩
 obtain ⟨c,rfl,hp,_⟩:=h.val j t x ht hx
 refine ⟨c,rfl,⟨_,hp⟩,fun u c' hu=>?_⟩
 have hi:=d.pth_inS hd h0 hu
 have eu:=Z49 hd hi
 have hn:=hd.n
 have hmem:u.take d.n∈L:=(h.lv.mem _ (by rw [List.length_take,hi.len];omega)).2 ⟨c',by rw [eu];exact hu⟩
 obtain ⟨i2,hi2⟩:=List.getElem?_of_mem hmem
 have hi2l:=(List.getElem?_eq_some_iff.1 hi2).1
 obtain ⟨y,hy⟩:∃ y,C[i2]?=some y:=⟨_,List.getElem?_eq_getElem (by omega)⟩
 obtain ⟨cy,rfl,_,hmin⟩:=h.val i2 _ y hi2 hy
 rw [eu] at hmin
 have:=hmin c' hu
 have:=hm i2 _ hy
 omega
theorem Lvc.none {d:Dsk} (hd:d.ok) {s0:HSt} (h0:d.inS s0) {day:Nat} {L:List (List Int)} {C:List Int} (h:Lvc d s0 day L C) (hc:C=[]):¬ ∃ t c,d.pth day s0 t c:=by
 rintro ⟨u,c',hu⟩
 have hi:=d.pth_inS hd h0 hu
 have eu:=Z49 hd hi
 have hn:=hd.n
 have hmem:u.take d.n∈L:=(h.lv.mem _ (by rw [List.length_take,hi.len];omega)).2 ⟨c',by rw [eu];exact hu⟩
 have hl:=h.len
 rw [hc] at hl
 rw [List.length_eq_zero_iff.1 hl.symm] at hmem
 cases hmem
theorem Lvc.bd {d:Dsk} (hd:d.ok) {s0:HSt} {day:Nat} {L:List (List Int)} {C:List Int} (h:Lvc d s0 day L C) {j:Nat} {x:Int} (hx:C[j]?=some x):0≤x∧x≤4*(day:Int):=by
 have hj:=(List.getElem?_eq_some_iff.1 hx).1
 have hl:=h.len
 obtain ⟨t,ht⟩:∃ t,L[j]?=some t:=⟨_,List.getElem?_eq_getElem (by omega)⟩
 obtain ⟨c,rfl,hp,_⟩:=h.val j t x ht hx
 have:=d.pth_le hd hp
 omega
theorem Bc.bd {n:Nat} {g:Int} {la:List Int} {now:List (List Int)} {cs:List Int} {i u:Nat} {L:List (List Int)} {S:List Int} {B:Int} (h:Bc n g la now cs i u L S) (hc:∀ (j:Nat) (x:Int),cs[j]?=some x→0≤x∧x≤B) {j:Nat} {x:Int} (hx:S[j]?=some x):0≤x∧x≤B+4:=by
 have hj:=(List.getElem?_eq_some_iff.1 hx).1
 have hl:=h.len
 obtain ⟨t,ht⟩:∃ t,L[j]?=some t:=⟨_,List.getElem?_eq_getElem (by omega)⟩
 obtain ⟨⟨i,s,v,a,_,g2,_,_,_,rfl⟩,_⟩:=h.val j t x ht hx
 have:=hc _ _ g2
 have:=ZfC v
 omega
def Zj8 (b:Barn) (n:Nat) (m:Int):Prop:=(m = -1∧¬ ∃ t c,b.dsk.pth n b.state t c)∨∃ c:Nat,m=c∧FewC b.dsk b.state n c
def MinI (cs:List Int) (i:Nat) (m:Int):Prop:=(i=0∧m = -1)∨(0<i∧0≤m∧(∃ j:Nat,cs[j]?=some m)∧∀ (j:Nat) (x:Int),j<i→cs[j]?=some x→m≤x)
theorem MinI.take {cs:List Int} {i:Nat} {m x:Int} (h:MinI cs i m) (hx:cs[i]?=some x) (h0:0≤x) (hc:m<0∨x<m):MinI cs (i+1) x:=by
 refine .inr ⟨by omega,h0,⟨i,hx⟩,fun j y hj hy=>?_⟩
 rcases Nat.lt_or_ge j i with h1 | h1
 · rcases h with ⟨rfl,_⟩ | ⟨_,h2,_,h3⟩
   · omega
   · have:=h3 j y h1 hy;omega
 · obtain rfl:j=i:=by omega
   rw [hx] at hy;cases hy;exact Int.le_refl _
theorem MinI.keep {cs:List Int} {i:Nat} {m x:Int} (h:MinI cs i m) (hx:cs[i]?=some x) (h0:¬ m<0) (hc:¬ x<m):MinI cs (i+1) m:=by
 rcases h with ⟨_,rfl⟩ | ⟨h1,h2,h3,h4⟩
 · omega
 · refine .inr ⟨by omega,h2,h3,fun j y hj hy=>?_⟩
   rcases Nat.lt_or_ge j i with h5 | h5
   · exact h4 j y h5 hy
   · obtain rfl:j=i:=by omega
     rw [hx] at hy;cases hy;omega
theorem MinI.done {b:Barn} (hok:b.ok) {n:Nat} {L:List (List Int)} {cs:List Int} (h:Lvc b.dsk b.state n L cs) {m:Int} (hm:MinI cs cs.length m):Zj8 b n m:=by
 have hdk:=b.dsk_ok hok
 have hst:=b.state_inS hok
 rcases hm with ⟨h1,rfl⟩ | ⟨_,_,⟨j,hj⟩,h4⟩
 · exact .inl ⟨rfl,h.none hdk hst (List.length_eq_zero_iff.1 h1)⟩
 · exact .inr (h.few hdk hst hj fun i y hy=>h4 i y (List.getElem?_eq_some_iff.1 hy).1 hy)
structure Les (d d':Dsk):Prop where
 n:d.n=d'.n
 g:d.gangs≤d'.gangs
 lasts:∀ k<d.n,na d.lasts k≤na d'.lasts k
theorem Les.next {d d':Dsk} (h:Les d d') (hd:d.ok) (hd':d'.ok) {s s' t:HSt} (hs:d.inS s) (hs':d'.inS s') (hle:∀ k<d.n,na s k≤na s' k) {l:List Nat} (hl:∀ k∈l,k<d.n) (e:d.next s l=some t):∃ t',d'.next s' l=some t'∧∀ k<d.n,na t k≤na t' k:=by
 have hn:=h.n
 obtain ⟨_,h2⟩:=d.next_at hd.n.2 hs.len hl e
 have hl':∀ k∈l,k<d'.n:=fun k hk=>by have:=hl k hk;omega
 have hm:∀ k<d.n,d.mid s l k≤d'.mid s' l k:=fun k hk=>by
   have h4:=hle k hk
   have h5:=h.lasts k hk
   unfold Dsk.mid
   by_cases h3:k∈l
   · rw [if_pos h3,if_pos h3];omega
   · rw [if_neg h3,if_neg h3];exact h4
 obtain ⟨t',ht'⟩:=d'.next_some hd'.n.2 hs'.len hl' (fun k hk=>by
   have hk0:k<d.n:=by omega
   have:=hm k hk0;have:=(h2 k).1 hk0;have:=d.inS_mid hd hs l hk0;have:=d'.inS_mid hd' hs' l hk;have:=(hd.ever k hk0).2.1;have:=(hd'.ever k hk).2.1;omega)
 refine ⟨t',ht',fun k hk=>?_⟩
 have hk':k<d'.n:=by omega
 obtain ⟨_,h3⟩:=d'.next_at hd'.n.2 hs'.len hl' ht'
 have a1:=(h2 k).2;have a2:=(h3 k).2
 have:=hm k hk
 have b1:=d.inS_mid hd hs l hk;have b2:=d'.inS_mid hd' hs' l hk'
 have:=(hd.ever k hk).2.1;have:=(hd'.ever k hk').2.1
 rw [a1,a2]
 split<;>split<;>omega
theorem Les.trs {d d':Dsk} (h:Les d d') {l:List Nat} (hl:l∈d.trs false):l∈d'.trs false:=by
 obtain ⟨u,hu,rfl,h1,_⟩:=d.mem_trs.1 hl
 have hn:=h.n;have hg:=h.g
 refine d'.mem_trs.2 ⟨u,by rw [← hn];exact hu,by rw [← hn],?_,fun h=>by cases h⟩
 unfold Dsk.g at h1 ⊢
 omega
theorem Les.pth {d d':Dsk} (h:Les d d') (hd:d.ok) (hd':d'.ok) {s s':HSt} (hs:d.inS s) (hs':d'.inS s') (hle:∀ k<d.n,na s k≤na s' k):∀ {n:Nat} {t:HSt} {c:Nat},d.pth n s t c→∃ t',d'.pth n s' t' c∧∀ k<d.n,na t k≤na t' k
 | 0,t,c,hp=>by obtain ⟨rfl,rfl⟩:=hp;exact ⟨s',⟨rfl,rfl⟩,hle⟩
 | n+1,t,c,hp=>by
   obtain ⟨u,a,l,h1,h2,h3,rfl⟩:=hp
   obtain ⟨u',i1,i2⟩:=Les.pth h hd hd' hs hs' hle h1
   obtain ⟨t',j1,j2⟩:=h.next hd hd' (d.pth_inS hd hs h1) (d'.pth_inS hd' hs' i1) i2 (d.trs_lt h2) h3
   exact ⟨t',⟨u',a,l,i1,h.trs h2,j1,rfl⟩,j2⟩
theorem Les.run {d d':Dsk} (h:Les d d') (hd:d.ok) (hd':d'.ok):∀ {p:List (List Nat)} {s s' t:HSt},d.inS s→d'.inS s'→(∀ k<d.n,na s k≤na s' k)→(∀ l∈p,l∈d.trs false)→d.run s p=some t→∃ t',d'.run s' p=some t'∧∀ k<d.n,na t k≤na t' k
 | [],s,s',t,_,_,hle,_,hr=>by cases hr;exact ⟨s',rfl,hle⟩
 | l::p,s,s',t,hs,hs',hle,hp,hr=>by
   unfold Dsk.run at hr
   split at hr
   · cases hr
   · rename_i u hu
     obtain ⟨u',j1,j2⟩:=h.next hd hd' hs hs' hle (d.trs_lt (hp l (by simp))) hu
     have hlt:=d'.trs_lt (h.trs (hp l (by simp)))
     obtain ⟨t',i1,i2⟩:=Les.run h hd hd' (d.next_inS hd hs (d.trs_lt (hp l (by simp))) hu) (d'.next_inS hd' hs' hlt j1) j2 (fun m hm=>hp m (by simp [hm])) hr
     refine ⟨t',?_,i2⟩
     unfold Dsk.run
     rw [j1];exact i1
theorem Zfo {d:Dsk} (hd:d.ok) {s:HSt} (hs:d.inS s) {v:Int} (h:Kpt d s v) (n:Nat):(∃ t c,d.pth n s t c)↔v=1000000∨(n:Int)≤v:=by
 rw [← d.alive_iff hd hs]
 rcases h with ⟨rfl,h1⟩ | ⟨j,hj,rfl,h1,h2⟩
 · exact ⟨fun _=>.inl rfl,fun _=>h1 n⟩
 · constructor
   · intro h3
     right
     rcases Nat.lt_or_ge j n with h4 | h4
     · exact absurd (d.alive_le (by omega) h3) h2
     · omega
   · rintro (h3 | h3)
     · omega
     · exact d.alive_le (by omega) h1
theorem kpt_nn {d:Dsk} {s:HSt} {v:Int} (h:Kpt d s v):0≤v∧(v=1000000∨v≤14641):=by
 rcases h with ⟨rfl,_⟩ | ⟨j,hj,rfl,_⟩<;>omega
theorem Les.few {d d':Dsk} (h:Les d d') (hd:d.ok) (hd':d'.ok) {s s':HSt} (hs:d.inS s) (hs':d'.inS s') (hle:∀ k<d.n,na s k≤na s' k) {n c c':Nat} (hc:FewC d s n c) (hc':FewC d' s' n c'):c'≤c:=by
 obtain ⟨t,ht⟩:=hc.is
 obtain ⟨t',i,_⟩:=h.pth hd hd' hs hs' hle ht
 exact hc'.le _ _ i
structure PlnOk (b:Barn) (n c:Nat) (p:List (List Nat)):Prop where
 few:FewC b.dsk b.state n c
 len:p.length=n
 trs:∀ l∈p,l∈b.dsk.trs false
 run:∃ t,b.dsk.run b.state p=some t
 sum:Z0P p=c
theorem Z9b {b:Barn} (hok:b.ok) (hck:b.check=0) {n:Nat} (hn:n≤20):(Z15 b n=6∧Z28 b n=0∧¬ ∃ t c,b.dsk.pth n b.state t c)∨∃ (c:Nat) (p:List (List Nat)),Z15 b n=0∧Z28 b n=c∧Z8J b n=p.map il∧PlnOk b n c p:=by
 have hin:inB (n:Int) 0 20=true:=by simp [inB];omega
 have he:Z15 b n=bif (Z0j b.dsk (Z03 b.dsk b.state n) b.dsk.nst).isNone then 6 else 0:=by
   unfold Z15;rw [decide_eq_true hck,hin,Int.toNat_natCast];rfl
 rcases Zcd (b.dsk_ok hok) (b.state_inS hok) n with ⟨h1,h2⟩ | ⟨s,c,h1,h2,h3,h4,h5,h6⟩
 · have e6:Z15 b n=6:=by rw [he,h1];rfl
   exact .inl ⟨e6,by unfold Z28;rw [e6];rfl,h2⟩
 · have e0:Z15 b n=0:=by rw [he,h1];rfl
   refine .inr ⟨c,Z0Z b.dsk b.state n s,e0,by unfold Z28;rw [e0,Int.toNat_natCast,h1];rfl,by unfold Z8J;rw [Int.toNat_natCast,h1];rfl,h2,h3,h4,⟨s,h5⟩,h6⟩
def lenS (p:List (List Int)):Nat:=(p.map List.length).sum
theorem Zfq (p:List (List Nat)):lenS (p.map il)=Z0P p:=by
 unfold lenS Z0P
 rw [List.map_map]
 congr 1
 exact List.map_congr_left fun l _=>ZaO l
structure RndOk (b:Barn) (p q:List (List Nat)):Prop where
 hp:∀ l∈p,l∈b.dsk.trs true
 hq:∀ l∈q,l∈b.dsk.trs true
 ne:q≠[]
 len:p.length+q.length≤14641
 run:∃ u,b.dsk.run b.state p=some u∧b.dsk.run u q=some u
theorem Dsk.run_rep {d:Dsk} {u:HSt} {q:List (List Nat)} (h:d.run u q=some u):∀ n,d.run u (List.replicate n q).flatten=some u
 | 0=>rfl
 | n+1=>by
   rw [List.replicate_succ,List.flatten_cons,d.run_app,h]
   exact run_rep h n
theorem RndOk.goes {b:Barn} (hb:b.ok) {p q:List (List Nat)} (h:RndOk b p q):b.goes (p.map il) (q.map il):=fun n=>by
 obtain ⟨u,h1,h2⟩:=h.run
 have e:p.map il++rep n (q.map il)=(p++(List.replicate n q).flatten).map il:=by
   unfold rep
   rw [List.map_append,List.map_flatten,List.map_replicate]
 rw [e]
 have hr:b.dsk.run (b.stw b.warms) (p++(List.replicate n q).flatten)=some u:=by
   rw [Barn.stw_warms hb,b.dsk.run_app,h1]
   exact Dsk.run_rep h2 n
 rcases Barn.run_burns hb (p++(List.replicate n q).flatten) b.warms 0 (Cool.start hb) (fun l hl k hk=>by
   rcases List.mem_append.1 hl with hl | hl
   · exact b.dsk.trs_lt (h.hp l hl) k hk
   · obtain ⟨r,hr,hl⟩:=List.mem_flatten.1 hl
     rw [(List.mem_replicate.1 hr).2] at hl
     exact b.dsk.trs_lt (h.hq l hl) k hk) with ⟨ws,h3,_⟩ | ⟨x,ws,_,h4⟩
 · rw [h3]
 · rw [hr] at h4;cases h4
structure Met (d:Dsk) (s0:HSt) (S:List HSt) (p:List (List Nat)) (s:HSt):Prop where
 len:S.length=p.length
 nd:S.Nodup
 trs:∀ l∈p,l∈d.trs true
 at_:∀ j t,S[j]?=some t→d.run s0 (p.take j)=some t∧d.inS t
 run:d.run s0 p=some s
 inS:d.inS s
 ever:∀ m,s∈d.alive m
theorem Met.start {d:Dsk} {s:HSt} (h:d.inS s) (he:∀ m,s∈d.alive m):Met d s [] [] s:=⟨rfl,List.nodup_nil,by simp,by simp,rfl,h,he⟩
theorem Met.few {d:Dsk} (hd:d.ok) {s0 s:HSt} {S:List HSt} {p:List (List Nat)} (h:Met d s0 S p s):S.length≤d.nst:=by
 have:=Z4i h.nd (m:=d.sts) fun t ht=>by
   obtain ⟨j,hj⟩:=List.getElem?_of_mem ht
   exact (d.mem_sts hd t).2 (h.at_ j t hj).2
 rw [d.sts_len] at this
 exact this
theorem Met.next {d:Dsk} (hd:d.ok) {s0 s t:HSt} {S:List HSt} {p:List (List Nat)} (h:Met d s0 S p s) (hs:s∉S) {l:List Nat} (hl:l∈d.trs true) (hn:d.next s l=some t) (he:∀ m,t∈d.alive m):Met d s0 (S++[s]) (p++[l]) t where
 len:=by rw [List.length_append,List.length_append,h.len];rfl
 nd:=List.nodup_append.2 ⟨h.nd,by simp,fun x hx y hy e=>hs (by rw [← List.mem_singleton.1 hy,← e];exact hx)⟩
 trs m hm:=by
   rcases List.mem_append.1 hm with hm | hm
   · exact h.trs m hm
   · rw [List.mem_singleton.1 hm];exact hl
 at_ j u hu:=by
   have hlen:=h.len
   rcases Nat.lt_or_ge j S.length with hj | hj
   · rw [List.getElem?_append_left hj] at hu
     rw [List.take_append_of_le_length (by omega)]
     exact h.at_ j u hu
   · have hj2:=(List.getElem?_eq_some_iff.1 hu).1
     rw [List.length_append,List.length_singleton] at hj2
     obtain rfl:j=S.length:=by omega
     rw [List.getElem?_append_right (Nat.le_refl _),Nat.sub_self] at hu
     cases hu
     rw [hlen,List.take_left]
     exact ⟨h.run,h.inS⟩
 run:=by rw [d.run_app,h.run];dsimp only;rw [d.run_one];exact hn
 inS:=d.next_inS hd h.inS (d.trs_lt hl) hn
 ever:=he
theorem Met.done {b:Barn} (hok:b.ok) {s:HSt} {S:List HSt} {p:List (List Nat)} (h:Met b.dsk b.state S p s) {j:Nat} (hj:S[j]?=some s):RndOk b (p.take j) (p.drop j):=by
 have hjl:=(List.getElem?_eq_some_iff.1 hj).1
 have hlen:=h.len
 have hf:=h.few (b.dsk_ok hok)
 have hn:=(b.dsk.nst_le (b.dsk_ok hok)).2
 refine ⟨fun l hl=>h.trs l (List.mem_of_mem_take hl),fun l hl=>h.trs l (List.mem_of_mem_drop hl),fun e=>?_,?_,s,(h.at_ j s hj).1,?_⟩
 · have:=congrArg List.length e
   rw [List.length_drop,List.length_nil] at this;omega
 · rw [List.length_take,List.length_drop];omega
 · have h1:=h.run
   rw [← List.take_append_drop j p,b.dsk.run_app,(h.at_ j s hj).1] at h1
   exact h1
theorem Inn.sub {l k:List PL} (h:∀ x∈k,x∈l) {w:World} (hi:Inn l w):Inn k w:=fun x hx=>hi x (h x hx)
theorem brn_iff {b:Barn} {p:List (List Int)}:(brnQ b p).2.2=false↔(b.burnsF b.warms p 0).1=none:=by
 rcases Z68 b p with ⟨ws,h1,h2⟩ | ⟨d,k,ws,h1,h2⟩<;>rw [h1,h2]<;>simp
structure RWant (b:Barn) (p q:List (List Int)) (w u:Int) (g:Bool):Prop where
 u:u=Z47 b p q
 g:g=true↔Z47 b p q=0∧b.goes p q
 w:(b.check≠0∧w=b.check)∨(b.check=0∧w=0∧Kpt b.dsk b.state 1000000)∨(b.check=0∧w=6∧∃ v,v≠1000000∧Kpt b.dsk b.state v)
theorem RWant.w1 {b:Barn} {p q:List (List Int)} {w u:Int} {g:Bool} (h:RWant b p q w u g) (hc:b.check≠0):w=b.check:=by
 rcases h.w with ⟨_,h2⟩ | ⟨h1,_⟩ | ⟨h1,_⟩
 · exact h2
 · exact absurd h1 hc
 · exact absurd h1 hc
theorem RWant.w2 {b:Barn} {p q:List (List Int)} {w u:Int} {g:Bool} (h:RWant b p q w u g) (hc:b.check=0) (hk:∃ v,v≠1000000∧Kpt b.dsk b.state v):w=6:=by
 obtain ⟨v,hv,hk⟩:=hk
 rcases h.w with ⟨h1,_⟩ | ⟨_,_,h2⟩ | ⟨_,h2,_⟩
 · exact absurd hc h1
 · exact absurd (kpt_unique hk h2) hv
 · exact h2
theorem RWant.w3 {b:Barn} {p q:List (List Int)} {w u:Int} {g:Bool} (h:RWant b p q w u g) (hc:b.check=0) (hk:Kpt b.dsk b.state 1000000):w=0:=by
 rcases h.w with ⟨h1,_⟩ | ⟨_,h2,_⟩ | ⟨_,_,v,hv,h3⟩
 · exact absurd hc h1
 · exact h2
 · exact absurd (kpt_unique h3 hk) hv
theorem RWant.val {b:Barn} {p q:List (List Int)} {w u:Int} {g:Bool} (h:RWant b p q w u g) {v:Value} (hv:Zj5 b p q v):v = .tuple #[.bool g,.int .i64 u]:=by
 rcases hv with ⟨h1,rfl⟩ | ⟨h1,is,h2,rfl⟩
 · have e:g=false:=by
     cases hg:g with
     | false=>rfl
     | true=>exact absurd (h.g.1 hg).1 h1
   rw [e,h.u]
 · have e:is=g:=by
     rw [Bool.eq_iff_iff,h2,h.g]
     exact ⟨fun h3=>⟨h1,h3⟩,fun h3=>h3.2⟩
   rw [e,h.u,h1]
theorem Zjc:apT Tryz.prog 31=some (39,4,32):=by kernel_rfl
theorem Z4B:cal Tryz.prog 15=true:=by kernel_rfl
theorem Z30:cal Tryz.prog 21=true:=by kernel_rfl
theorem ZeR:cal Tryz.prog 53=true:=by kernel_rfl
theorem ZjB:cal Tryz.prog 77=true:=by kernel_rfl
theorem Z7e:ZF Tryz.prog 109=some 1:=by kernel_rfl
theorem ZiP:ZF Tryz.prog 31=some 1:=by kernel_rfl
theorem ZjS:elN Tryz.prog 22=some 1:=by kernel_rfl
theorem Z19:ZY Tryz.prog 111 0=some 0:=by kernel_rfl
theorem Z08:ZY Tryz.prog 111 1=some 1:=by kernel_rfl
theorem Zw:ZY Tryz.prog 111 2=some 2:=by kernel_rfl
theorem ZaN:Z7l Tryz.prog 109=some .u32:=by kernel_rfl
theorem ik3:Z7l Tryz.prog 3=some .i64:=by kernel_rfl
theorem Z5v:Z2y Tryz.prog 22=true:=by kernel_rfl
theorem ZfF:ZP Tryz.prog 111=some [(0,1),(1,1),(2,1)]:=by kernel_rfl
theorem Z0O:Z0h Tryz.prog 109=true:=by kernel_rfl
theorem Zdc:Z0h Tryz.prog 22=true:=by kernel_rfl
theorem sc5:Z0h Tryz.prog 5=true:=by kernel_rfl
theorem Z5V:(Tryz.prog.underlying 109).isSome=true:=by kernel_rfl
theorem us3:(Tryz.prog.underlying 3).isSome=true:=by kernel_rfl
theorem us5:(Tryz.prog.underlying 5).isSome=true:=by kernel_rfl
theorem Zg0:Zr Tryz.prog 111=some ([.slice none 0 0,.int .i64 0,.int .u32 0]):=by kernel_rfl
def nn (l:List Int) (k:Nat):Int:=l.getD k 0
theorem Ze8 {l:List Int} {i j:Nat} {v:Int} (h:i<l.length):nn (l.set i v) j=bif i == j then v else nn l j:=by
 unfold nn
 rw [List.getD_eq_getElem?_getD,List.getD_eq_getElem?_getD,List.getElem?_set]
 by_cases e:i=j
 · subst e;rw [if_pos rfl,if_pos h];simp
 · rw [if_neg e,show (i == j)=false from by simpa using e];rfl
def urow (x:Int):List Value:=[.int .u8 x]
def urows (l:List Int):List (List Value):=l.map urow
theorem c_Fill (g:List Int) (ag:Option Addr) (cg:Nat) (hgl:g.length≤9223372036854775807) (H:Z8) (R:Z5) :
    Fn Tryz.prog 7 [.slice ag g.length cg] H R (fun v H' R'=>∃ bk,∃ mx:Int,(0≤mx∧mx≤4294967295)∧v = .pointer (some ⟨bk,0,none⟩)∧H'=(bk,cel 111 [.slice ag g.length cg,.int .i64 (0),.int .u32 (mx)])::H∧R'=R):=by
 refine Ze Tryz.func7 rfl Tryz.ntmps7 rfl ?_
 refine sqt 1 rfl (pur 1 rfl (sqt 8 rfl (pur 2 rfl (sp rfl (PE.lenSl Z5v rfl) rfl ?_))))
 refine spE rfl (PE.convU us3 ZaN rfl) rfl ?_
 rintro _ ⟨u6,rfl,hu6⟩
 refine spE rfl (PE.xorU rfl rfl) rfl ?_
 rintro _ ⟨u7,rfl,hu7⟩
 refine sp rfl (PE.build (out:=[_,_,_]) ZfF Zg0 rfl rfl) rfl (bx rfl rfl rfl (fun b9=>pur 1 rfl (Z4 ?_)))
 exact rtA rfl rfl rfl ⟨b9,u7,hu7,rfl,rfl,rfl⟩ idH
theorem Z3U (g:List Int) (ag:Option Addr) (cg bk:Nat) (hgl:g.length≤9223372036854775807) (tq mx:Int) (htq:0≤tq∧tq≤1000000000) (hmx:0≤mx∧mx≤4294967295) (H:Z8) (R:Z5) [hG:MemRows ag 1 (urows g) R] :
    Fn Tryz.prog 53 [.pointer (some ⟨bk,0,none⟩)] ((bk,cel 111 [.slice ag g.length cg,.int .i64 (tq),.int .u32 (mx)])::H) R (fun v H' R'=>∃ x m':Int,(0≤x∧x≤65535)∧v = .int .i64 x∧(0≤m'∧m'≤4294967295)∧H'=(bk,cel 111 [.slice ag g.length cg,.int .i64 (tq+1),.int .u32 (m')])::H∧R'=R):=by
 refine Ze Tryz.func53 rfl Tryz.ntmps53 rfl ?_
 refine sqt 1 rfl (pur 1 rfl (Z0 (sqt 6 rfl (pur 1 rfl (sp rfl (PE.nilCheck rfl) rfl (sp rfl (PE.fA Z19 rfl) rfl (spL rfl rfl (lh Zdc rfl rfl) rfl (sp rfl (PE.lenSl Z5v rfl) rfl (pur 1 rfl (sqt 2 rfl (pur 2 rfl ?_)))))))))))
 refine Z2 rfl ?_ ?_<;>intro hc0<;>try simp only [cS] at hc0
 obtain ⟨y,hy⟩:∃ y,g[(tq%g.length).toNat]?=some y:=⟨_,List.getElem?_eq_getElem (by have:=Int.emod_lt_of_pos tq hc0;have:=Int.emod_nonneg tq (show (g.length:Int)≠0 by omega);omega)⟩
 refine Zi (a:=ag) (sz:=1) (rows:=urows g) (by intro h0;simp [urows] at h0;simp [h0] at hy) (fun bgr ogr he=>?_)
 subst he
 refine Zb [0,0,2,6,14,0,32,96,224,0,512,1536,3584,0,15872,32736,65504,131040,262142,524286,1048575,2097151,4194303] (tks 0 4 (.ld 4 (tks 5 3 (.ld 8 (tks 9 3 (.ld 12 (tks 13 3 (.ld 16 (tks 17 5 (.big 22 .done)))))))))) Zo (by kernel_rfl) ?_
 refine Zl 2 rfl (tk rfl (PE.nilCheck rfl) rfl (tk rfl (PE.fA Zw rfl) rfl (ld rfl rfl (lh Z0O rfl rfl) rfl (Zl 1 rfl (tk rfl (PE.nilCheck rfl) rfl (tk rfl (PE.fA Z19 rfl) rfl (ld rfl rfl (lh Zdc rfl rfl) rfl (Zl 1 rfl (tk rfl (PE.nilCheck rfl) rfl (tk rfl (PE.fA Z08 rfl) rfl (ld rfl rfl (lh sc3 rfl rfl) rfl (Zl 1 rfl (tk rfl (PE.rem rfl rfl (by omega)) rfl (tk rfl (PE.indexAddr ZjS rfl rfl (by exact Int.emod_nonneg tq (by omega)) (by exact Int.emod_lt_of_pos tq hc0)) rfl (ld rfl rfl (lf0 (x:=.int .u8 y) sc5 (by simp [urows,urow,hy];rfl) rfl) rfl ?_)))))))))))))))
 refine tkE rfl (PE.convU us5 ZaN rfl) rfl ?_
 rintro _ ⟨u28,rfl,hu28⟩
 refine tkE rfl (PE.xorU rfl rfl) rfl ?_
 rintro _ ⟨u29,rfl,hu29⟩
 refine tkE rfl (PE.mulU rfl rfl) rfl ?_
 rintro _ ⟨u30,rfl,hu30⟩
 refine tk rfl (PE.nilCheck rfl) rfl (tk rfl (PE.fA Zw rfl) rfl ?_)
 refine sto rfl rfl rfl Z7e rfl rfl rfl rfl ?_
 refine bgT (sqt 8 rfl (pur 1 rfl (sp rfl (PE.nilCheck rfl) rfl (sp rfl (PE.fA Z08 rfl) rfl (spL rfl rfl (lh sc3 rfl rfl) rfl (sp rfl (PE.add rfl rfl (by omega)) rfl (sp rfl (PE.nilCheck rfl) rfl (sp rfl (PE.fA Z08 rfl) rfl ?_))))))))
 refine sto rfl rfl rfl cn3 rfl rfl rfl rfl ?_
 refine Z0 (Z0 ?_)
 refine Zb [0,1,3,7,0,16,48,112,240,511] (tks 0 3 (.ld 3 (tks 4 3 (.ld 7 (.tk 8 (.tk 9 .done)))))) Zo (by kernel_rfl) ?_
 refine Zl 1 rfl (tk rfl (PE.nilCheck rfl) rfl (tk rfl (PE.fA Z08 rfl) rfl (ld rfl rfl (lh sc3 rfl rfl) rfl (Zl 1 rfl (tk rfl (PE.nilCheck rfl) rfl (tk rfl (PE.fA Z19 rfl) rfl (ld rfl rfl (lh Zdc rfl rfl) rfl (tk rfl (PE.lenSl Z5v rfl) rfl (Zl 1 rfl ?_)))))))))
 refine Z2 rfl ?_ ?_<;>intro hc1<;>try simp only [cS] at hc1
 refine sqr 10 rfl (pur 2 rfl (sp rfl (PE.nilCheck rfl) rfl (sp rfl (PE.fA Zw rfl) rfl (spL rfl rfl (lh Z0O rfl rfl) rfl ?_))))
 refine spE rfl (PE.mulU rfl rfl) rfl ?_
 rintro _ ⟨u55,rfl,hu55⟩
 refine spE rfl (PE.addU rfl rfl) rfl ?_
 rintro _ ⟨u56,rfl,hu56⟩
 refine sp rfl (PE.nilCheck rfl) rfl (sp rfl (PE.fA Zw rfl) rfl ?_)
 refine sto rfl rfl rfl Z7e rfl rfl rfl rfl ?_
 refine Z0 ?_
 refine Zb [0,1,3,7,0,16,48,112,240,511,1023,2047,4095,8191] (tks 0 3 (.ld 3 (tks 4 3 (.ld 7 (tks 8 6 .done))))) Zo (by kernel_rfl) ?_
 refine Zl 1 rfl (tk rfl (PE.nilCheck rfl) rfl (tk rfl (PE.fA Zw rfl) rfl (ld rfl rfl (lh Z0O rfl rfl) rfl (Zl 1 rfl (tk rfl (PE.nilCheck rfl) rfl (tk rfl (PE.fA Zw rfl) rfl (ld rfl rfl (lh Z0O rfl rfl) rfl ?_)))))))
 refine tkE rfl (PE.shrU rfl rfl (by decide) (by omega) (by omega)) rfl ?_
 rintro _ ⟨u67,rfl,hu67⟩
 refine tkE rfl (PE.xorU rfl rfl) rfl ?_
 rintro _ ⟨u68,rfl,hu68⟩
 refine tkE rfl (PE.shrU rfl rfl (by decide) (by omega) (by omega)) rfl ?_
 rintro _ ⟨u69,rfl,hu69⟩
 refine tkE rfl (PE.andU rfl rfl (by decide) (by decide)) rfl ?_
 rintro _ ⟨u70,rfl,hu70⟩
 refine tk rfl (PE.conv64 Z5V ik3 rfl (by omega)) rfl (Zl 1 rfl (Z4 ?_))
 first
   | exact rtA rfl rfl rfl ⟨u70,_,hu70,rfl,hu56,rfl,rfl⟩ idH
   | exact rtA rfl rfl rfl ⟨u70,_,hu70,rfl,hu30,rfl,rfl⟩ idH
   | exact rtA rfl rfl rfl ⟨u70,_,hu70,rfl,hmx,rfl,rfl⟩ idH
 refine Z1 (Z0 ?_)
 refine Zb [0,1,3,7,0,16,48,112,240,511,1023,2047,4095,8191] (tks 0 3 (.ld 3 (tks 4 3 (.ld 7 (tks 8 6 .done))))) Zo (by kernel_rfl) ?_
 refine Zl 1 rfl (tk rfl (PE.nilCheck rfl) rfl (tk rfl (PE.fA Zw rfl) rfl (ld rfl rfl (lh Z0O rfl rfl) rfl (Zl 1 rfl (tk rfl (PE.nilCheck rfl) rfl (tk rfl (PE.fA Zw rfl) rfl (ld rfl rfl (lh Z0O rfl rfl) rfl ?_)))))))
 refine tkE rfl (PE.shrU rfl rfl (by decide) (by omega) (by omega)) rfl ?_
 rintro _ ⟨u67,rfl,hu67⟩
 refine tkE rfl (PE.xorU rfl rfl) rfl ?_
 rintro _ ⟨u68,rfl,hu68⟩
 refine tkE rfl (PE.shrU rfl rfl (by decide) (by omega) (by omega)) rfl ?_
 rintro _ ⟨u69,rfl,hu69⟩
 refine tkE rfl (PE.andU rfl rfl (by decide) (by decide)) rfl ?_
 rintro _ ⟨u70,rfl,hu70⟩
 refine tk rfl (PE.conv64 Z5V ik3 rfl (by omega)) rfl (Zl 1 rfl (Z4 ?_))
 first
   | exact rtA rfl rfl rfl ⟨u70,_,hu70,rfl,hu56,rfl,rfl⟩ idH
   | exact rtA rfl rfl rfl ⟨u70,_,hu70,rfl,hu30,rfl,rfl⟩ idH
   | exact rtA rfl rfl rfl ⟨u70,_,hu70,rfl,hmx,rfl,rfl⟩ idH
 refine Z1 (sqt 8 rfl (pur 1 rfl (sp rfl (PE.nilCheck rfl) rfl (sp rfl (PE.fA Z08 rfl) rfl (spL rfl rfl (lh sc3 rfl rfl) rfl (sp rfl (PE.add rfl rfl (by omega)) rfl (sp rfl (PE.nilCheck rfl) rfl (sp rfl (PE.fA Z08 rfl) rfl ?_))))))))
 refine sto rfl rfl rfl cn3 rfl rfl rfl rfl ?_
 refine Z0 (Z0 ?_)
 refine Zb [0,1,3,7,0,16,48,112,240,511] (tks 0 3 (.ld 3 (tks 4 3 (.ld 7 (.tk 8 (.tk 9 .done)))))) Zo (by kernel_rfl) ?_
 refine Zl 1 rfl (tk rfl (PE.nilCheck rfl) rfl (tk rfl (PE.fA Z08 rfl) rfl (ld rfl rfl (lh sc3 rfl rfl) rfl (Zl 1 rfl (tk rfl (PE.nilCheck rfl) rfl (tk rfl (PE.fA Z19 rfl) rfl (ld rfl rfl (lh Zdc rfl rfl) rfl (tk rfl (PE.lenSl Z5v rfl) rfl (Zl 1 rfl ?_)))))))))
 refine Z2 rfl ?_ ?_<;>intro hc1<;>try simp only [cS] at hc1
 refine sqr 10 rfl (pur 2 rfl (sp rfl (PE.nilCheck rfl) rfl (sp rfl (PE.fA Zw rfl) rfl (spL rfl rfl (lh Z0O rfl rfl) rfl ?_))))
 refine spE rfl (PE.mulU rfl rfl) rfl ?_
 rintro _ ⟨u55,rfl,hu55⟩
 refine spE rfl (PE.addU rfl rfl) rfl ?_
 rintro _ ⟨u56,rfl,hu56⟩
 refine sp rfl (PE.nilCheck rfl) rfl (sp rfl (PE.fA Zw rfl) rfl ?_)
 refine sto rfl rfl rfl Z7e rfl rfl rfl rfl ?_
 refine Z0 ?_
 refine Zb [0,1,3,7,0,16,48,112,240,511,1023,2047,4095,8191] (tks 0 3 (.ld 3 (tks 4 3 (.ld 7 (tks 8 6 .done))))) Zo (by kernel_rfl) ?_
 refine Zl 1 rfl (tk rfl (PE.nilCheck rfl) rfl (tk rfl (PE.fA Zw rfl) rfl (ld rfl rfl (lh Z0O rfl rfl) rfl (Zl 1 rfl (tk rfl (PE.nilCheck rfl) rfl (tk rfl (PE.fA Zw rfl) rfl (ld rfl rfl (lh Z0O rfl rfl) rfl ?_)))))))
 refine tkE rfl (PE.shrU rfl rfl (by decide) (by omega) (by omega)) rfl ?_
 rintro _ ⟨u67,rfl,hu67⟩
 refine tkE rfl (PE.xorU rfl rfl) rfl ?_
 rintro _ ⟨u68,rfl,hu68⟩
 refine tkE rfl (PE.shrU rfl rfl (by decide) (by omega) (by omega)) rfl ?_
 rintro _ ⟨u69,rfl,hu69⟩
 refine tkE rfl (PE.andU rfl rfl (by decide) (by decide)) rfl ?_
 rintro _ ⟨u70,rfl,hu70⟩
 refine tk rfl (PE.conv64 Z5V ik3 rfl (by omega)) rfl (Zl 1 rfl (Z4 ?_))
 first
   | exact rtA rfl rfl rfl ⟨u70,_,hu70,rfl,hu56,rfl,rfl⟩ idH
   | exact rtA rfl rfl rfl ⟨u70,_,hu70,rfl,hu30,rfl,rfl⟩ idH
   | exact rtA rfl rfl rfl ⟨u70,_,hu70,rfl,hmx,rfl,rfl⟩ idH
 refine Z1 (Z0 ?_)
 refine Zb [0,1,3,7,0,16,48,112,240,511,1023,2047,4095,8191] (tks 0 3 (.ld 3 (tks 4 3 (.ld 7 (tks 8 6 .done))))) Zo (by kernel_rfl) ?_
 refine Zl 1 rfl (tk rfl (PE.nilCheck rfl) rfl (tk rfl (PE.fA Zw rfl) rfl (ld rfl rfl (lh Z0O rfl rfl) rfl (Zl 1 rfl (tk rfl (PE.nilCheck rfl) rfl (tk rfl (PE.fA Zw rfl) rfl (ld rfl rfl (lh Z0O rfl rfl) rfl ?_)))))))
 refine tkE rfl (PE.shrU rfl rfl (by decide) (by omega) (by omega)) rfl ?_
 rintro _ ⟨u67,rfl,hu67⟩
 refine tkE rfl (PE.xorU rfl rfl) rfl ?_
 rintro _ ⟨u68,rfl,hu68⟩
 refine tkE rfl (PE.shrU rfl rfl (by decide) (by omega) (by omega)) rfl ?_
 rintro _ ⟨u69,rfl,hu69⟩
 refine tkE rfl (PE.andU rfl rfl (by decide) (by decide)) rfl ?_
 rintro _ ⟨u70,rfl,hu70⟩
 refine tk rfl (PE.conv64 Z5V ik3 rfl (by omega)) rfl (Zl 1 rfl (Z4 ?_))
 first
   | exact rtA rfl rfl rfl ⟨u70,_,hu70,rfl,hu56,rfl,rfl⟩ idH
   | exact rtA rfl rfl rfl ⟨u70,_,hu70,rfl,hu30,rfl,rfl⟩ idH
   | exact rtA rfl rfl rfl ⟨u70,_,hu70,rfl,hmx,rfl,rfl⟩ idH
theorem c_Below (g:List Int) (ag:Option Addr) (cg bk:Nat) (hgl:g.length≤9223372036854775807) (tq mx:Int) (htq:0≤tq∧tq≤1000000000) (hmx:0≤mx∧mx≤4294967295) (n:Int) (H:Z8) (R:Z5) [hG:MemRows ag 1 (urows g) R] :
    Fn Tryz.prog 21 [.pointer (some ⟨bk,0,none⟩),.int .i64 n] ((bk,cel 111 [.slice ag g.length cg,.int .i64 (tq),.int .u32 (mx)])::H) R (fun v H' R'=>∃ x m':Int,(0≤x∧x<max 1 n)∧v = .int .i64 x∧(0≤m'∧m'≤4294967295)∧H'=(bk,cel 111 [.slice ag g.length cg,.int .i64 (tq+1),.int .u32 (m')])::H∧R'=R):=by
 refine Ze Tryz.func21 rfl Tryz.ntmps21 rfl ?_
 refine sqt 1 rfl (pur 1 rfl (sqt 6 rfl (pur 1 rfl ?_)))
 refine cl rfl ZeR rfl rfl (Z3U g ag cg bk hgl tq mx htq hmx _ _) ?_
 rintro _ _ _ ⟨x,m',hx,rfl,hm',rfl,rfl⟩
 refine pur 1 rfl (sp rfl (PE.max rfl rfl) rfl (sp rfl (PE.rem rfl rfl (by omega)) rfl (pur 1 rfl (Z4 ?_))))
 exact rtA rfl rfl rfl ⟨_,m',⟨Int.emod_nonneg _ (by omega),Int.emod_lt_of_pos _ (by omega)⟩,rfl,hm',rfl,rfl⟩ idH
theorem c_Among (g:List Int) (ag:Option Addr) (cg bk:Nat) (hgl:g.length≤9223372036854775807) (tq mx:Int) (htq:0≤tq∧tq≤1000000000) (hmx:0≤mx∧mx≤4294967295) (lo hi:Int) (hb : -1000000≤lo∧lo≤1000000 ∧ -1000000≤hi∧hi≤1000000) (H:Z8) (R:Z5) [hG:MemRows ag 1 (urows g) R] :
    Fn Tryz.prog 15 [.pointer (some ⟨bk,0,none⟩),.int .i64 lo,.int .i64 hi] ((bk,cel 111 [.slice ag g.length cg,.int .i64 (tq),.int .u32 (mx)])::H) R (fun v H' R'=>∃ x m':Int,(lo≤x∧x<lo+max 1 (hi-lo+1))∧v = .int .i64 x∧(0≤m'∧m'≤4294967295)∧H'=(bk,cel 111 [.slice ag g.length cg,.int .i64 (tq+1),.int .u32 (m')])::H∧R'=R):=by
 refine Ze Tryz.func15 rfl Tryz.ntmps15 rfl ?_
 refine sqt 1 rfl (pur 1 rfl (sqt 9 rfl (pur 4 rfl (sp rfl (PE.sub rfl rfl (by omega)) rfl (sp rfl (PE.add rfl rfl (by omega)) rfl ?_)))))
 refine cl rfl Z30 rfl rfl (c_Below g ag cg bk hgl tq mx htq hmx (hi-lo+1) _ _) ?_
 rintro _ _ _ ⟨x,m',hx,rfl,hm',rfl,rfl⟩
 refine sp rfl (PE.add rfl rfl (by omega)) rfl (pur 1 rfl (Z4 ?_))
 exact rtA rfl rfl rfl ⟨lo+x,m',⟨by omega,by omega⟩,rfl,hm',rfl,rfl⟩ idH
theorem c_Rare (g:List Int) (ag:Option Addr) (cg bk:Nat) (hgl:g.length≤9223372036854775807) (tq mx:Int) (htq:0≤tq∧tq≤1000000000) (hmx:0≤mx∧mx≤4294967295) (n:Int) (H:Z8) (R:Z5) [hG:MemRows ag 1 (urows g) R] :
    Fn Tryz.prog 30 [.pointer (some ⟨bk,0,none⟩),.int .i64 n] ((bk,cel 111 [.slice ag g.length cg,.int .i64 (tq),.int .u32 (mx)])::H) R (fun v H' R'=>∃ (x:Bool) (m':Int),v = .bool x∧(0≤m'∧m'≤4294967295)∧H'=(bk,cel 111 [.slice ag g.length cg,.int .i64 (tq+1),.int .u32 (m')])::H∧R'=R):=by
 refine Ze Tryz.func30 rfl Tryz.ntmps30 rfl ?_
 refine sqt 1 rfl (pur 1 rfl (sqt 5 rfl (pur 2 rfl ?_)))
 refine cl rfl Z30 rfl rfl (c_Below g ag cg bk hgl tq mx htq hmx n _ _) ?_
 rintro _ _ _ ⟨x,m',hx,rfl,hm',rfl,rfl⟩
 refine pur 2 rfl (Z4 ?_)
 exact rtA rfl rfl rfl ⟨_,m',rfl,hm',rfl,rfl⟩ idH
theorem _root_.Go.Proofs.YtcfdanhklbklkaaGreat.OSl.freezeC {e sz:Nat} {rows:List (List Value)} (o:OSl e sz rows):∃ a c,o.fs = .slice a rows.length c∧rows.length≤c∧∀ {H:Z8} {R:Z5} {w:World},St (o.G++H) R w→St H (RowsA a sz rows::R) w:=by
 obtain ⟨fs,G,hl,his⟩:=o
 rcases his with ⟨rfl,rfl,rfl⟩ | ⟨b,cap,junk,rfl,rfl,_,hc,_⟩
 · exact ⟨none,0,rfl,Nat.le_refl _,fun {H R w} h=>(St.also (H:=H) (R:=R) h (f:=RowsA none sz []) (fun w' _=>fun i row hi=>by simp at hi))⟩
 · exact ⟨_,cap,rfl,hc,fun {H R w} h=>St.rows (rest:=junk) h hl⟩
structure Ord (p:List Nat) (n:Nat):Prop where
 len:p.length=n
 nd:p.Nodup
 lt:∀ i∈p,i<n
theorem Ord.nil:Ord [] 0:=⟨rfl,List.nodup_nil,by simp⟩
theorem Ord.ins {p:List Nat} {n j:Nat} (h:Ord p n) (hj:j≤n):Ord (p.take j++n::p.drop j) (n+1):=by
 have hp:(p.take j++n::p.drop j).Perm (n::p):=by
   have h1:=List.perm_middle (a:=n) (l₁:=p.take j) (l₂:=p.drop j)
   rwa [List.take_append_drop] at h1
 refine ⟨by rw [hp.length_eq];simp [h.len],hp.nodup_iff.2 (List.nodup_cons.2 ⟨fun h1=>Nat.lt_irrefl _ (h.lt n h1),h.nd⟩),fun i hi=>?_⟩
 rcases List.mem_cons.1 (hp.mem_iff.1 hi) with rfl | h1
 · omega
 · have:=h.lt i h1;omega
theorem ZfO {xs:List Int} {rest:List Value} {i:Nat} {x:Int} (hi:i<xs.length) (hr:1≤rest.length):spl (spl (Za xs++rest) (0+(i+1)*1) (Za (xs.drop i))) (0+i*1) [.int .i64 x]=Za (xs.take i++x::xs.drop i)++rest.drop 1:=by
 rw [show 0+(i+1)*1=i+1 from by omega,show 0+i*1=i from by omega]
 obtain ⟨A,y,B,rfl,rfl⟩:=Z87 hi
 obtain ⟨r0,r,rfl⟩:∃ r0 r,rest=r0::r:=by cases rest with
   | nil=>simp at hr
   | cons a b=>exact ⟨a,b,rfl⟩
 rw [List.drop_left,List.take_left]
 have e1:Za (A++y::B)++r0::r=(Za A++[.int .i64 y])++((Za B++[r0])++r):=by simp [Za]
 have h1:=Z2O (p:=Za A++[.int .i64 y]) (q:=Za B++[r0]) (s:=r) (vs:=Za (y::B)) (by simp [Za])
 rw [show (Za A++[Value.int .i64 y]).length=A.length+1 by simp [Za]] at h1
 have h2:=Z2O (p:=Za A) (q:=[.int .i64 y]) (s:=Za (y::B)++r) (vs:=[.int .i64 x]) rfl
 rw [show (Za A).length=A.length by simp [Za]] at h2
 rw [e1,h1,List.append_assoc,h2]
 simp [Za]
theorem ZfP {xs:List Int} {z junk:List Value} {i:Nat} {x:Int} (hi:i<xs.length) (hz:z.length=xs.length+1-i):spl (spl ((Za (xs.take i))++(z++junk)) (0+i*1) [.int .i64 x]) (0+(i+1)*1) (Za (xs.drop i))=Za (xs.take i++x::xs.drop i)++junk:=by
 rw [show 0+(i+1)*1=i+1 from by omega,show 0+i*1=i from by omega]
 obtain ⟨A,y,B,rfl,rfl⟩:=Z87 hi
 obtain ⟨z0,z1,rfl⟩:∃ z0 z1,z=z0::z1:=by cases z with
   | nil=>simp only [List.length_nil,List.length_append,List.length_cons] at hz;omega
   | cons a b=>exact ⟨a,b,rfl⟩
 rw [List.drop_left,List.take_left]
 have h1:=Z2O (p:=Za A) (q:=[z0]) (s:=z1++junk) (vs:=[.int .i64 x]) rfl
 rw [show (Za A).length=A.length by simp [Za]] at h1
 have h2:=Z2O (p:=Za A++[.int .i64 x]) (q:=z1) (s:=junk) (vs:=Za (y::B)) (by simp [Za] at hz ⊢;omega)
 rw [show (Za A++[Value.int .i64 x]).length=A.length+1 by simp [Za]] at h2
 rw [show Za A++(z0::z1++junk)=Za A++([z0]++(z1++junk)) from rfl,h1,← List.append_assoc,h2]
 simp [Za]
theorem Z16 (n:Nat) (v:Value):(Z0Y n [v]).length=n:=by rw [Zit,List.length_replicate]
theorem ZbC {l vs:List Value} {off:Nat} (h:off+vs.length≤l.length):(spl l off vs).length=l.length:=by
 unfold spl
 simp only [List.length_append,List.length_take,List.length_drop];omega
theorem Z0m (l:List Int):(irows l).flatten=Za l:=Z02 l
theorem Z8s (l:List Int):∀ r∈irows l,r.length=1:=fun r hr=>by obtain ⟨z,_,rfl⟩:=List.mem_map.1 hr;rfl
theorem Zch (xs:List Int) (o:OSl 3 1 (irows xs)) (i:Nat) (hi:i≤xs.length) (hl:xs.length≤1000000) (x:Int) (bv:Nat) (H:Z8) (R:Z5) :
    Fn Tryz.prog 77 [o.fs,.int .i64 i,.slice (some ⟨bv,0,none⟩) 1 1] ((bv,cel 3 [.int .i64 x])::(o.G++H)) R (fun v H' R'=>∃ o':OSl 3 1 (irows (xs.take i++x::xs.drop i)),v=o'.fs∧H'=o'.G++H∧R'=R):=by
 obtain ⟨a,c,he,hcc,_⟩:=o.freezeC
 rw [show (irows xs).length=xs.length from List.length_map _] at he hcc
 refine Ze Tryz.func77 rfl Tryz.ntmps77 rfl ?_
 refine sqt 1 rfl (pur 1 rfl (sqt 3 rfl (pur 2 rfl (sp rfl (PE.slLoA Z18 (congrArg some he) rfl hi) rfl (sqt 3 rfl (pur 1 rfl (sp rfl (PE.lenSl ZD rfl) rfl (pur 1 rfl (Z0 (sqt 2 rfl (pur 2 rfl ?_)))))))))))
 refine Z2 rfl ?_ ?_<;>intro hc0
 exact absurd hc0 (by simp)
 refine Z1 (sqt 3 rfl (pur 1 rfl (sp rfl (PE.lenSl ZD (congrArg some he)) rfl (pur 1 rfl (Z0 (sqt 3 rfl (pur 3 rfl ?_)))))))
 refine Z2 rfl ?_ ?_<;>intro hc1<;>try simp only [cS] at hc1
 obtain rfl:i=xs.length:=by omega
 refine sqt 4 rfl (pur 2 rfl ?_)
 refine apO (o) rfl Z62 rfl rfl (Z0B (row:=[.int .i64 x]) rfl) rfl rfl ((by simp only [irows,List.length_map,List.length_singleton];omega)) rfl (fun o25=>?_)
 refine pur 1 rfl (Z4 ?_)
 exact rtA rfl rfl rfl ⟨o25.cast (by simp [irows]),rfl,rfl,rfl⟩ (fun w h=>h.del bv)
 have hin:i<xs.length:=by omega
 have hir:(irows xs).length=xs.length:=List.length_map _
 obtain ⟨b,cap,junk,hfs,hG,hj,hcap,hmx⟩:=o.is.resolve_left (fun h=>by rw [h.1] at hir;simp at hir;omega)
 rw [hir] at hfs hcap hj
 rw [hfs,hG,Z0m]
 refine Sy.heap (H':=(bv,cel 3 [.int .i64 x])::(b,cel 3 (Za xs++junk))::H) idH ?_
 clear he
 refine Z1 (Z0 (sqt 6 rfl (pur 2 rfl (sp rfl (PE.add rfl rfl (by omega)) rfl (pur 1 rfl (sp rfl (PE.capSl ZD rfl) rfl (pur 1 rfl ?_)))))))
 refine Z2 rfl ?_ ?_<;>intro hc2<;>try simp only [cS] at hc2
 refine sqt 10 rfl (pur 2 rfl (sp rfl (PE.slHi Z18 rfl rfl (by omega)) rfl (pur 2 rfl (sp rfl (PE.add rfl rfl (by omega)) rfl (pur 1 rfl (sp rfl (PE.sub rfl rfl (by omega)) rfl ?_))))))
 rw [show (xs.length:Int)+((1:Nat):Int)-i=((xs.length+1-i:Nat):Int) from by omega]
 refine apZ rfl Z62 ik3 zl3 rfl rfl (by omega) (by omega) (by omega) (by omega) (by rw [List.length_append,Z6];omega) rfl (fun b2 cap2 jk2 hc1 hc2 hc3=>?_)
 refine pur 1 rfl (sqt 5 rfl (pur 2 rfl ?_))
 rw [show i+(xs.length+1-i)=xs.length+1 from by omega] at hc1 hc3 ⊢
 rw [show (Za xs++junk).take (i*1)=Za (xs.take i) from by rw [Nat.mul_one,List.take_append_of_le_length (by rw [Z6];omega)];simp [Za,List.map_take]]
 refine sp rfl (PE.slLo Z18 rfl rfl (by omega) (by omega)) rfl (pur 1 rfl ?_)
 refine ZiR [.int .i64 x] rfl Z18 rfl rfl (by show 1=Nat.min 1 (xs.length+1-i)*1;rw [show Nat.min 1 (xs.length+1-i)=1 from Nat.min_eq_left (by omega)]) (Z8p (l:=[.int .i64 x]) (e2:=3) (fun j v h=>by simpa using h)) rfl (by simp only [List.length_append,Z6,List.length_take,Z16,List.length_singleton];omega) rfl ?_
 refine Z0 ?_
 refine Zb [0,0,0,6,15,0,0,96,255] (tks 0 8 (.big 8 .done)) Zo (by kernel_rfl) ?_
 refine Zl 3 rfl (tk rfl (PE.add rfl rfl (by omega)) rfl ?_)
 rw [show (i:Int)+((1:Nat):Int)=((i+1:Nat):Int) from by omega]
 refine tk rfl (PE.slLo Z18 rfl rfl (by omega) (by omega)) rfl (Zl 2 rfl (tk rfl (PE.slLo Z18 rfl rfl (by omega) (by omega)) rfl ?_))
 refine ZiR (Za (xs.drop i)) rfl Z18 rfl rfl (by rw [Z6,List.length_drop,show xs.length+1-(i+1)=xs.length-i from by omega];simp) (Z8p (l:=Za xs++junk) (e2:=3) (fun j v h=>by
   have h1:=(List.getElem?_eq_some_iff.1 h).1
   rw [Z6,List.length_drop] at h1
   rw [show 0+i*1+j=i+j from by omega,List.getElem?_append_left (by rw [Z6];omega)]
   simpa [Za] using h)) (ZA _) (by rw [ZbC (by simp only [List.length_append,Z6,List.length_take,Z16,List.length_singleton,List.length_drop];omega)];simp only [List.length_append,Z6,List.length_take,Z16,List.length_singleton,List.length_drop];omega) rfl ?_
 refine bgT (sqt 2 rfl ?_)
 rw [ZfP hin (by rw [Z16])]
 refine pur 2 rfl (Z4 ?_)
 obtain ⟨ys,hys⟩:∃ ys,ys=xs.take i++x::xs.drop i:=⟨_,rfl⟩
 have hyl:ys.length=xs.length+1:=by rw [hys];simp;omega
 rw [← hys]
 have hyi:(irows ys).length=xs.length+1:=by rw [List.length_map,hyl]
 exact rtA rfl rfl rfl ⟨(⟨.slice (some ⟨b2,0,none⟩) (irows ys).length cap2,[(b2,cel 3 ((irows ys).flatten++jk2))],Z8s _,.inr ⟨b2,cap2,jk2,rfl,rfl,by rw [hyi];first | omega | (rw [List.length_drop];omega),by rw [hyi];omega,hc2⟩⟩:OSl 3 1 (irows ys)).cast (by rw [hys]),congrArg (fun q=>Value.slice (some ⟨b2,0,none⟩) q cap2) hyi.symm,rfl,rfl⟩ (fun w h=>by
   show St ((b2,cel 3 ((irows ys).flatten++jk2))::H) R w
   rw [Z0m]
   exact ((h.del bv).del b))
 refine Z1 (sqt 6 rfl (pur 3 rfl (sp rfl (PE.add rfl rfl (by omega)) rfl ?_)))
 rw [show (xs.length:Int)+((1:Nat):Int)=((xs.length+1:Nat):Int) from by omega]
 refine sp rfl (PE.slHi Z18 rfl rfl (by omega)) rfl (pur 1 rfl (Z0 (sqt 8 rfl (pur 4 rfl (sp rfl (PE.add rfl rfl (by omega)) rfl ?_)))))
 rw [show (i:Int)+((1:Nat):Int)=((i+1:Nat):Int) from by omega]
 refine sp rfl (PE.slLo Z18 rfl rfl (by omega) (by omega)) rfl ?_
 refine clX rfl rfl rfl (fun w hs=>ZfJ (xa:=[.int .i64 x]) (xb:=Za xs++junk) (eA:=3) (eB:=3) (tS:=23) (tR:=4) Tryz.func146 (by kernel_rfl) (by kernel_rfl) (by kernel_rfl) (by kernel_rfl) Z18 (fun e9=>?_) (by simp [Za];intro e9 _;rw [e9] at hin;simp at hin) (hs.held (bv,_) (by simp)) (hs.held (b,_) (by simp))) ?_
 · subst e9
   have:=hs.nd
   simp at this
 refine pur 1 rfl ?_
 refine Zt (rfl) ?_
 refine Z0 ?_
 refine Zb [0,0,0,6,15,0,0,96,255] (tks 0 8 (.big 8 .done)) Zo (by kernel_rfl) ?_
 refine Zl 3 rfl (tk rfl (PE.add rfl rfl (by omega)) rfl ?_)
 rw [show (i:Int)+((1:Nat):Int)=((i+1:Nat):Int) from by omega]
 refine tk rfl (PE.slLo Z18 rfl rfl (by omega) (by omega)) rfl (Zl 2 rfl (tk rfl (PE.slLo Z18 rfl rfl (by omega) (by omega)) rfl ?_))
 refine ZiR (Za (xs.drop i)) rfl Z18 rfl rfl (by rw [Z6,List.length_drop,show xs.length+1-(i+1)=xs.length-i from by omega,show Nat.min (xs.length+1-i) (xs.length-i)=xs.length-i from Nat.min_eq_right (by omega)];omega) (Z8p (l:=Za xs++junk) (e2:=3) (fun j v h=>by
   have h1:=(List.getElem?_eq_some_iff.1 h).1
   rw [Z6,List.length_drop] at h1
   rw [show 0+i*1+j=i+j from by omega,List.getElem?_append_left (by rw [Z6];omega)]
   simpa [Za] using h)) (ZA _) (by simp only [List.length_append,Z6,List.length_drop];omega) rfl ?_
 refine bgT (sqt 5 rfl (pur 2 rfl (sp rfl (PE.slLo Z18 rfl rfl (by omega) (by omega)) rfl (pur 1 rfl ?_))))
 refine ZiR [.int .i64 x] rfl Z18 rfl rfl (by show 1=Nat.min 1 (xs.length+1-i)*1;rw [show Nat.min 1 (xs.length+1-i)=1 from Nat.min_eq_left (by omega)]) (Z8p (l:=[.int .i64 x]) (e2:=3) (fun j v h=>by simpa using h)) rfl (by rw [ZbC (by simp only [List.length_append,Z6,List.length_singleton,List.length_drop];omega)];simp only [List.length_append,Z6,List.length_singleton,List.length_drop];omega) rfl ?_
 refine sqt 2 rfl ?_
 rw [ZfO hin (by omega)]
 refine pur 2 rfl (Z4 ?_)
 obtain ⟨ys,hys⟩:∃ ys,ys=xs.take i++x::xs.drop i:=⟨_,rfl⟩
 have hyl:ys.length=xs.length+1:=by rw [hys];simp;omega
 rw [← hys]
 have hyi:(irows ys).length=xs.length+1:=by rw [List.length_map,hyl]
 exact rtA rfl rfl rfl ⟨(⟨.slice (some ⟨b,0,none⟩) (irows ys).length cap,[(b,cel 3 ((irows ys).flatten++junk.drop 1))],Z8s _,.inr ⟨b,cap,junk.drop 1,rfl,rfl,by rw [hyi];first | omega | (rw [List.length_drop];omega),by rw [hyi];omega,hmx⟩⟩:OSl 3 1 (irows ys)).cast (by rw [hys]),congrArg (fun q=>Value.slice (some ⟨b,0,none⟩) q cap) hyi.symm,rfl,rfl⟩ (fun w h=>by
   show St ((b,cel 3 ((irows ys).flatten++junk.drop 1))::H) R w
   rw [Z0m]
   exact h.del bv)
theorem c_Shuffle (l0:List Int) (a0:Option Addr) (c0 bk:Nat) (hgl:l0.length≤9223372036854775807) (tq mx:Int) (htq:0≤tq∧tq≤100000) (hmx:0≤mx∧mx≤4294967295) (n:Nat) (hn:n≤1000) (H:Z8) (R:Z5) [hG:MemRows a0 1 (urows l0) R] :
    Fn Tryz.prog 29 [.pointer (some ⟨bk,0,none⟩),.int .i64 n] ((bk,cel 111 [.slice a0 l0.length c0,.int .i64 (tq),.int .u32 (mx)])::H) R (fun v H' R'=>∃ (p:List Nat) (o:OSl 3 1 (irows (p.map fun (j:Nat)=>(j:Int)))) (tq' mx':Int),Ord p n∧v=o.fs∧(tq≤tq'∧tq'≤tq+n)∧(0≤mx'∧mx'≤4294967295)∧H'=(bk,cel 111 [.slice a0 l0.length c0,.int .i64 (tq'),.int .u32 (mx')])::(o.G++H)∧R'=R):=by
 refine Ze Tryz.func29 rfl Tryz.ntmps29 rfl ?_
 refine sqt 1 rfl (pur 1 rfl (sqt 1 rfl (pur 1 rfl (Z0 (sqt 2 rfl (pur 2 rfl (Z3 ?_)))))))
 refine Zd (ι:=(x:{x:Nat×List Nat×Int×Int // x.1≤n∧Ord x.2.1 x.1∧(tq≤x.2.2.1∧x.2.2.1≤tq+x.1)∧(0≤x.2.2.2∧x.2.2.2≤4294967295)})×OSl 3 1 (irows (x.1.2.1.map fun (j:Nat)=>(j:Int)))) (fun x=>⟨[(0,.pointer (some ⟨bk,0,none⟩)),(5,x.2.fs),(7,.int .i64 n),(8,.int .i64 x.1.1.1)],(bk,cel 111 [.slice a0 l0.length c0,.int .i64 (x.1.1.2.2.1),.int .u32 (x.1.1.2.2.2)])::(x.2.G++H),R⟩) (fun x=>n-x.1.1.1) ⟨⟨(0,[],tq,mx),by omega,Ord.nil,by dsimp only;omega,by assumption⟩,OSl.nil _ _⟩ ?_ (fun x=>?_)
 exact Zj idH
 obtain ⟨⟨⟨k,p,tq2,mx2⟩,hk,hp,htq2,hmx2⟩,o⟩:=x
 dsimp only at hk hp htq2 hmx2 o ⊢
 have hpl:=hp.len
 refine sqt 1 rfl (pur 1 rfl (Z0 ?_))
 refine Z2 rfl ?_ ?_<;>intro hc0<;>try simp only [cS] at hc0
 refine Z1 (Z0 (Z3 (sqt 2 rfl (pur 2 rfl (sqr 9 rfl (pur 3 rfl (sp rfl (PE.add rfl rfl (by omega)) rfl ?_)))))))
 refine cl rfl Z30 rfl rfl (c_Below l0 a0 c0 bk hgl _ _ (by omega) (by assumption) ((k:Int)+1) _ _) ?_
 rintro _ _ R1 ⟨x15,m15,hx15,rfl,hm15,rfl,hR1⟩
 obtain rfl:=hR1.symm
 obtain ⟨j,hj⟩:∃ j:Nat,x15=j:=⟨x15.toNat,by omega⟩
 rw [hj]
 have hjk:j≤k:=by omega
 refine pur 1 rfl ?_
 refine bsl (out:=[_]) rfl Z18 zl3 rfl rfl rfl rfl rfl rfl (fun b17=>?_)
 refine Sy.heap (H':=(b17,cel 3 [.int .i64 (k:Int)])::(o.G++((bk,cel 111 [.slice a0 l0.length c0,.int .i64 (tq2+1),.int .u32 (m15)])::H))) (fun w h=>h.perm (List.Perm.cons _ List.perm_middle.symm)) ?_
 refine cl rfl ZjB rfl rfl (Zch (p.map fun (j:Nat)=>(j:Int)) o j (by simp [hpl];omega) (by simp [hpl];omega) (k:Int) b17 _ _) ?_
 rintro _ _ R1 ⟨o18,rfl,rfl,hR1⟩
 obtain rfl:=hR1.symm
 clear hR1
 refine pur 1 rfl (sqr 2 rfl (sp rfl (PE.add rfl rfl (by omega)) rfl (pur 1 rfl ?_)))
 exact Zc ⟨⟨(k+1,p.take j++k::p.drop j,tq2+1,m15),by omega,hp.ins hjk,by dsimp only;omega,by assumption⟩,o18.cast (by simp [irows,List.map_take,List.map_drop])⟩ (fun w h=>h.perm List.perm_middle)
 obtain rfl:k=n:=by omega
 refine Z7 (Z9 (Z9 (Zk (sqt 2 rfl (pur 2 rfl (Z4 ?_))))))
 exact rtA rfl rfl rfl ⟨p,o,tq2,mx2,hp,rfl,by omega,by assumption,rfl,rfl⟩ idH
structure InsI (l xs:List Int) (i j:Nat):Prop where
 perm:xs.Perm l
 le:j≤i
 at_:∀ p q,p<q→q≤i→q≠j→nn xs p≤nn xs q
structure SrtI (l xs:List Int) (i:Nat):Prop where
 perm:xs.Perm l
 at_:∀ p q,p<q→q<i→nn xs p≤nn xs q
theorem SrtI.start (l:List Int):SrtI l l 1:=⟨.refl _,fun p q h1 h2=>by omega⟩
theorem SrtI.ins {l xs:List Int} {i:Nat} (h:SrtI l xs i):InsI l xs i i:=⟨h.perm,Nat.le_refl _,fun p q h1 h2 h3=>h.at_ p q h1 (by omega)⟩
theorem InsI.done {l xs:List Int} {i j:Nat} (h:InsI l xs i j) (hj:j=0∨nn xs (j-1)≤nn xs j):SrtI l xs (i+1):=⟨h.perm,fun p q h1 h2=>by
 by_cases hq:q=j
 · subst hq
   have h3:nn xs (q-1)≤nn xs q:=hj.resolve_left (by omega)
   by_cases hp:p=q-1
   · subst hp;exact h3
   · have:=h.at_ p (q-1) (by omega) (by omega) (by omega);omega
 · exact h.at_ p q h1 (by omega) hq⟩
theorem Zih {xs:List Int} {k:Nat} (h:k<xs.length):nn xs k=xs[k]:=by unfold nn;rw [List.getD_eq_getElem?_getD,List.getElem?_eq_getElem h];rfl
theorem InsI.swap {l xs:List Int} {i j:Nat} (h:InsI l xs i j) (hj:0<j) (hi:i<xs.length) (hlt:nn xs j<nn xs (j-1)):InsI l ((xs.set j (nn xs (j-1))).set (j-1) (nn xs j)) i (j-1):=by
 have hle:=h.le
 have hv:∀ q,nn ((xs.set j (nn xs (j-1))).set (j-1) (nn xs j)) q=if q=j-1 then nn xs j else if q=j then nn xs (j-1) else nn xs q:=fun q=>by
   rw [Ze8 (by rw [List.length_set];omega),Ze8 (by omega)]
   by_cases h1:q=j-1
   · subst h1;simp
   · have e1:(j-1 == q)=false:=by simp;omega
     rw [e1,if_neg h1]
     by_cases h2:q=j
     · subst h2;simp
     · have e2:(j == q)=false:=by simp;omega
       rw [e2,if_neg h2];rfl
 refine ⟨?_,by omega,fun p q h1 h2 h3=>?_⟩
 · have e := @List.set_set_perm Int xs j (j-1) (by omega) (by omega)
   rw [Zih (k:=j-1) (by omega),Zih (k:=j) (by omega)]
   exact e.trans h.perm
 · rw [hv p,hv q]
   have A:=h.at_ p q h1 h2
   have B:=h.at_ p (j-1)
   have C:=h.at_ j q
   have E:=h.at_ (j-1) q
   rw [if_neg h3]
   by_cases hq:q=j
   · rw [if_pos hq]
     split
     · omega
     · rw [if_neg (by omega)];exact B (by omega) (by omega) (by omega)
   · rw [if_neg hq]
     split
     · exact C (by omega) h2 hq
     · split
       · exact E (by omega) h2 hq
       · exact A hq
structure RiseI (n c:Nat) (rs:List Int):Prop where
 len:rs.length=6
 le:n≤c∧c≤6∧n≤2
 zero:∀ j,j<6→j<n∨c≤j→na rs j=0
 rise:∀ j,n≤j→j<c→6≤na rs j∧na rs j≤20
 up:∀ j,n≤j→j+1<c→na rs j≤na rs (j+1)
theorem RiseI.start {n:Nat} (h:n≤2):RiseI n n [0,0,0,0,0,0]:=⟨rfl,⟨by omega,by omega,h⟩,fun j hj _=>by
 match j,hj with
 | 0,_ | 1,_ | 2,_ | 3,_ | 4,_ | 5,_=>rfl,fun j h1 h2=>by omega,fun j h1 h2=>by omega⟩
theorem RiseI.more {n c:Nat} {rs:List Int} {v:Int} (h:RiseI n c rs) (hc:c<6) (hv:6≤v∧v≤20) (hu:n<c→na rs (c-1)≤v):RiseI n (c+1) (rs.set c v):=by
 have hle:=h.le
 have hat:∀ j,na (rs.set c v) j=if c=j then v else na rs j:=fun j=>Z12 (by rw [h.len];omega)
 refine ⟨by rw [List.length_set];exact h.len,⟨by omega,by omega,hle.2.2⟩,fun j hj h1=>?_,fun j h1 h2=>?_,fun j h1 h2=>?_⟩
 · rw [hat,if_neg (by omega)];exact h.zero j hj (by omega)
 · rw [hat]
   split
   · exact hv
   · exact h.rise j h1 (by omega)
 · rw [hat,hat,if_neg (show ¬ c=j by omega)]
   split
   · rename_i e
     have:=hu (by omega)
     rw [show c-1=j by omega] at this
     exact this
   · exact h.up j h1 (by omega)
structure BinH (x:HBin):Prop where
 mark:18≤x.mark∧x.mark≤60
 warm:0≤x.warm∧x.warm≤x.mark
 lo:0≤x.lo∧x.lo≤5
 hi:x.lo≤x.hi∧x.hi≤5
structure MadeH (b:Barn) (nb ng:Int):Prop where
 ok:b.ok
 check:b.check=0
 nb:(b.bins.length:Int)≤nb
 ng:b.gangs≤ng
 bins:∀ x∈b.bins,BinH x
theorem Ze1 {l:List Int} (h:l.length=6):∃ a b c d e f,l=[a,b,c,d,e,f]:=by
 match l,h with
 | [a,b,c,d,e,f],_=>exact ⟨a,b,c,d,e,f,rfl⟩
theorem Zfu {n:Nat} {rs:List Int} {bl:List HBin} {cool gangs nb ng:Int} (hr:RiseI n 6 rs) (hb:∀ x∈bl,BinH x) (hl:1≤bl.length∧bl.length≤4) (hnb:(bl.length:Int)≤nb) (hc:0≤cool∧cool≤60) (hg:0≤gangs∧gangs≤3) (hng:gangs≤ng):MadeH ⟨cool,gangs,rs,bl⟩ nb ng:=by
 have hok:Barn.ok ⟨cool,gangs,rs,bl⟩:=by
   refine ⟨hr.len,hl,hc,⟨hg.1,by show gangs≤4;omega⟩,fun v hv=>?_,fun x hx=>?_,?_,fun x hx=>(hb x hx).hi.1⟩
   · obtain ⟨j,hj⟩:=List.getElem?_of_mem hv
     have hj6:=(List.getElem?_eq_some_iff.1 hj).1
     have hv2:na rs j=v:=by unfold na;rw [List.getD_eq_getElem?_getD,hj];rfl
     have hlen:=hr.len
     have hj6:j<6:=by have:(Barn.mk cool gangs rs bl).rise.length=6:=hlen;omega
     rcases Nat.lt_or_ge j n with h1 | h1
     · left;rw [← hv2];exact hr.zero j hj6 (.inl h1)
     · right;rw [← hv2];exact hr.rise j h1 hj6
   · have h1:=hb x hx
     exact ⟨⟨by have:=h1.mark;omega,h1.mark.2⟩,h1.warm,h1.lo,by have:=h1.lo;have:=h1.hi;omega⟩
   · have key:∀ j,j+1<6→na rs j≤na rs (j+1):=fun j hj=>by
       rcases Nat.lt_or_ge j n with h1 | h1
       · rw [hr.zero j (by omega) (.inl h1)]
         rcases Nat.lt_or_ge (j+1) n with h2 | h2
         · rw [hr.zero (j+1) hj (.inl h2)];exact Int.le_refl _
         · have:=hr.rise (j+1) h2 hj;omega
       · exact hr.up j h1 hj
     show srt rs=true
     have k0:=key 0 (by omega);have k1:=key 1 (by omega);have k2:=key 2 (by omega);have k3:=key 3 (by omega);have k4:=key 4 (by omega)
     obtain ⟨a,b,c,d,e,f,rfl⟩:=Ze1 hr.len
     simp only [na,List.getD_cons_zero,List.getD_cons_succ] at k0 k1 k2 k3 k4
     simp [srt,k0,k1,k2,k3,k4]
 exact ⟨hok,Z83 hok hg.2,hnb,hng,hb⟩
theorem ZeG {c g:Int} {rs:List Int} {bl:List HBin} {sl:Value} {k:Nat} (hk:k<6):(btl ⟨c,g,rs,bl⟩ sl)[0+2+((k:Nat):Int).toNat*1]?=some (.int .i64 (na rs k)):=by
 match k,hk with
 | 0,_ | 1,_ | 2,_ | 3,_ | 4,_ | 5,_=>rfl
theorem Z57 {c g:Int} {rs:List Int} {bl:List HBin} {sl:Value} {k:Nat} (hk:k<6) (hr:rs.length=6) (v:Int):spl (btl ⟨c,g,rs,bl⟩ sl) (0+2+((k:Nat):Int).toNat*1) [.int .i64 v]=btl ⟨c,g,rs.set k v,bl⟩ sl:=by
 obtain ⟨a,b,c,d,e,f,rfl⟩:=Ze1 hr
 match k,hk with
 | 0,_ | 1,_ | 2,_ | 3,_ | 4,_ | 5,_=>rfl
theorem c_MadeO (g:List Int) (ag:Option Addr) (cg bk:Nat) (hgl:g.length≤9223372036854775807) (tq mx:Int) (htq:0≤tq∧tq≤1000000) (hmx:0≤mx∧mx≤4294967295) (nb ng:Int) (hnb:1≤nb∧nb≤4) (hng:0≤ng∧ng≤3) (H:Z8) (R:Z5) [hG:MemRows ag 1 (urows g) R] :
    Fn Tryz.prog 8 [.pointer (some ⟨bk,0,none⟩),.int .i64 nb,.int .i64 ng] ((bk,cel 111 [.slice ag g.length cg,.int .i64 (tq),.int .u32 (mx)])::H) R (fun v H' R'=>∃ (b:Barn) (o:OSl 39 4 (brows b.bins)) (tq' mx':Int),MadeH b nb ng∧v=b.v o.fs∧(tq≤tq'∧tq'≤tq+40)∧(0≤mx'∧mx'≤4294967295) ∧
      H'=(bk,cel 111 [.slice ag g.length cg,.int .i64 (tq'),.int .u32 (mx')])::(o.G++H)∧R'=R):=by
 refine Ze Tryz.func8 rfl Tryz.ntmps8 rfl ?_
 refine sqt 1 rfl (alc rfl Zg3 rfl (fun b6=>sqt 8 rfl (pur 1 rfl ?_)))
 refine ZG bk ?_
 refine cl rfl Z30 rfl rfl (c_Below g ag cg bk hgl _ _ (by omega) (by assumption) (30) _ _) ?_
 rintro _ _ R1 ⟨x13,m13,hx13,rfl,hm13,rfl,hR1⟩
 obtain rfl:=hR1.symm
 refine pur 2 rfl ?_
 refine cl rfl Z4B rfl rfl (c_Among g ag cg bk hgl _ _ (by omega) (by assumption) (0) (ng) (by first | omega | (dsimp only;omega)) _ _) ?_
 rintro _ _ R1 ⟨x16,m16,hx16,rfl,hm16,rfl,hR1⟩
 obtain rfl:=hR1.symm
 refine sp rfl (PE.build (out:=btl ⟨x13,x16,[0,0,0,0,0,0],[]⟩ (.slice none 0 0)) Zkx Zg3 rfl rfl) rfl (alc rfl Zg3 rfl (fun b7=>?_))
 refine sto rfl rfl rfl ZhM rfl rfl rfl rfl ?_
 refine sqt 3 rfl (pur 1 rfl ?_)
 refine ZG bk ?_
 refine cl rfl Z4B rfl rfl (c_Among g ag cg bk hgl _ _ (by omega) (by assumption) (0) (2) (by first | omega | (dsimp only;omega)) _ _) ?_
 rintro _ _ R1 ⟨x19,m19,hx19,rfl,hm19,rfl,hR1⟩
 obtain rfl:=hR1.symm
 refine pur 1 rfl (Z0 (sqt 2 rfl (pur 2 rfl (Z3 ?_))))
 obtain ⟨n,rfl⟩:∃ n:Nat,x19=n:=⟨x19.toNat,by omega⟩
 refine Zd (ι:={x:Nat×List Int×Int×Int // RiseI n x.1 x.2.1∧(tq+3≤x.2.2.1∧x.2.2.1≤tq+3+x.1)∧(0≤x.2.2.2∧x.2.2.2≤4294967295)}) (fun x=>⟨[(0,.pointer (some ⟨bk,0,none⟩)),(1,.int .i64 nb),(6,.pointer (some ⟨b6,0,none⟩)),(7,.pointer (some ⟨b7,0,none⟩)),(8,.int .i64 n),(9,.int .i64 x.1.1)],(bk,cel 111 [.slice ag g.length cg,.int .i64 (x.1.2.2.1),.int .u32 (x.1.2.2.2)])::(b7,cel 33 (btl ⟨x13,x16,x.1.2.1,[]⟩ (.slice none 0 0)))::(b6,cel 33 (btl ZiI (.slice none 0 0)))::H,R⟩) (fun x=>6-x.1.1) ⟨(n,[0,0,0,0,0,0],tq+1+1+1,m19),RiseI.start (by omega),by dsimp only;omega,by assumption⟩ ?_ (fun x=>?_)
 exact Zj idH
 obtain ⟨⟨c,rs,tq2,mx2⟩,hri,htq2,hmx2⟩:=x
 dsimp only at hri htq2 hmx2 ⊢
 have hle:=hri.le
 have hrl:=hri.len
 refine Z0 (sqt 2 rfl (pur 2 rfl ?_))
 refine Z2 rfl ?_ ?_<;>intro hc0<;>try simp only [cS] at hc0
 refine Z1 (Z0 (Z3 (sqt 1 rfl (pur 1 rfl (Z0 (sqt 3 rfl (pur 3 rfl ?_)))))))
 refine Z2 rfl ?_ ?_<;>intro hc1<;>try simp only [cS] at hc1
 have hrp:=hri.rise (c-1) (by omega) (by omega)
 refine sqr 6 rfl (pur 1 rfl (sp rfl (PE.sub rfl rfl (by omega)) rfl ?_))
 rw [show (c:Int)-1=((c-1:Nat):Int) by omega]
 refine sp rfl (PE.fA Z3k rfl) rfl (sp rfl (PE.indexArr Zcb rfl rfl (by omega) (by omega)) rfl (spL rfl rfl (lh sc3 rfl (ZeG (by omega))) rfl (pur 1 rfl (sqr 9 rfl (pur 3 rfl ?_)))))
 refine ZG bk ?_
 refine cl rfl Z30 rfl rfl (c_Below g ag cg bk hgl _ _ (by omega) (by assumption) (4) _ _) ?_
 rintro _ _ R1 ⟨x36,m36,hx36,rfl,hm36,rfl,hR1⟩
 obtain rfl:=hR1.symm
 refine sp rfl (PE.add rfl rfl (by omega)) rfl (sp rfl (PE.min rfl rfl) rfl (sp rfl (PE.fA Z3k rfl) rfl (sp rfl (PE.indexArr Zcb rfl rfl (by omega) (by omega)) rfl ?_)))
 first | refine ZH (l':=btl ⟨x13,x16,rs.set c (min 20 (na rs (c-1)+x36)),[]⟩ (.slice none 0 0)) rfl rfl rfl cn3 rfl rfl rfl (Z57 (by omega) hrl _) (by show 0+2+((c:Nat):Int).toNat*1+1≤9;omega) ?_ | refine ZH (l':=btl ⟨x13,x16,rs.set c (min 20 (6+x36)),[]⟩ (.slice none 0 0)) rfl rfl rfl cn3 rfl rfl rfl (Z57 (by omega) hrl _) (by show 0+2+((c:Nat):Int).toNat*1+1≤9;omega) ?_
 refine sqr 3 rfl (pur 1 rfl (sp rfl (PE.add rfl rfl (by omega)) rfl (pur 1 rfl ?_)))
 first | exact Zf ⟨(c+1,rs.set c (min 20 (na rs (c-1)+x36)),tq2+1,m36),hri.more (by omega) (by omega) (fun _=>by omega),by dsimp only;omega,by assumption⟩ (by dsimp only;omega) idH | exact Zf ⟨(c+1,rs.set c (min 20 (6+x36)),tq2+1,m36),hri.more (by omega) (by omega) (fun h=>by omega),by dsimp only;omega,by assumption⟩ (by dsimp only;omega) idH
 refine Z1 (sqr 9 rfl (pur 3 rfl ?_))
 refine ZG bk ?_
 refine cl rfl Z30 rfl rfl (c_Below g ag cg bk hgl _ _ (by omega) (by assumption) (4) _ _) ?_
 rintro _ _ R1 ⟨x36,m36,hx36,rfl,hm36,rfl,hR1⟩
 obtain rfl:=hR1.symm
 refine sp rfl (PE.add rfl rfl (by omega)) rfl (sp rfl (PE.min rfl rfl) rfl (sp rfl (PE.fA Z3k rfl) rfl (sp rfl (PE.indexArr Zcb rfl rfl (by omega) (by omega)) rfl ?_)))
 first | refine ZH (l':=btl ⟨x13,x16,rs.set c (min 20 (na rs (c-1)+x36)),[]⟩ (.slice none 0 0)) rfl rfl rfl cn3 rfl rfl rfl (Z57 (by omega) hrl _) (by show 0+2+((c:Nat):Int).toNat*1+1≤9;omega) ?_ | refine ZH (l':=btl ⟨x13,x16,rs.set c (min 20 (6+x36)),[]⟩ (.slice none 0 0)) rfl rfl rfl cn3 rfl rfl rfl (Z57 (by omega) hrl _) (by show 0+2+((c:Nat):Int).toNat*1+1≤9;omega) ?_
 refine sqr 3 rfl (pur 1 rfl (sp rfl (PE.add rfl rfl (by omega)) rfl (pur 1 rfl ?_)))
 first | exact Zf ⟨(c+1,rs.set c (min 20 (na rs (c-1)+x36)),tq2+1,m36),hri.more (by omega) (by omega) (fun _=>by omega),by dsimp only;omega,by assumption⟩ (by dsimp only;omega) idH | exact Zf ⟨(c+1,rs.set c (min 20 (6+x36)),tq2+1,m36),hri.more (by omega) (by omega) (fun h=>by omega),by dsimp only;omega,by assumption⟩ (by dsimp only;omega) idH
 obtain rfl:c=6:=by omega
 refine Z7 (Z9 (Z9 (Zk (Z0 (sqt 4 rfl (pur 2 rfl ?_))))))
 refine cl rfl Z4B rfl rfl (c_Among g ag cg bk hgl _ _ (by omega) (by assumption) (1) (nb) (by first | omega | (dsimp only;omega)) _ _) ?_
 rintro _ _ R1 ⟨x43,m43,hx43,rfl,hm43,rfl,hR1⟩
 obtain rfl:=hR1.symm
 refine pur 1 rfl (Z3 ?_)
 obtain ⟨n43,rfl⟩:∃ n:Nat,x43=n:=⟨x43.toNat,by omega⟩
 refine Zd (ι:=(x:{x:Nat×List HBin×Int×Int // x.1≤n43∧x.2.1.length=x.1∧(∀ y∈x.2.1,BinH y)∧(tq≤x.2.2.1∧x.2.2.1≤tq+10+4*x.1)∧(0≤x.2.2.2∧x.2.2.2≤4294967295)})×OSl 39 4 (brows x.1.2.1)) (fun x=>⟨[(0,.pointer (some ⟨bk,0,none⟩)),(1,.int .i64 nb),(6,.pointer (some ⟨b6,0,none⟩)),(7,.pointer (some ⟨b7,0,none⟩)),(8,.int .i64 n),(43,.int .i64 n43),(44,.int .i64 x.1.1.1)],(bk,cel 111 [.slice ag g.length cg,.int .i64 (x.1.1.2.2.1),.int .u32 (x.1.1.2.2.2)])::(x.2.G++(b7,cel 33 (btl ⟨x13,x16,rs,x.1.1.2.1⟩ x.2.fs))::(b6,cel 33 (btl ZiI (.slice none 0 0)))::H),R⟩) (fun x=>n43-x.1.1.1) ⟨⟨(0,[],tq2+1,m43),Nat.zero_le _,rfl,by simp,by dsimp only;omega,by assumption⟩,OSl.nil _ _⟩ ?_ (fun x=>?_)
 exact Zj idH
 obtain ⟨⟨⟨i,bl,tq3,mx3⟩,hi,hbl,hbh,htq3,hmx3⟩,o⟩:=x
 dsimp only at hi hbl hbh htq3 hmx3 o ⊢
 refine sqt 1 rfl (pur 1 rfl (Z0 ?_))
 refine Z2 rfl ?_ ?_<;>intro hc2<;>try simp only [cS] at hc2
 refine Z1 (Z0 (Z3 (sqt 8 rfl (pur 1 rfl ?_))))
 refine cl rfl Z4B rfl rfl (c_Among g ag cg bk hgl _ _ (by omega) (by assumption) (18) (60) (by first | omega | (dsimp only;omega)) _ _) ?_
 rintro _ _ R1 ⟨x47,m47,hx47,rfl,hm47,rfl,hR1⟩
 obtain rfl:=hR1.symm
 refine pur 1 rfl ?_
 refine cl rfl Z30 rfl rfl (c_Below g ag cg bk hgl _ _ (by omega) (by assumption) (6) _ _) ?_
 rintro _ _ R1 ⟨x49,m49,hx49,rfl,hm49,rfl,hR1⟩
 obtain rfl:=hR1.symm
 refine sp rfl (PE.build (out:=[_,_]) ZiW Zj0 rfl rfl) rfl (sp rfl (PE.build (out:=[_,_,_,_]) ZiX Z9q rfl rfl) rfl (alc rfl Z9q rfl (fun b11=>?_)))
 refine sto rfl rfl rfl Zg6 rfl rfl rfl rfl ?_
 refine Z0 ?_
 refine Zb [0,0,2,6,14,31,0,0,128,384,0,1024,3072,7168,15360,32767,8127,131071,262143,524287,1048575] (.tk 0 (.tk 1 (.ld 2 (.tk 3 (.tk 4 (tks 6 3 (.ld 9 (.tk 10 (.tk 11 (.ld 12 (.tk 13 (.tk 14 (.big 5 (.tk 16 (.big 15 (.big 17 (.tk 18 (.tk 19 (.big 20 .done))))))))))))))))))) Zo (by kernel_rfl) ?_
 refine Zl 1 rfl (tk rfl (PE.fA Z3l rfl) rfl (ld rfl rfl (lh sc3 rfl rfl) rfl (tk rfl (PE.min rfl rfl) rfl (tk rfl (PE.add rfl rfl (by omega)) rfl (Zl 1 rfl (tk rfl (PE.fA Z21 rfl) rfl (tk rfl (PE.fA Z8k rfl) rfl (ld rfl rfl (lh sc3 rfl rfl) rfl (tk rfl (PE.fA Z21 rfl) rfl (tk rfl (PE.fA Z8k rfl) rfl (ld rfl rfl (lh sc3 rfl rfl) rfl (tk rfl (PE.add rfl rfl (by omega)) rfl (tk rfl (PE.min rfl rfl) rfl ?_)))))))))))))
 refine ZG bk ?_
 refine cl rfl Z30 rfl rfl (c_Below g ag cg bk hgl _ _ (by omega) (by assumption) (min x47 30+1) _ _) ?_
 rintro _ _ R1 ⟨x57,m57,hx57,rfl,hm57,rfl,hR1⟩
 obtain rfl:=hR1.symm
 refine bg (fun w hs=>⟨(lh sc3 rfl rfl) w hs,(lh sc3 rfl rfl) w hs,trivial,trivial⟩) ?_
 refine tk rfl (PE.fA Z4Q rfl) rfl ?_
 refine ZG bk ?_
 refine cl rfl Z4B rfl rfl (c_Among g ag cg bk hgl _ _ (by omega) (by assumption) (x49) (min 5 (x49+2)) (by first | omega | (dsimp only;omega)) _ _) ?_
 rintro _ _ R1 ⟨x67,m67,hx67,rfl,hm67,rfl,hR1⟩
 obtain rfl:=hR1.symm
 refine bgT ?_
 refine sto rfl rfl rfl cn3 rfl rfl rfl rfl ?_
 refine bgT (tk rfl (PE.fA Z21 rfl) rfl (tk rfl (PE.fA Z4P rfl) rfl ?_))
 refine sto rfl rfl rfl cn3 rfl rfl rfl rfl ?_
 refine bgT (sqr 7 rfl (sp rfl (PE.fA ZJ rfl) rfl (spL rfl rfl (lh Z2X rfl rfl) rfl (spL rfl rfl (lhA [.int .i64 x57,.int .i64 x47,.int .i64 x49,.int .i64 x67] Zc5 rfl rfl rfl) rfl ?_))))
 refine bsl (out:=[_,_,_,_]) rfl Zg8 Z9q rfl rfl rfl rfl rfl rfl (fun b74=>?_)
 refine apO (o) rfl Zjc rfl rfl (Z0B (row:=brow ⟨x57,x47,x49,x67⟩) rfl) rfl rfl ((by rw [Z9J];simp only [List.length_singleton];omega)) rfl (fun o75=>?_)
 refine sp rfl (PE.fA ZJ rfl) rfl ?_
 refine ZH (l':=btl ⟨x13,x16,rs,bl++[⟨x57,x47,x49,x67⟩]⟩ o75.fs) rfl rfl rfl ZiP rfl (by rw [o75.cells.1];first | done | rfl) (by rw [o75.cells.1];simp [o75.cells.2]) (by rw [o75.cells.1];first | done | rfl) (by rw [o75.cells.1];first | done | exact Nat.le_of_ble_eq_true rfl) ?_
 refine sqr 2 rfl (sp rfl (PE.add rfl rfl (by omega)) rfl (pur 1 rfl ?_))
 exact Zx ⟨⟨(i+1,bl++[⟨x57,x47,x49,x67⟩],tq3+1+1+1+1,m67),by dsimp only;omega,by rw [List.length_append,hbl];rfl,fun y hy=>by
   rcases List.mem_append.1 hy with hy | hy
   · exact hbh y hy
   · rw [List.mem_singleton.1 hy];exact ⟨by dsimp only;omega,by dsimp only;omega,by dsimp only;omega,by dsimp only;omega⟩,by dsimp only;omega,by assumption⟩,o75.cast (by rw [Z9I];rfl)⟩ (by dsimp only;omega) sbA (fun w h=>(h.del b74).del b11)
 obtain rfl:i=n43:=by omega
 have hmade:=Zfu (nb:=nb) (ng:=ng) hri hbh (by omega) (by omega) (show 0≤x13∧x13≤60 by omega) (show 0≤x16∧x16≤3 by omega) (by omega)
 refine Z7 (Z9 (Z9 (Zk (sqt 2 rfl (spL rfl rfl (lhA (btl ⟨x13,x16,rs,bl⟩ o.fs) Z1r rfl rfl rfl) rfl ?_)))))
 refine Z4z (vs:=btl ⟨x13,x16,rs,bl⟩ o.fs) rfl rfl rfl ZhM rfl rfl rfl (by have:=o.cells.2;simp [btl,this,show ∀ s z,(Value.int s z).oneCell'=true from fun _ _=>rfl]) ?_
 refine Z4 ?_
 exact Zg (vs:=[_]) rfl (.cons (RV.cell rfl (lhA (btl ⟨x13,x16,rs,bl⟩ o.fs) Z1r rfl rfl rfl)) .nil) rfl ⟨⟨x13,x16,rs,bl⟩,o,_,_,hmade,rfl,⟨by omega,by omega⟩,by assumption,rfl,rfl⟩ (fun w h=>((h.del b7).del b6))
structure DayI (sp:List Nat) (k:Nat) (l:List Int):Prop where
 nd:l.Nodup
 mem:∀ y∈l,∃ i j:Nat,i<k∧sp[i]?=some j∧y=(j:Int)
theorem DayI.skip {sp:List Nat} {k:Nat} {l:List Int} (h:DayI sp k l):DayI sp (k+1) l:=⟨h.nd,fun y hy=>by obtain ⟨i,j,h1,h2⟩:=h.mem y hy;exact ⟨i,j,by omega,h2⟩⟩
theorem DayI.more {sp:List Nat} {k j:Nat} {l:List Int} (h:DayI sp k l) (hn:sp.Nodup) (hj:sp[k]?=some j):DayI sp (k+1) (l++[(j:Int)]):=by
 refine ⟨List.nodup_append.2 ⟨h.nd,by simp,fun x hx y hy e=>?_⟩,fun y hy=>?_⟩
 · rw [List.mem_singleton] at hy
   obtain ⟨i,j',h1,h2,h3⟩:=h.mem x hx
   have e2:j'=j:=by omega
   subst e2
   have hi:=(List.getElem?_eq_some_iff.1 h2).1
   have:=(List.getElem?_inj hi hn).1 (h2.trans hj.symm)
   omega
 · rcases List.mem_append.1 hy with hy | hy
   · obtain ⟨i,j',h1,h2⟩:=h.mem y hy;exact ⟨i,j',by omega,h2⟩
   · rw [List.mem_singleton.1 hy];exact ⟨k,j,by omega,hj,rfl⟩
structure Cls (b:Barn) (cl:List Int):Prop where
 len:cl.length=b.bins.length
 at_:∀ k x,b.bins[k]?=some x→x.lo≤na cl k∧na cl k≤x.hi
theorem Cls.rise {b:Barn} (hok:b.ok) {cl:List Int} (h:Cls b cl):∀ k<b.bins.length,na b.rise (na cl k).toNat≤b.worst (b.bins.getD k hb0):=fun k hk=>by
 obtain ⟨x,hx⟩:∃ x,b.bins[k]?=some x:=⟨_,List.getElem?_eq_getElem hk⟩
 rw [Z01 hx]
 have h1:=h.at_ k x hx
 have h2:=hok.bins x (List.mem_of_getElem? hx)
 exact Zeh hok.srt (by omega) (by rw [hok.len];omega)
theorem btl_cls {b:Barn} {sl:Value} {c:Int} (h:0≤c∧c≤5):(btl b sl)[0+2+c.toNat*1]?=some (.int .i64 (na b.rise c.toNat)):=by
 obtain ⟨n,rfl⟩:∃ n:Nat,c=n:=⟨c.toNat,by omega⟩
 rw [Int.toNat_natCast]
 have hn:n<6:=by omega
 match n,hn with
 | 0,_ | 1,_ | 2,_ | 3,_ | 4,_ | 5,_=>rfl
theorem c_LongestX (b:Barn) (ab:Option Addr) (cb:Nat) (hl:b.bins.length≤9223372036854775807) (hr:b.rise.length=6) (hck:b.check=0) (H:Z8) (R:Z5) [hB:MemRows ab 4 (brows b.bins) R]:Fn Tryz.prog 12 [b.v (b.sl ab cb)] H R (fun v H' R'=>(∃ m,Kpt b.dsk b.state m∧v = .tuple #[.int .i64 m,.int .i64 0])∧H'=H∧R'=R):=fun w hw=>by
 refine CallsIn.mono (Z69 b ab cb hl hr H R w hw) ?_
 rintro e' w' ⟨u,H',R',⟨h1,h2,h3⟩,he,hs'⟩
 refine ⟨u,H',R',⟨?_,h2,h3⟩,he,hs'⟩
 rcases h1 with ⟨h,_⟩ | ⟨_,m,hm,rfl⟩
 · exact absurd hck h
 · exact ⟨m,hm,rfl⟩
theorem Zin {b:Barn} {p:List (List Int)} (h:b.planned p=0):plQ b p=brnQ b p∧plK b p=!(brnQ b p).2.2∧plU b p=bif (brnQ b p).2.2 then 0 else 6:=by
 unfold plQ plK plU
 rw [decide_eq_true h]
 exact ⟨rfl,rfl,rfl⟩
theorem c_KeepsK (b:Barn) (ab:Option Addr) (cb:Nat) (hl:b.bins.length≤9223372036854775807) (hr:b.rise.length=6) (pl:List PL) (ap:Option Addr) (cp:Nat) (hpl:pl.length≤9223372036854775807) (hpi:∀ x∈pl,x.l.length≤9223372036854775807) (hpo:b.planned (lls pl)=0) (H:Z8) (R:Z5) [hB:MemRows ab 4 (brows b.bins) R] [hP:MemRows ap 1 (plrows pl) R] [hI:MemF (Inn pl) R]:FnV Tryz.prog 11 [b.v (b.sl ab cb),.slice ap pl.length cp] H R (.tuple #[.bool (!(brnQ b (lls pl)).2.2),.int .i64 0]):=by
 have h:=Zci b ab cb hl hr pl ap cp hpl hpi H R
 rw [(Zin hpo).2.1,hpo] at h
 exact h
end Go.Proofs.YtcfdanhklbklkaaGreat.Ht
namespace Go.Proofs.YtcfdanhklbklkaaGreat.Wv
set_option linter.unusedSimpArgs false
set_option linter.unusedVariables false
structure Gp where
 a:Int
 b:Int
 deriving DecidableEq,Repr
structure Sgt where
 week:Int
 bin:Int
 seen:Bool
 deriving DecidableEq,Repr
structure Hse where
 bins:Int
 gaps:List Gp
 sights:List Sgt
 deriving DecidableEq,Repr
def na (l:List Int) (k:Nat):Int:=l.getD k 0
@[reducible] def inB (n lo hi : Int) : Bool := decide (lo ≤ n) && decide (n ≤ hi)
def Hse.check (h:Hse):Int :=
 bif !(inB h.bins 1 7)||decide (10<h.gaps.length)||decide (8<h.sights.length) then 2 else
 bif !(h.sights.all fun s=>inB s.week 0 9) then 3 else
 bif !(h.gaps.all fun g=>inB g.a 0 (h.bins-1)&&inB g.b 0 (h.bins-1))||!(h.sights.all fun s=>inB s.bin 0 (h.bins-1)) then 1 else
 bif !(h.gaps.all fun g=>!decide (g=⟨g.b,g.a⟩)) then 5 else 0
structure Hse.ok (h:Hse):Prop where
 bins:1≤h.bins∧h.bins≤7
 gl:h.gaps.length≤10
 sl:h.sights.length≤8
 gaps:∀ g∈h.gaps,(0≤g.a∧g.a<h.bins)∧(0≤g.b∧g.b<h.bins)∧g.a≠g.b
 sights:∀ s∈h.sights,(0≤s.week∧s.week≤9)∧0≤s.bin∧s.bin<h.bins
theorem gp_swap {g:Gp}:g=⟨g.b,g.a⟩↔g.a=g.b:=by
 cases g with
 | mk a b=>simp only [Gp.mk.injEq];omega
theorem hse_ok {h:Hse}:h.check=0↔h.ok:=by
 unfold Hse.check
 simp only [Bool.cond_eq_ite]
 constructor
 · intro h0
   split at h0<;>try (exact absurd h0 (by decide))
   split at h0<;>try (exact absurd h0 (by decide))
   split at h0<;>try (exact absurd h0 (by decide))
   split at h0<;>try (exact absurd h0 (by decide))
   rename_i h1 h2 h3 h4
   simp only [Bool.not_eq_true',Bool.not_eq_true,Bool.or_eq_true,not_or,Bool.not_eq_false',Bool.not_eq_false,inB,Bool.and_eq_true,decide_eq_true_eq,List.all_eq_true,decide_eq_false_iff_not] at h1 h2 h3 h4
   refine ⟨⟨by omega,by omega⟩,by omega,by omega,fun g hg=>?_,fun s hs=>?_⟩
   · have k1:=h3.1 g hg
     have k2:=h4 g hg
     rw [gp_swap] at k2
     exact ⟨by omega,by omega,k2⟩
   · have k1:=h2 s hs
     have k2:=h3.2 s hs
     exact ⟨by omega,by omega⟩
 · intro h0
   have hb:=h0.bins
   have hg:=h0.gl
   have hs:=h0.sl
   have e1:(!(inB h.bins 1 7)||decide (10<h.gaps.length)||decide (8<h.sights.length))=false:=by
     rw [Bool.or_eq_false_iff,Bool.or_eq_false_iff]
     exact ⟨⟨by simp [inB];omega,by simp;omega⟩,by simp;omega⟩
   have e2:(h.sights.all fun s=>inB s.week 0 9)=true:=List.all_eq_true.2 fun s h1=>by have:=h0.sights s h1;simp [inB];omega
   have e3:(h.gaps.all fun g=>inB g.a 0 (h.bins-1)&&inB g.b 0 (h.bins-1))=true:=List.all_eq_true.2 fun g h1=>by have:=h0.gaps g h1;simp [inB];omega
   have e4:(h.sights.all fun s=>inB s.bin 0 (h.bins-1))=true:=List.all_eq_true.2 fun s h1=>by have:=h0.sights s h1;simp [inB];omega
   have e5:(h.gaps.all fun g=>!decide (g=⟨g.b,g.a⟩))=true:=List.all_eq_true.2 fun g h1=>by
     rw [decide_eq_false (fun e=>(h0.gaps g h1).2.2 (gp_swap.1 e))];rfl
   rw [e1,e2,e3,e4,e5];rfl
def hasI (l:List Int) (v:Int):Bool:=l.any fun x=>decide (v=x)
theorem hasI_iff {l:List Int} {v:Int}:hasI l v=true↔v∈l:=by
 unfold hasI
 rw [List.any_eq_true]
 exact ⟨fun ⟨x,h1,h2⟩=>by rw [of_decide_eq_true h2];exact h1,fun h=>⟨v,h,decide_eq_true rfl⟩⟩
def Z93 (l:List Int) (i:Nat):Bool:=hasI (l.take i) (na l i)
def Z2D (n:Int) (l:List Int):Int:=bif !(l.all fun k=>inB k 0 (n-1)) then 1 else bif (List.range l.length).any (Z93 l) then 5 else 0
def bit (n:Nat) (k:Int):Nat:=n|||2 ^ k.toNat
def msk (l:List Int):Nat:=l.foldl bit 0
theorem Zce (n:Nat) (k:Int) (j:Nat):(bit n k).testBit j=(n.testBit j||decide (k.toNat=j)):=by
 unfold bit;rw [Nat.testBit_or,Nat.testBit_two_pow]
theorem ZcR (l:List Int) (n j:Nat):(l.foldl bit n).testBit j=(n.testBit j||l.any fun k=>decide (k.toNat=j)):=by
 induction l generalizing n with
 | nil=>simp
 | cons k l ih=>rw [List.foldl_cons,ih,Zce,List.any_cons,Bool.or_assoc]
theorem ZcU (l:List Int) (j:Nat):(msk l).testBit j=l.any fun k=>decide (k.toNat=j):=by
 unfold msk;rw [ZcR];simp
theorem ZN {l:List Int} (h:∀ k∈l,0≤k) (j:Nat):(msk l).testBit j=true↔(j:Int)∈l:=by
 rw [ZcU,List.any_eq_true]
 constructor
 · rintro ⟨k,hk,e⟩
   have e:=of_decide_eq_true e
   have:=h k hk
   rwa [show (j:Int)=k by omega]
 · intro hj
   exact ⟨j,hj,by simp⟩
theorem Z0a {m n:Nat} (h:∀ k,m.testBit k=true→k<n):m<2 ^ n:=by
 refine Nat.lt_pow_two_of_testBit m fun i hi=>?_
 cases hb:m.testBit i with
 | false=>rfl
 | true=>have:=h i hb;omega
theorem Z1s {m n:Nat} (h:m<2 ^ n) {k:Nat} (hk:m.testBit k=true):k<n:=by
 rcases Nat.lt_or_ge k n with h1 | h1
 · exact h1
 · rw [Nat.testBit_lt_two_pow (Nat.lt_of_lt_of_le h (Nat.pow_le_pow_right (by decide) h1))] at hk;cases hk
theorem Z0r {m n:Nat} (h:∀ k,m.testBit k=n.testBit k):m=n:=Nat.eq_of_testBit_eq h
def gpo (m:Nat) (g:Gp):Nat:=(bif m.testBit g.a.toNat then 2 ^ g.b.toNat else 0)|||(bif m.testBit g.b.toNat then 2 ^ g.a.toNat else 0)
def ZbE (cl m:Nat):List Gp→Nat→Nat→Nat
 | [],_,acc=>acc
 | g::gs,i,acc=>ZbE cl m gs (i+1) (bif cl.testBit i then acc else acc|||gpo m g)
def spr (gs:List Gp) (cl m:Nat):Nat:=ZbE cl m gs 0 m
def Adj (gs:List Gp) (cl:Nat) (u v:Nat):Prop:=∃ i g,gs[i]?=some g∧cl.testBit i=false∧((g.a.toNat=u∧g.b.toNat=v)∨(g.b.toNat=u∧g.a.toNat=v))
theorem gpo_test {m:Nat} {g:Gp} {v:Nat}:(gpo m g).testBit v=true↔(m.testBit g.a.toNat=true∧g.b.toNat=v)∨(m.testBit g.b.toNat=true∧g.a.toNat=v):=by
 unfold gpo
 rw [Nat.testBit_or,Bool.or_eq_true]
 refine or_congr ?_ ?_
 · cases h:m.testBit g.a.toNat with
   | false=>simp
   | true=>simp [Nat.testBit_two_pow]
 · cases h:m.testBit g.b.toNat with
   | false=>simp
   | true=>simp [Nat.testBit_two_pow]
theorem Z2P {cl m v:Nat}:∀ (gs:List Gp) (i acc:Nat),(ZbE cl m gs i acc).testBit v=true↔acc.testBit v=true∨∃ j g,gs[j]?=some g∧cl.testBit (i+j)=false∧(gpo m g).testBit v=true
 | [],i,acc=>by simp [ZbE]
 | g::gs,i,acc=>by
   unfold ZbE
   rw [Z2P gs (i+1)]
   constructor
   · rintro (h | ⟨j,g',h1,h2,h3⟩)
     · cases hc:cl.testBit i with
       | true=>rw [hc] at h;exact .inl h
       | false =>
         rw [hc,cond_false,Nat.testBit_or,Bool.or_eq_true] at h
         exact h.imp id fun h=>⟨0,g,rfl,by simpa using hc,h⟩
     · exact .inr ⟨j+1,g',by simpa using h1,by rw [show i+(j+1)=i+1+j by omega];exact h2,h3⟩
   · rintro (h | ⟨j,g',h1,h2,h3⟩)
     · left
       cases hc:cl.testBit i with
       | true=>exact h
       | false=>rw [cond_false,Nat.testBit_or,h,Bool.true_or]
     · cases j with
       | zero =>
         left
         rw [List.getElem?_cons_zero,Option.some.injEq] at h1
         subst h1
         rw [Nat.add_zero] at h2
         rw [h2,cond_false,Nat.testBit_or,h3,Bool.or_true]
       | succ j=>exact .inr ⟨j,g',by simpa using h1,by rw [show i+1+j=i+(j+1) by omega];exact h2,h3⟩
theorem spr_test {gs:List Gp} {cl m v:Nat}:(spr gs cl m).testBit v=true↔m.testBit v=true∨∃ u,m.testBit u=true∧Adj gs cl u v:=by
 unfold spr
 rw [Z2P]
 refine or_congr Iff.rfl ?_
 constructor
 · rintro ⟨j,g,h1,h2,h3⟩
   rw [Nat.zero_add] at h2
   rcases gpo_test.1 h3 with ⟨h4,h5⟩ | ⟨h4,h5⟩
   · exact ⟨_,h4,j,g,h1,h2,.inl ⟨rfl,h5⟩⟩
   · exact ⟨_,h4,j,g,h1,h2,.inr ⟨rfl,h5⟩⟩
 · rintro ⟨u,hu,j,g,h1,h2,h3⟩
   refine ⟨j,g,h1,by rw [Nat.zero_add];exact h2,gpo_test.2 ?_⟩
   rcases h3 with ⟨h4,h5⟩ | ⟨h4,h5⟩
   · exact .inl ⟨by rw [h4];exact hu,h5⟩
   · exact .inr ⟨by rw [h4];exact hu,h5⟩
theorem Z0V {gs:List Gp} {cl m v:Nat} (h:m.testBit v=true):(spr gs cl m).testBit v=true:=spr_test.2 (.inl h)
theorem Adj.symm {gs:List Gp} {cl u v:Nat} (h:Adj gs cl u v):Adj gs cl v u:=by
 obtain ⟨i,g,h1,h2,h3⟩:=h
 exact ⟨i,g,h1,h2,h3.elim (fun h=>.inr ⟨h.2,h.1⟩) (fun h=>.inl ⟨h.2,h.1⟩)⟩
def lv (gs:List Gp) (cl m:Nat):Nat→Nat
 | 0=>m
 | t+1=>spr gs cl (lv gs cl m t)
theorem Zfs {gs:List Gp} {cl m:Nat}:∀ {t t':Nat},t≤t'→∀ {v:Nat},(lv gs cl m t).testBit v=true→(lv gs cl m t').testBit v=true
 | t, 0, h, v, hv => by obtain rfl : t = 0 := by omega
                        exact hv
 | t,t'+1,h,v,hv=>by
   rcases Nat.lt_or_ge t' t with h1 | h1
   · obtain rfl:t=t'+1:=by omega
     exact hv
   · exact Z0V (Zfs h1 hv)
theorem Z4c {gs:List Gp} {cl m t:Nat} (h:spr gs cl (lv gs cl m t)=lv gs cl m t):∀ j,lv gs cl m (t+j)=lv gs cl m t
 | 0=>rfl
 | j+1=>by show spr gs cl (lv gs cl m (t+j))=_;rw [Z4c h j,h]
def cnt (n m:Nat):Nat:=(List.range n).countP fun k=>m.testBit k
theorem Z6g (n m:Nat):cnt n m≤n:=by
 unfold cnt;exact Nat.le_trans (List.countP_le_length) (by simp)
theorem Z3Y {α:Type} {p q:α→Bool}:∀ {l:List α},(∀ x∈l,p x=true→q x=true)→(∃ x∈l,q x=true∧p x=false)→l.countP p<l.countP q
 | [],_,h=>by obtain ⟨x,hx,_⟩:=h;cases hx
 | y::l,h,he=>by
   rw [List.countP_cons,List.countP_cons]
   have hm:l.countP p≤l.countP q:=List.countP_mono_left fun x hx=>h x (List.mem_cons_of_mem _ hx)
   obtain ⟨x,hx,hq,hp⟩:=he
   rcases List.mem_cons.1 hx with rfl | hx
   · rw [hp,hq];simp;omega
   · have ih:=Z3Y (fun z hz=>h z (List.mem_cons_of_mem _ hz)) ⟨x,hx,hq,hp⟩
     have h1:=h y List.mem_cons_self
     cases hpy:p y with
     | true=>rw [h1 hpy];simp;omega
     | false=>cases q y<;>simp<;>omega
theorem ZhO {n m m':Nat} (h:∀ k<n,m.testBit k=true→m'.testBit k=true) {k:Nat} (hk:k<n) (h1:m'.testBit k=true) (h2:m.testBit k=false):cnt n m<cnt n m' :=
 Z3Y (fun x hx=>h x (List.mem_range.1 hx)) ⟨k,List.mem_range.2 hk,h1,h2⟩
theorem Zcw {n m m':Nat} (h:∀ k<n,m.testBit k=true→m'.testBit k=true):cnt n m≤cnt n m':=List.countP_mono_left fun x hx=>h x (List.mem_range.1 hx)
def Wth (gs:List Gp) (n:Nat):Prop:=∀ g∈gs,g.a.toNat<n∧g.b.toNat<n
theorem Adj.lt {gs:List Gp} {n cl u v:Nat} (h:Wth gs n) (ha:Adj gs cl u v):u<n∧v<n:=by
 obtain ⟨i,g,h1,_,h3⟩:=ha
 have:=h g (List.mem_of_getElem? h1)
 omega
theorem Z4Y {gs:List Gp} {n cl m:Nat} (h:Wth gs n) (hm:m<2 ^ n):spr gs cl m<2 ^ n:=Z0a fun k hk=>by
 rcases spr_test.1 hk with h1 | ⟨u,_,h2⟩
 · exact Z1s hm h1
 · exact (h2.lt h).2
theorem ZcP {gs:List Gp} {n cl m:Nat} (h:Wth gs n) (hm:m<2 ^ n):∀ t,lv gs cl m t<2 ^ n
 | 0=>hm
 | t+1=>Z4Y h (ZcP h hm t)
theorem Z5M {gs:List Gp} {n cl m:Nat} (h:Wth gs n) (hm:m<2 ^ n) (hne:spr gs cl m≠m):cnt n m<cnt n (spr gs cl m):=by
 obtain ⟨k,h1,h2⟩:∃ k,(spr gs cl m).testBit k=true∧m.testBit k=false:=Classical.byContradiction fun hc=>hne (Z0r fun k=>by
   cases hk:m.testBit k with
   | true=>exact Z0V hk
   | false=>cases hs:(spr gs cl m).testBit k with
     | false=>rfl
     | true=>exact absurd ⟨k,hs,hk⟩ hc)
 exact ZhO (fun k _ hk=>Z0V hk) (Z1s (Z4Y h hm) h1) h1 h2
theorem Zib {gs:List Gp} {n cl m:Nat} (h:Wth gs n) (hm:m<2 ^ n) (h0:m≠0) {t:Nat} (ht:n≤t+1):spr gs cl (lv gs cl m t)=lv gs cl m t:=by
 have key:∀ j,(∃ i≤j,spr gs cl (lv gs cl m i)=lv gs cl m i)∨j+1+1≤cnt n (lv gs cl m (j+1)):=by
   have c0:1≤cnt n m:=by
     obtain ⟨k,hk⟩:∃ k,m.testBit k=true:=Classical.byContradiction fun hc=>h0 (Z0r fun k=>by
       rw [Nat.zero_testBit]
       cases hk:m.testBit k with
       | false=>rfl
       | true=>exact absurd ⟨k,hk⟩ hc)
     unfold cnt
     exact List.countP_pos_iff.2 ⟨k,List.mem_range.2 (Z1s hm hk),hk⟩
   intro j
   induction j with
   | zero =>
     by_cases he:spr gs cl (lv gs cl m 0)=lv gs cl m 0
     · exact .inl ⟨0,Nat.le_refl _,he⟩
     · have:=Z5M h (ZcP h hm 0) he
       exact .inr (by show 2≤cnt n (spr gs cl (lv gs cl m 0));show 2≤_;have e:lv gs cl m 0=m:=rfl;rw [e] at this ⊢;omega)
   | succ j ih =>
     rcases ih with ⟨i,hi,he⟩ | ih
     · exact .inl ⟨i,by omega,he⟩
     · by_cases he:spr gs cl (lv gs cl m (j+1))=lv gs cl m (j+1)
       · exact .inl ⟨j+1,Nat.le_refl _,he⟩
       · have:=Z5M h (ZcP h hm (j+1)) he
         exact .inr (by show _≤cnt n (spr gs cl (lv gs cl m (j+1)));omega)
 rcases key t with ⟨i,hi,he⟩ | h1
 · obtain ⟨d,rfl⟩:∃ d,t=i+d:=⟨t-i,by omega⟩
   rw [Z4c he d,he]
 · have:=Z6g n (lv gs cl m (t+1));omega
theorem Z5y {gs:List Gp} {cl:Nat}:∀ t,lv gs cl 0 t=0
 | 0=>rfl
 | t+1=>by
   show spr gs cl (lv gs cl 0 t)=0
   rw [Z5y t]
   refine Z0r fun k=>?_
   rw [Nat.zero_testBit]
   cases hk:(spr gs cl 0).testBit k with
   | false=>rfl
   | true=>rcases spr_test.1 hk with h1 | ⟨u,h1,_⟩<;>simp at h1
theorem ZaU {gs:List Gp} {n cl m:Nat} (h:Wth gs n) (hm:m<2 ^ n) {t:Nat} (ht:n≤t+1) {j:Nat} (hj:t≤j):lv gs cl m j=lv gs cl m t:=by
 by_cases h0:m=0
 · subst h0;rw [Z5y,Z5y]
 · obtain ⟨d,rfl⟩:∃ d,j=t+d:=⟨j-t,by omega⟩
   exact Z4c (Zib h hm h0 ht) d
def far:Int:=1048576
def wk (gs:List Gp) (cl m k:Nat):Int:=match (List.range 7).find? fun t=>(lv gs cl m t).testBit k with
 | some t=>(t:Int)
 | none=>far
def wks (gs:List Gp) (cl m:Nat):List Int:=(List.range 7).map (wk gs cl m)
theorem ZbQ (gs:List Gp) (cl m:Nat):(wks gs cl m).length=7:=by simp [wks]
theorem ZfZ {gs:List Gp} {cl m k:Nat} (hk:k<7):na (wks gs cl m) k=wk gs cl m k:=by
 unfold na wks
 rw [List.getD_eq_getElem?_getD,List.getElem?_map,List.getElem?_range hk];rfl
theorem Z2V (gs:List Gp) (cl m k:Nat):(∃ t:Nat,t<7∧wk gs cl m k=t∧(lv gs cl m t).testBit k=true∧∀ i:Nat,i<t→(lv gs cl m i).testBit k=false)∨(wk gs cl m k=far∧∀ i:Nat,i<7→(lv gs cl m i).testBit k=false):=by
 unfold wk
 rcases hf:(List.range 7).find? fun t=>(lv gs cl m t).testBit k with _ | t
 · refine .inr ⟨rfl,fun i hi=>?_⟩
   have:=List.find?_eq_none.1 hf i (List.mem_range.2 hi)
   simpa using this
 · obtain ⟨h1,lp,lq,h2,h3⟩:=List.find?_eq_some_iff_append.1 hf
   have hm:t∈List.range 7:=by rw [h2];simp
   refine .inl ⟨t,List.mem_range.1 hm,rfl,h1,fun i hi=>?_⟩
   have hi7:i∈List.range 7:=List.mem_range.2 (by have:=List.mem_range.1 hm;omega)
   have hp:=List.pairwise_lt_range (n:=7)
   rw [h2] at hi7 hp
   rw [List.pairwise_append] at hp
   rcases List.mem_append.1 hi7 with h4 | h4
   · have:=h3 i h4;simpa using this
   · rcases List.mem_cons.1 h4 with rfl | h4
     · omega
     · have:=(List.pairwise_cons.1 hp.2.1).1 i h4;omega
theorem Zkf (gs:List Gp) (cl m k:Nat):0≤wk gs cl m k∧wk gs cl m k≤far∧(wk gs cl m k<far→wk gs cl m k≤6):=by
 unfold far
 rcases Z2V gs cl m k with ⟨t,h1,h2,_⟩ | ⟨h1,_⟩
 · rw [h2];omega
 · rw [h1];unfold far;omega
theorem ZfX {gs:List Gp} {cl m k:Nat} (h:Wth gs 7) (hm:m<2 ^ 7) {t:Nat} (ht:(t:Int)<far):wk gs cl m k≤t↔(lv gs cl m t).testBit k=true:=by
 unfold far at ht
 rcases Z2V gs cl m k with ⟨i,h1,h2,h3,h4⟩ | ⟨h1,h2⟩
 · rw [h2]
   constructor
   · intro h5;exact Zfs (by omega) h3
   · intro h5
     rcases Nat.lt_or_ge t i with h6 | h6
     · rw [h4 t h6] at h5;cases h5
     · omega
 · rw [h1]
   unfold far
   constructor
   · intro h5;omega
   · intro h5
     rcases Nat.lt_or_ge t 7 with h6 | h6
     · rw [h2 t h6] at h5;cases h5
     · rw [ZaU h hm (t:=6) (by decide) (by omega),h2 6 (by decide)] at h5;cases h5
theorem ZbP {gs:List Gp} {cl m:Nat} {w:Nat→Int} (h1:∀ k<7,wk gs cl m k≤w k) (h2:∀ k<7,m.testBit k=true→w k≤0) (h3:∀ u v,u<7→v<7→Adj gs cl u v→w v≤w u+1) (h4:∀ k<7,w k≤far) (hw:Wth gs 7) (hm:m<2 ^ 7):∀ k<7,w k=wk gs cl m k:=by
 have key:∀ t:Nat,∀ k<7,(lv gs cl m t).testBit k=true→w k≤t:=by
   intro t
   induction t with
   | zero=>intro k hk h;exact h2 k hk h
   | succ t ih =>
     intro k hk h
     rcases spr_test.1 h with h5 | ⟨u,h5,h6⟩
     · have:=ih k hk h5;omega
     · have hu:=(h6.lt hw).1
       have:=ih u hu h5
       have:=h3 u k hu hk h6
       omega
 intro k hk
 have h5:=h1 k hk
 rcases Z2V gs cl m k with ⟨t,h6,h7,h8,_⟩ | ⟨h6,_⟩
 · have:=key t k hk h8;omega
 · have:=h4 k hk;omega
theorem ZfW {gs:List Gp} {cl m k:Nat} (h:m.testBit k=true):wk gs cl m k=0:=by
 rcases Z2V gs cl m k with ⟨t,h1,h2,_,h4⟩ | ⟨_,h2⟩
 · cases t with
   | zero=>exact h2
   | succ t=>have:=h4 0 (by omega);rw [show lv gs cl m 0=m from rfl,h] at this;cases this
 · have:=h2 0 (by decide);rw [show lv gs cl m 0=m from rfl,h] at this;cases this
theorem Hse.ok.wth {h:Hse} (hk:h.ok):Wth h.gaps 7:=fun g hg=>by
 have:=hk.gaps g hg
 have:=hk.bins
 omega
theorem lv_bit {gs:List Gp} {cl m v:Nat}:∀ {t:Nat},(lv gs cl m t).testBit v=true↔∃ u,m.testBit u=true∧(lv gs cl (2 ^ u) t).testBit v=true:=by
 intro t
 induction t generalizing v with
 | zero =>
   show m.testBit v=true↔∃ u,m.testBit u=true∧(2 ^ u).testBit v=true
   constructor
   · intro h;exact ⟨v,h,by rw [Nat.testBit_two_pow];simp⟩
   · rintro ⟨u,h1,h2⟩
     rw [Nat.testBit_two_pow] at h2
     obtain rfl:=of_decide_eq_true h2
     exact h1
 | succ t ih =>
   show (spr gs cl (lv gs cl m t)).testBit v=true↔∃ u,m.testBit u=true∧(spr gs cl (lv gs cl (2 ^ u) t)).testBit v=true
   constructor
   · intro h
     rcases spr_test.1 h with h1 | ⟨x,h1,h2⟩
     · obtain ⟨u,h3,h4⟩:=ih.1 h1
       exact ⟨u,h3,Z0V h4⟩
     · obtain ⟨u,h3,h4⟩:=ih.1 h1
       exact ⟨u,h3,spr_test.2 (.inr ⟨x,h4,h2⟩)⟩
   · rintro ⟨u,h1,h2⟩
     rcases spr_test.1 h2 with h3 | ⟨x,h3,h4⟩
     · exact Z0V (ih.2 ⟨u,h1,h3⟩)
     · exact spr_test.2 (.inr ⟨x,ih.2 ⟨u,h1,h3⟩,h4⟩)
theorem ZaV {gs:List Gp} {cl m m' t v:Nat} (h:∀ u,m.testBit u=true→m'.testBit u=true) (hv:(lv gs cl m t).testBit v=true):(lv gs cl m' t).testBit v=true:=by
 obtain ⟨u,h1,h2⟩:=lv_bit.1 hv
 exact lv_bit.2 ⟨u,h u h1,h2⟩
def exS (gs:List Gp) (m:Nat) (s:Sgt):Bool:=decide (wk gs 0 m s.bin.toNat≤s.week) == s.seen
def Zc0 (gs:List Gp) (m:Nat) (ss:List Sgt):Bool:=ss.all (exS gs m)
def ZcI (gs:List Gp) (ss:List Sgt) (k:Nat):Bool:=ss.all fun s=>s.seen||decide (s.week<wk gs 0 (2 ^ k) s.bin.toNat)
def ZhH (gs:List Gp) (ss:List Sgt) (but week:Int) (k:Nat):Bool:=!(decide (0≤but)&&decide (wk gs 0 (2 ^ k) but.toNat≤week))&&ZcI gs ss k
def Hse.clr (h:Hse) (ss:List Sgt) (but week:Int):List Int:=((List.range h.bins.toNat).filter (ZhH h.gaps ss but week)).map fun (k:Nat)=>(k:Int)
def Hse.agr (h:Hse) (ss:List Sgt):Bool:=Zc0 h.gaps (msk (h.clr ss (-1) 0)) ss
def SOk (h:Hse) (ss:List Sgt):Prop:=∀ s∈ss,(0≤s.week∧s.week≤9)∧0≤s.bin∧s.bin<h.bins
theorem Hse.ok.lt (h:Hse) (hk:h.ok):h.bins.toNat≤7∧(h.bins.toNat:Int)=h.bins∧1≤h.bins.toNat:=by have:=hk.bins;omega
theorem Z3n {l:List Int} {n:Nat} (h:∀ k∈l,0≤k∧k<n):msk l<2 ^ n:=Z0a fun k hk=>by
 have:=h _ ((ZN (fun k hk=>(h k hk).1) k).1 hk);omega
theorem Zk6 {n m:Nat} (hn:n≤7) (h:m<2 ^ n):m<2 ^ 7:=Nat.lt_of_lt_of_le h (Nat.pow_le_pow_right (by decide) hn)
theorem Zej {k n:Nat} (h:k<n):2 ^ k<2 ^ n:=Nat.pow_lt_pow_right (by decide) h
theorem Zfa {h:Hse} (hk:h.ok) {m:Nat} (hm:m<2 ^ 7) {s:Sgt} (hs:0≤s.week∧s.week≤9):exS h.gaps m s=true↔(lv h.gaps 0 m s.week.toNat).testBit s.bin.toNat=s.seen:=by
 unfold exS
 have h1:=ZfX (k:=s.bin.toNat) hk.wth hm (t:=s.week.toNat) (cl:=0) (by unfold far;omega)
 rw [show ((s.week.toNat:Nat):Int)=s.week by omega] at h1
 rw [beq_iff_eq]
 cases hb:(lv h.gaps 0 m s.week.toNat).testBit s.bin.toNat with
 | true=>rw [hb] at h1;rw [decide_eq_true (h1.2 rfl)]
 | false=>rw [hb] at h1;rw [decide_eq_false (fun e=>by cases h1.1 e)]
theorem Z5o {h:Hse} (hk:h.ok) {m:Nat} (hm:m<2 ^ 7) {ss:List Sgt} (hs:SOk h ss):Zc0 h.gaps m ss=true↔∀ s∈ss,(lv h.gaps 0 m s.week.toNat).testBit s.bin.toNat=s.seen:=by
 unfold Zc0
 rw [List.all_eq_true]
 exact forall_congr' fun s=>forall_congr' fun h1=>Zfa hk hm (hs s h1).1
theorem Z8m {h:Hse} (hk:h.ok) {k:Nat} (hk7:k<7) {ss:List Sgt} (hs:SOk h ss):ZcI h.gaps ss k=true↔∀ s∈ss,s.seen=false→(lv h.gaps 0 (2 ^ k) s.week.toNat).testBit s.bin.toNat=false:=by
 unfold ZcI
 rw [List.all_eq_true]
 refine forall_congr' fun s=>forall_congr' fun h1=>?_
 have h2:=ZfX (k:=s.bin.toNat) hk.wth (Zej hk7) (t:=s.week.toNat) (cl:=0) (by have:=(hs s h1).1;unfold far;omega)
 rw [show ((s.week.toNat:Nat):Int)=s.week by have:=(hs s h1).1;omega] at h2
 cases hse:s.seen with
 | true=>simp
 | false =>
   rw [Bool.false_or,decide_eq_true_eq]
   cases hb:(lv h.gaps 0 (2 ^ k) s.week.toNat).testBit s.bin.toNat with
   | true=>rw [hb] at h2;have:=h2.2 rfl;simp;omega
   | false=>rw [hb] at h2;simp;rcases Int.lt_or_le s.week (wk h.gaps 0 (2 ^ k) s.bin.toNat) with h3 | h3;exact h3;exact absurd (h2.1 h3) (by simp)
theorem clr_mem {h:Hse} {ss:List Sgt} {but week:Int} {j:Int}:j∈h.clr ss but week↔∃ k:Nat,k<h.bins.toNat∧ZhH h.gaps ss but week k=true∧j=k:=by
 unfold Hse.clr
 simp only [List.mem_map,List.mem_filter,List.mem_range]
 constructor
 · rintro ⟨k,⟨h1,h2⟩,rfl⟩;exact ⟨k,h1,h2,rfl⟩
 · rintro ⟨k,h1,h2,rfl⟩;exact ⟨k,⟨h1,h2⟩,rfl⟩
theorem ZdJ {h:Hse} {ss:List Sgt} {but week:Int}:∀ j∈h.clr ss but week,0≤j∧j<h.bins.toNat:=fun j hj=>by
 obtain ⟨k,h1,_,rfl⟩:=clr_mem.1 hj;omega
theorem clr_bit {h:Hse} {ss:List Sgt} {but week:Int} {k:Nat}:(msk (h.clr ss but week)).testBit k=true↔k<h.bins.toNat∧ZhH h.gaps ss but week k=true:=by
 rw [ZN (fun j hj=>(ZdJ j hj).1),clr_mem]
 constructor
 · rintro ⟨j,h1,h2,e⟩;obtain rfl:k=j:=by omega
   exact ⟨h1,h2⟩
 · rintro ⟨h1,h2⟩;exact ⟨k,h1,h2,rfl⟩
theorem ZdI {h:Hse} (hk:h.ok) {ss:List Sgt} {but week:Int}:msk (h.clr ss but week)<2 ^ h.bins.toNat:=Z3n ZdJ
theorem Z9L {h:Hse} (hk:h.ok) {ss:List Sgt} {but week:Int} (hw:week≤9) {k:Nat} (hk7:k<7):ZhH h.gaps ss but week k=true↔(0≤but→0≤week→(lv h.gaps 0 (2 ^ k) week.toNat).testBit but.toNat=false)∧ZcI h.gaps ss k=true:=by
 unfold ZhH
 rw [Bool.and_eq_true]
 refine and_congr ?_ Iff.rfl
 rw [Bool.not_eq_true',Bool.and_eq_false_iff,decide_eq_false_iff_not,decide_eq_false_iff_not]
 rcases Int.lt_or_le week 0 with h0 | h0
 · have:=(Zkf h.gaps 0 (2 ^ k) but.toNat).1
   constructor
   · intro _ _ h1;omega
   · intro _;right;omega
 · have h2:=ZfX (k:=but.toNat) hk.wth (Zej hk7) (t:=week.toNat) (cl:=0) (by unfold far;omega)
   rw [show ((week.toNat:Nat):Int)=week by omega] at h2
   rw [h2]
   constructor
   · rintro (h3 | h3) h4 _
     · exact absurd h4 h3
     · simpa using h3
   · intro h3
     by_cases h4:0≤but
     · right;rw [h3 h4 h0];decide
     · exact .inl h4
theorem ZcD {h:Hse} (hk:h.ok) {ss:List Sgt} (hs:SOk h ss) {m:Nat} (hm:m<2 ^ h.bins.toNat) (he:Zc0 h.gaps m ss=true) {but week:Int} (hw:week≤9) (hb:0≤but→0≤week→(lv h.gaps 0 m week.toNat).testBit but.toNat=false):∀ k,m.testBit k=true→(msk (h.clr ss but week)).testBit k=true:=fun k hkm=>by
 have hn:=hk.lt
 have hk1:=Z1s hm hkm
 rw [clr_bit,Z9L hk hw (by omega),Z8m hk (by omega) hs]
 rw [Z5o hk (Zk6 hn.1 hm) hs] at he
 refine ⟨hk1,fun h1 h2=>?_,fun s h1 h2=>?_⟩
 · have:=hb h1 h2
   cases hc:(lv h.gaps 0 (2 ^ k) week.toNat).testBit but.toNat with
   | false=>rfl
   | true=>rw [lv_bit.2 ⟨k,hkm,hc⟩] at this;cases this
 · have:=he s h1
   rw [h2] at this
   cases hc:(lv h.gaps 0 (2 ^ k) s.week.toNat).testBit s.bin.toNat with
   | false=>rfl
   | true=>rw [lv_bit.2 ⟨k,hkm,hc⟩] at this;cases this
theorem Zcv {h:Hse} (hk:h.ok) {ss:List Sgt} (hs:SOk h ss) {m:Nat} (hm:m<2 ^ h.bins.toNat) (he:Zc0 h.gaps m ss=true) {but week:Int} (hw:week≤9) (hb:0≤but→0≤week→(lv h.gaps 0 m week.toNat).testBit but.toNat=false):Zc0 h.gaps (msk (h.clr ss but week)) ss=true:=by
 have hn:=hk.lt
 have hsub:=ZcD hk hs hm he hw hb
 have hc7:=Zk6 hn.1 (ZdI hk (ss:=ss) (but:=but) (week:=week))
 rw [Z5o hk (Zk6 hn.1 hm) hs] at he
 rw [Z5o hk hc7 hs]
 intro s h1
 cases hse:s.seen with
 | true=>exact ZaV hsub (by rw [he s h1,hse])
 | false =>
   cases hc:(lv h.gaps 0 (msk (h.clr ss but week)) s.week.toNat).testBit s.bin.toNat with
   | false=>rfl
   | true =>
     obtain ⟨u,h2,h3⟩:=lv_bit.1 hc
     obtain ⟨h4,h5⟩:=clr_bit.1 h2
     rw [Z9L hk hw (by omega),Z8m hk (by omega) hs] at h5
     rw [h5.2 s h1 hse] at h3;cases h3
theorem Z73 {h:Hse} (hk:h.ok) {ss:List Sgt} (hs:SOk h ss):h.agr ss=true↔∃ m,m<2 ^ h.bins.toNat∧Zc0 h.gaps m ss=true :=
 ⟨fun h1=>⟨_,ZdI hk,h1⟩,fun ⟨_,h1,h2⟩=>Zcv hk hs h1 h2 (by decide) (fun h3=>absurd h3 (by decide))⟩
theorem and0_iff {a b:Nat}:a&&&b=0↔∀ i,(a.testBit i&&b.testBit i)=false:=by
 constructor
 · intro h i;rw [← Nat.testBit_and,h,Nat.zero_testBit]
 · intro h;exact Nat.eq_of_testBit_eq fun i=>by rw [Nat.testBit_and,h,Nat.zero_testBit]
theorem Zex {a b:Nat} (ha:a%2=1) (hb:b%2=1):a&&&b≠0:=fun h=>by
 have:=Nat.and_mod_two_eq_one.2 ⟨ha,hb⟩;rw [h] at this;cases this
theorem Zc9 {a b:Nat} (h:¬ (a%2=1∧b%2=1)):a&&&b=0↔a / 2&&&b / 2=0:=by
 have h1:¬ (a&&&b)%2=1:=fun e=>h (Nat.and_mod_two_eq_one.1 e)
 rw [← Nat.and_div_two];omega
theorem Zdi:∀ (n:Nat) {a b:Nat},a≤n→a&&&b=0→a+b=a|||b
 | 0, a, b, hn, _ => by obtain rfl : a = 0 := by omega
                        simp
 | n+1,a,b,hn,h=>by
   have h0:¬ (a%2=1∧b%2=1):=fun e=>Zex e.1 e.2 h
   by_cases ha:a=0
   · subst ha;simp
   have ih:=Zdi n (a:=a / 2) (b:=b / 2) (by omega) ((Zc9 h0).1 h)
   have h1:=Nat.or_div_two (a:=a) (b:=b)
   have h2:=Nat.or_mod_two_eq_one (a:=a) (b:=b)
   rcases Nat.mod_two_eq_zero_or_one a with ea | ea<;>rcases Nat.mod_two_eq_zero_or_one b with eb | eb
   · have:¬ (a|||b)%2=1:=fun e=>by rcases h2.1 e with e | e<;>omega
     omega
   · have:=h2.2 (.inr eb);omega
   · have:=h2.2 (.inl ea);omega
   · exact absurd ⟨ea,eb⟩ h0
theorem Zc3 {a b:Nat} (h:a&&&b=0) (i:Nat):(a+b).testBit i=(a.testBit i||b.testBit i):=by rw [Zdi a (Nat.le_refl _) h,Nat.testBit_or]
theorem Zeq {a v:Nat} (h:a.testBit v=false) (i:Nat):(a+2 ^ v).testBit i=(a.testBit i||decide (v=i)):=by
 rw [Zc3 (and0_iff.2 fun j=>?_),Nat.testBit_two_pow]
 rw [Nat.testBit_two_pow]
 by_cases e:v=j
 · subst e;rw [h];rfl
 · rw [decide_eq_false e,Bool.and_false]
theorem ZeD {a n i:Nat} (h:a<2 ^ n) (hi:n≤i):a.testBit i=false:=Nat.testBit_lt_two_pow (Nat.lt_of_lt_of_le h (Nat.pow_le_pow_right (by decide) hi))
theorem Z9H (p:Nat→Bool):∀ n,∃ t,t<2 ^ n∧∀ j,t.testBit j=(decide (j<n)&&p j)
 | 0=>⟨0,by decide,fun j=>by simp⟩
 | n+1=>by
   obtain ⟨t,h1,h2⟩:=Z9H p n
   have hn:t.testBit n=false:=by rw [h2];simp
   cases hp:p n
   · refine ⟨t,by rw [Nat.pow_succ];omega,fun j=>?_⟩
     rw [h2]
     by_cases e:j=n
     · subst e;simp [hp]
     · rw [show decide (j<n+1)=decide (j<n) from decide_eq_decide.2 (by omega)]
   · refine ⟨t+2 ^ n,by rw [Nat.pow_succ];omega,fun j=>?_⟩
     rw [Zeq hn,h2]
     by_cases e:j=n
     · subst e;simp [hp]
     · rw [show decide (j<n+1)=decide (j<n) from decide_eq_decide.2 (by omega),decide_eq_false (show ¬ n=j by omega),Bool.or_false]
def Z2E (s:Nat):List Int:=((List.range 10).filter fun i=>s.testBit i).map fun (i:Nat)=>(i:Int)
def Z9t (s n:Nat):List Int:=((List.range n).filter fun i=>s.testBit i).map fun (i:Nat)=>(i:Int)
theorem Zfx {s n:Nat} (h:s / 2 ^ n%2=1):Z9t s (n+1)=Z9t s n++[(n:Int)]:=by
 have h1:s.testBit n=true:=by rw [Nat.testBit_eq_decide_div_mod_eq,decide_eq_true h]
 unfold Z9t
 rw [List.range_succ,List.filter_append,List.map_append,List.filter_cons,h1];rfl
theorem Z8C {s n:Nat} (h:s / 2 ^ n%2≠1):Z9t s (n+1)=Z9t s n:=by
 have h1:s.testBit n=false:=by rw [Nat.testBit_eq_decide_div_mod_eq,decide_eq_false h]
 unfold Z9t
 rw [List.range_succ,List.filter_append,List.map_append,List.filter_cons,h1];simp
theorem Z8B {s n:Nat} (h:s<2 ^ n):∀ k,Z9t s (n+k)=Z9t s n
 | 0=>rfl
 | k+1=>by
   rw [← Z8B h k]
   refine Z8C (n:=n+k) fun e=>?_
   rw [Nat.div_eq_of_lt (Nat.lt_of_lt_of_le h (Nat.pow_le_pow_right (by decide) (Nat.le_add_right _ _)))] at e;cases e
theorem ZcQ (s n:Nat):(Z9t s n).length≤n:=by
 unfold Z9t
 rw [List.length_map]
 exact Nat.le_trans (List.length_filter_le _ _) (by simp)
theorem Zfv {s n:Nat} (h:s / 2 ^ n=0) (hn:n≤10):Z9t s n=Z2E s:=by
 have:=Z8B (s:=s) (n:=n) (by
   rcases Nat.lt_or_ge s (2 ^ n) with h1 | h1
   · exact h1
   · have:=Nat.div_pos h1 (Nat.pow_pos (by decide));omega) (10-n)
 rw [← this,show n+(10-n)=10 by omega];rfl
theorem Z8P:∀ {a b:List Nat},a.Pairwise (· < ·)→b.Pairwise (· < ·)→(∀ x,x∈a↔x∈b)→a=b
 | [],[],_,_,_=>rfl
 | [],y::b,_,_,h=>by have:=(h y).2 (by simp);cases this
 | x::a,[],_,_,h=>by have:=(h x).1 (by simp);cases this
 | x::a,y::b,ha,hb,h=>by
   obtain ⟨h1,h2⟩:=List.pairwise_cons.1 ha
   obtain ⟨h3,h4⟩:=List.pairwise_cons.1 hb
   have hxy:x=y:=by
     rcases List.mem_cons.1 ((h x).1 (by simp)) with e | e
     · exact e
     · rcases List.mem_cons.1 ((h y).2 (by simp)) with e2 | e2
       · exact e2.symm
       · have:=h3 x e;have:=h1 y e2;omega
   subst hxy
   rw [Z8P h2 h4 fun z=>?_]
   constructor
   · intro hz
     rcases List.mem_cons.1 ((h z).1 (by simp [hz])) with e | e
     · subst e;exact absurd (h1 z hz) (Nat.lt_irrefl _)
     · exact e
   · intro hz
     rcases List.mem_cons.1 ((h z).2 (by simp [hz])) with e | e
     · subst e;exact absurd (h3 z hz) (Nat.lt_irrefl _)
     · exact e
theorem Z8A (s:Nat):∃ y:List Nat,Z2E s=(y.map fun (j:Nat)=>(j:Int))∧y.Pairwise (· < ·)∧∀ j,j∈y↔j<10∧s.testBit j=true :=
 ⟨_,rfl,List.pairwise_lt_range.filter _,fun j=>by rw [List.mem_filter,List.mem_range]⟩
theorem Zfw {y:List Nat} {n:Nat} (h6:n≤10) (hp:y.Pairwise (· < ·)) (hn:∀ j∈y,j<n):∃ t,t<2 ^ n∧Z2E t=(y.map fun (j:Nat)=>(j:Int))∧(y≠[]→1≤t):=by
 obtain ⟨t,h1,h2⟩:=Z9H (fun i=>decide (i∈y)) n
 have hm:∀ j,(j<10∧t.testBit j=true)↔j∈y:=fun j=>by
   rw [h2,Bool.and_eq_true,decide_eq_true_eq,decide_eq_true_eq]
   exact ⟨fun h=>h.2.2,fun h=>⟨by have:=hn j h;omega,hn j h,h⟩⟩
 refine ⟨t,h1,?_,fun hy=>?_⟩
 · obtain ⟨z,e,h3,h4⟩:=Z8A t
   rw [e,Z8P h3 hp fun j=>(h4 j).trans (hm j)]
 · obtain ⟨j,hj⟩:=List.exists_mem_of_ne_nil _ hy
   have:=((hm j).2 hj).2
   rcases Nat.eq_zero_or_pos t with e | e
   · rw [e,Nat.zero_testBit] at this;cases this
   · exact e
def Z8u:List Int→List Int→Bool
 | x::a,y::b=>bif decide (x≠y) then decide (x<y) else Z8u a b
 | _,_=>false
def ahB (a b:List Int):Bool:=bif decide (a.length≠b.length) then decide (a.length<b.length) else Z8u a b
theorem Z6C:∀ {a b c:List Int},a.length=b.length→b.length=c.length→Z8u a b=true→Z8u c b=false→Z8u a c=true
 | [],_,_,_,_,h,_=>by unfold Z8u at h;cases h
 | _::_,[],_,h,_,_,_=>by cases h
 | _::_,_::_,[],_,h,_,_=>by cases h
 | x::a,y::b,z::c,h1,h2,h3,h4=>by
   unfold Z8u at h3 h4 ⊢
   by_cases e:z=y
   · subst e
     rw [decide_eq_false (by simp)] at h4
     by_cases e2:x=z
     · subst e2
       rw [decide_eq_false (by simp)] at h3 ⊢
       exact Z6C (by simpa using h1) (by simpa using h2) h3 h4
     · rw [decide_eq_true e2] at h3 ⊢;exact h3
   · rw [decide_eq_true e] at h4
     have h4:=of_decide_eq_false h4
     by_cases e2:x=y
     · subst e2
       rw [decide_eq_true (show x≠z from fun h=>e h.symm)]
       exact decide_eq_true (by omega)
     · rw [decide_eq_true e2] at h3
       have h3:=of_decide_eq_true h3
       rw [decide_eq_true (show x≠z by omega)]
       exact decide_eq_true (by omega)
theorem Z8v:∀ {a b:List Int},Z8u a b=true→Z8u b a=false
 | [],_,h=>by unfold Z8u at h;cases h
 | _::_,[],h=>by unfold Z8u at h;cases h
 | x::a,y::b,h=>by
   unfold Z8u at h ⊢
   by_cases e:x=y
   · subst e
     rw [decide_eq_false (by simp)] at h ⊢
     exact Z8v h
   · rw [decide_eq_true e] at h
     rw [decide_eq_true (show y≠x from fun h=>e h.symm)]
     have h:=of_decide_eq_true h
     exact decide_eq_false (by omega)
theorem Zet {a b:List Int} (h:ahB a b=true):ahB b a=false:=by
 unfold ahB at h ⊢
 by_cases e:a.length=b.length
 · rw [decide_eq_false (by simpa using e)] at h
   rw [decide_eq_false (by simpa using e.symm)]
   exact Z8v h
 · rw [decide_eq_true e] at h
   rw [decide_eq_true (show b.length≠a.length from fun h=>e h.symm)]
   have h:=of_decide_eq_true h
   exact decide_eq_false (by omega)
theorem Zc7 {a b c:List Int} (h1:ahB a b=true) (h2:ahB c b=false):ahB a c=true:=by
 unfold ahB at h1 h2 ⊢
 by_cases e:c.length=b.length
 · rw [decide_eq_false (by simpa using e)] at h2
   by_cases e2:a.length=b.length
   · rw [decide_eq_false (by simpa using e2)] at h1
     rw [decide_eq_false (by simpa [e] using e2)]
     exact Z6C e2 e.symm h1 h2
   · rw [decide_eq_true e2] at h1
     rw [decide_eq_true (by rw [e];exact e2),e];exact h1
 · rw [decide_eq_true e] at h2
   have h2:=of_decide_eq_false h2
   by_cases e2:a.length=b.length
   · rw [decide_eq_true (by omega)];exact decide_eq_true (by omega)
   · rw [decide_eq_true e2] at h1
     have h1:=of_decide_eq_true h1
     rw [decide_eq_true (by omega)];exact decide_eq_true (by omega)
structure BestI (P:Nat→Bool) (k:Nat) (f:Bool) (b:List Int):Prop where
 no:f=false→(∀ t,1≤t→t<k→P t=true)∧b=[]
 yes:f=true→(∃ t,1≤t∧t<k∧P t=false∧b=Z2E t)∧∀ t,1≤t→t<k→P t=false→ahB (Z2E t) b=false
theorem BestI.start (P:Nat→Bool):BestI P 1 false []:=⟨fun _=>⟨fun t h1 h2=>by omega,rfl⟩,(fun h=>by cases h)⟩
theorem Zeu (a:List Int):ahB a a=false:=by
 unfold ahB
 rw [decide_eq_false (by simp)]
 show Z8u a a=false
 induction a with
 | nil=>rfl
 | cons x a ih=>unfold Z8u;rw [decide_eq_false (by simp)];exact ih
theorem BestI.take {P:Nat→Bool} {k:Nat} {f:Bool} {b:List Int} (h:BestI P k f b) (hk:1≤k) (h1:f=false∨ahB (Z2E k) b=true) (h2:P k=false):BestI P (k+1) true (Z2E k):=by
 refine ⟨(fun h=>by cases h),fun _=>⟨⟨k,hk,by omega,h2,rfl⟩,fun t t1 t2 t3=>?_⟩⟩
 by_cases e:t=k
 · subst e;exact Zeu _
 · cases hf:f with
   | false=>rw [(h.no hf).1 t t1 (by omega)] at t3;cases t3
   | true =>
     have h3:=(h.yes hf).2 t t1 (by omega) t3
     have h4:=h1.resolve_left (by rw [hf];simp)
     exact Zet (Zc7 h4 h3)
theorem BestI.skip {P:Nat→Bool} {k:Nat} {f:Bool} {b:List Int} (h:BestI P k f b) (h1:P k=true∨(f=true∧ahB (Z2E k) b=false)):BestI P (k+1) f b:=by
 refine ⟨fun hf=>⟨fun t t1 t2=>?_,(h.no hf).2⟩,fun hf=>⟨?_,fun t t1 t2 t3=>?_⟩⟩
 · by_cases e:t=k
   · subst e
     rcases h1 with h1 | h1
     · exact h1
     · rw [h1.1] at hf;cases hf
   · exact (h.no hf).1 t t1 (by omega)
 · obtain ⟨t,t1,t2,t3⟩:=(h.yes hf).1
   exact ⟨t,t1,by omega,t3⟩
 · by_cases e:t=k
   · subst e
     rcases h1 with h1 | h1
     · rw [h1] at t3;cases t3
     · exact h1.2
   · exact (h.yes hf).2 t t1 (by omega) t3
theorem memL_bit {t:Nat} {j:Int}:j∈Z2E t↔∃ k:Nat,k<10∧t.testBit k=true∧j=k:=by
 obtain ⟨y,e,_,h⟩:=Z8A t
 rw [e,List.mem_map]
 constructor
 · rintro ⟨k,hk,rfl⟩;exact ⟨k,((h k).1 hk).1,((h k).1 hk).2,rfl⟩
 · rintro ⟨k,h1,h2,rfl⟩;exact ⟨k,(h k).2 ⟨h1,h2⟩,rfl⟩
theorem ZcS {t:Nat} (ht:t<2 ^ 10):msk (Z2E t)=t:=Z0r fun k=>by
 rw [Bool.eq_iff_iff,ZN (fun j hj=>by obtain ⟨q,_,_,rfl⟩:=memL_bit.1 hj;omega),memL_bit]
 constructor
 · rintro ⟨q,_,h2,e⟩;obtain rfl:k=q:=by omega
   exact h2
 · intro h;exact ⟨k,Z1s ht h,h,rfl⟩
def chi (X v:Nat):Int:=bif X.testBit v then 1 else 0
def Z4E (F:Nat→Gp→Int):List Gp→Nat→Int
 | [],_=>0
 | g::gs,i=>F i g+Z4E F gs (i+1)
theorem Z3F (F G:Nat→Gp→Int):∀ (gs:List Gp) (i:Nat),Z4E (fun i g=>F i g+G i g) gs i=Z4E F gs i+Z4E G gs i
 | [],_=>rfl
 | g::gs,i=>by simp only [Z4E,Z3F F G gs (i+1)];omega
theorem Z5Q {F G:Nat→Gp→Int}:∀ {gs:List Gp} {i:Nat},(∀ j g,gs[j]?=some g→F (i+j) g≤G (i+j) g)→Z4E F gs i≤Z4E G gs i
 | [],_,_=>Int.le_refl _
 | g::gs,i,h=>by
   have h0:=h 0 g rfl
   have h1:=Z5Q (gs:=gs) (i:=i+1) (F:=F) (G:=G) fun j g' hj=>by
     have:=h (j+1) g' (by simpa using hj)
     rwa [show i+(j+1)=i+1+j by omega] at this
   simp only [Z4E]
   rw [Nat.add_zero] at h0
   omega
theorem Z3e {F G:Nat→Gp→Int} {gs:List Gp} {i:Nat} (h:∀ j g,gs[j]?=some g→F (i+j) g=G (i+j) g):Z4E F gs i=Z4E G gs i :=
 Int.le_antisymm (Z5Q fun j g hj=>Int.le_of_eq (h j g hj)) (Z5Q fun j g hj=>Int.le_of_eq (h j g hj).symm)
theorem Z4s (gs:List Gp) (i:Nat):Z4E (fun _ _=>0) gs i=0:=by
 induction gs generalizing i with
 | nil=>rfl
 | cons g gs ih=>simp only [Z4E,ih];rfl
def Z1l (f:Nat→Int) (X:Nat) (gs:List Gp):Int:=Z4E (fun i g=>f i*(chi X g.a.toNat-chi X g.b.toNat)) gs 0
theorem ZdG {X v k:Nat} (h:X.testBit v=false):chi (X|||2 ^ v) k=chi X k+chi (2 ^ v) k:=by
 unfold chi
 rw [Nat.testBit_or,Nat.testBit_two_pow]
 by_cases e:v=k
 · subst e;rw [h];simp
 · rw [decide_eq_false e];cases X.testBit k<;>rfl
theorem Zfd {f:Nat→Int} {X v:Nat} {gs:List Gp} (h:X.testBit v=false):Z1l f (X|||2 ^ v) gs=Z1l f X gs+Z1l f (2 ^ v) gs:=by
 unfold Z1l
 rw [← Z3F]
 refine Z3e fun j g _=>?_
 rw [ZdG h,ZdG h,← Int.mul_add]
 congr 1
 omega
def Zj3 (f:Nat→Int) (S K:Nat) (gs:List Gp):Prop:=∀ v,v<7→S.testBit v=false→K.testBit v=false→Z1l f (2 ^ v) gs=0
theorem Z8i {f:Nat→Int} {S K X:Nat} {gs:List Gp} (hc:Zj3 f S K gs) (hX:X<2 ^ 7) (hS:∀ v,S.testBit v=true→X.testBit v=true) (hK:∀ v,K.testBit v=true→X.testBit v=false):Z1l f X gs=Z1l f S gs:=by
 have key:∀ n,n≤7→∃ Y,(∀ v,Y.testBit v=(S.testBit v||(decide (v<n)&&X.testBit v)))∧Z1l f Y gs=Z1l f S gs:=by
   intro n
   induction n with
   | zero=>intro _;exact ⟨S,fun v=>by simp,rfl⟩
   | succ n ih =>
     intro hn
     obtain ⟨Y,h1,h2⟩:=ih (by omega)
     by_cases hx:X.testBit n=true∧S.testBit n=false
     · refine ⟨Y|||2 ^ n,fun v=>?_,?_⟩
       · rw [Nat.testBit_or,h1,Nat.testBit_two_pow]
         by_cases e:n=v
         · subst e;rw [hx.1,hx.2];simp
         · rw [decide_eq_false e,show decide (v<n+1)=decide (v<n) from decide_eq_decide.2 (by omega),Bool.or_false]
       · have hy:Y.testBit n=false:=by rw [h1,hx.2];simp
         rw [Zfd hy,h2,hc n (by omega) hx.2 ?_]
         · omega
         · cases hk:K.testBit n with
           | false=>rfl
           | true=>rw [hK n hk] at hx;cases hx.1
     · refine ⟨Y,fun v=>?_,h2⟩
       rw [h1]
       by_cases e:v=n
       · subst e
         cases hs:S.testBit v with
         | true=>simp
         | false =>
           cases hv:X.testBit v with
           | true=>exact absurd ⟨hv,hs⟩ hx
           | false=>simp
       · rw [show decide (v<n+1)=decide (v<n) from decide_eq_decide.2 (by omega)]
 obtain ⟨Y,h1,h2⟩:=key 7 (Nat.le_refl _)
 have:Y=X:=Z0r fun v=>by
   rw [h1]
   cases hx:X.testBit v with
   | true=>rw [decide_eq_true (Z1s hX hx)];simp
   | false =>
     cases hs:S.testBit v with
     | true=>rw [hS v hs] at hx;cases hx
     | false=>simp
 rw [← this,h2]
def crs (X:Nat) (g:Gp):Bool:=X.testBit g.a.toNat != X.testBit g.b.toNat
def cutM (X:Nat) (gs:List Gp):List Int:=((List.range gs.length).filter fun i=>match gs[i]? with | some g=>crs X g | none=>false).map fun (i:Nat)=>(i:Int)
def ZeY (X:Nat) (gs:List Gp):Int:=Z4E (fun _ g=>bif crs X g then 1 else 0) gs 0
theorem Z5i (X:Nat):∀ gs:List Gp,ZeY X gs=(cutM X gs).length:=by
 intro gs
 have key:∀ (gs:List Gp),ZeY X gs=((gs.filter fun g=>crs X g).length:Int):=by
   intro gs
   unfold ZeY
   have:∀ i,Z4E (fun _ g=>bif crs X g then 1 else 0) gs i=((gs.filter fun g=>crs X g).length:Int):=by
     induction gs with
     | nil=>intro i;rfl
     | cons g gs ih =>
       intro i
       simp only [Z4E,ih (i+1),List.filter_cons]
       cases crs X g<;>simp<;>omega
   exact this 0
 rw [key]
 unfold cutM
 rw [List.length_map]
 congr 1
 have:∀ (gs:List Gp),(gs.filter fun g=>crs X g).length=((List.range gs.length).filter fun i=>match gs[i]? with | some g=>crs X g | none=>false).length:=by
   intro gs
   induction gs with
   | nil=>rfl
   | cons g gs ih =>
     rw [List.length_cons,List.range_succ_eq_map,List.filter_cons,List.filter_cons,List.filter_map]
     have e:((fun i=>match (g::gs)[i]? with | some g=>crs X g | none=>false) ∘ Nat.succ)=fun i=>match gs[i]? with | some g=>crs X g | none=>false:=by funext i;simp
     rw [e]
     simp only [List.getElem?_cons_zero]
     split<;>simp [ih]
 exact this gs
theorem Zay {f:Nat→Int} {X:Nat} {gs:List Gp} (hf:∀ i,-1≤f i∧f i≤1):Z1l f X gs≤ZeY X gs:=by
 unfold Z1l ZeY
 refine Z5Q fun j g _=>?_
 have:=hf (0+j)
 rw [Nat.zero_add] at this ⊢
 unfold crs chi
 cases X.testBit g.a.toNat<;>cases X.testBit g.b.toNat<;>simp<;>omega
theorem Zax {f:Nat→Int} {X:Nat} {gs:List Gp} (hf:∀ i,-1≤f i∧f i≤1) (h:∀ i g,gs[i]?=some g→(X.testBit g.a.toNat=true→X.testBit g.b.toNat=false→1≤f i)∧(X.testBit g.b.toNat=true→X.testBit g.a.toNat=false→f i ≤ -1)):Z1l f X gs=ZeY X gs:=by
 unfold Z1l ZeY
 refine Z3e fun j g hj=>?_
 have h1:=h j g hj
 have:=hf j
 rw [Nat.zero_add]
 unfold crs chi
 cases ha:X.testBit g.a.toNat<;>cases hb:X.testBit g.b.toNat
 · simp
 · have:=h1.2 hb ha;simp;omega
 · have:=h1.1 ha hb;simp;omega
 · simp
def Shut (gs:List Gp) (cl S K:Nat):Prop:=∀ t v,(lv gs cl S t).testBit v=true→K.testBit v=false
theorem ZfL {f:Nat→Int} {S K C:Nat} {gs:List Gp} (hw:Wth gs 7) (hS:S<2 ^ 7) (hf:∀ i,-1≤f i∧f i≤1) (hc:Zj3 f S K gs) (hs:Shut gs C S K):Z1l f S gs≤((List.range gs.length).filter fun i=>C.testBit i).length:=by
 have hX:=ZcP hw hS (cl:=C) 7
 have h1:=Z8i hc hX (fun v hv=>Zfs (t:=0) (by decide) hv) (fun v hv=>by
   cases hx:(lv gs C S 7).testBit v with
   | false=>rfl
   | true=>rw [hs 7 v hx] at hv;cases hv)
 have h2:=Zay (X:=lv gs C S 7) (gs:=gs) hf
 rw [h1,Z5i] at h2
 refine Int.le_trans h2 (Int.ofNat_le.2 ?_)
 unfold cutM
 rw [List.length_map]
 rw [← List.countP_eq_length_filter,← List.countP_eq_length_filter]
 refine List.countP_mono_left fun i _ hi=>?_
 cases hg:gs[i]? with
 | none=>rw [hg] at hi;cases hi
 | some g =>
   rw [hg] at hi
   cases hb:C.testBit i with
   | true=>rfl
   | false =>
     have hst:spr gs C (lv gs C S 7)=lv gs C S 7:=by
       have:=ZaU (gs:=gs) (n:=7) (cl:=C) (m:=S) hw hS (t:=7) (by decide) (j:=8) (by decide)
       exact this
     dsimp only at hi
     unfold crs at hi
     cases ha:(lv gs C S 7).testBit g.a.toNat<;>cases hbb:(lv gs C S 7).testBit g.b.toNat
     · rw [ha,hbb] at hi;cases hi
     · have:(spr gs C (lv gs C S 7)).testBit g.a.toNat=true:=spr_test.2 (.inr ⟨_,hbb,i,g,hg,hb,.inr ⟨rfl,rfl⟩⟩)
       rw [hst,ha] at this;cases this
     · have:(spr gs C (lv gs C S 7)).testBit g.b.toNat=true:=spr_test.2 (.inr ⟨_,ha,i,g,hg,hb,.inl ⟨rfl,rfl⟩⟩)
       rw [hst,hbb] at this;cases this
     · rw [ha,hbb] at hi;cases hi
theorem cutM_mem {X:Nat} {gs:List Gp} {j:Int}:j∈cutM X gs↔∃ (i:Nat) (g:Gp),gs[i]?=some g∧crs X g=true∧j=i:=by
 unfold cutM
 simp only [List.mem_map,List.mem_filter,List.mem_range]
 constructor
 · rintro ⟨i,⟨h1,h2⟩,rfl⟩
   cases hg:gs[i]? with
   | none=>rw [hg] at h2;cases h2
   | some g=>rw [hg] at h2;exact ⟨i,g,hg,h2,rfl⟩
 · rintro ⟨i,g,h1,h2,rfl⟩
   exact ⟨i,⟨(List.getElem?_eq_some_iff.1 h1).1,by rw [h1];exact h2⟩,rfl⟩
theorem Zcy {X S K:Nat} {gs:List Gp} (hS:∀ v,S.testBit v=true→X.testBit v=true) (hK:∀ v,K.testBit v=true→X.testBit v=false):Shut gs (msk (cutM X gs)) S K:=by
 have hin:∀ t v,(lv gs (msk (cutM X gs)) S t).testBit v=true→X.testBit v=true:=by
   intro t
   induction t with
   | zero=>exact hS
   | succ t ih =>
     intro v hv
     rcases spr_test.1 hv with h1 | ⟨u,h1,i,g,h2,h3,h4⟩
     · exact ih v h1
     · have hu:=ih u h1
       cases hx:X.testBit v with
       | true=>rfl
       | false =>
         have hc:crs X g=true:=by
           unfold crs
           rcases h4 with ⟨h5,h6⟩ | ⟨h5,h6⟩
           · rw [h5,h6,hu,hx];rfl
           · rw [h5,h6,hu,hx];rfl
         have:(msk (cutM X gs)).testBit i=true:=(ZN (fun j hj=>by obtain ⟨q,_,_,_,rfl⟩:=cutM_mem.1 hj;omega) i).2 (cutM_mem.2 ⟨i,g,h2,hc,rfl⟩)
         rw [this] at h3;cases h3
 intro t v hv
 cases hk:K.testBit v with
 | false=>rfl
 | true=>have:=hK v hk;rw [hin t v hv] at this;cases this
inductive Way (gs:List Gp) (op:Nat→Bool) (f:Nat→Int) (S K:Nat):Nat→List (Nat×Nat)→Nat→Prop where
 | nil (u:Nat):Way gs op f S K u [] u
 | cons {u v w i:Nat} {g:Gp} {l:List (Nat×Nat)} (hg:gs[i]?=some g) (ho:op i=true) (hk:K.testBit u=false) (hsv:S.testBit v=false) (hs:(g.a.toNat=u∧g.b.toNat=v∧f i<1)∨(g.b.toNat=u∧g.a.toNat=v ∧ -1<f i)) (h:Way gs op f S K v l w):Way gs op f S K u ((i,v)::l) w
def Z9w (gs:List Gp) (i v:Nat):Int:=match gs[i]? with
 | some g=>bif decide (g.b.toNat=v) then 1 else -1
 | none=>0
def Z3v (gs:List Gp) (f:Nat→Int) (l:List (Nat×Nat)):Nat→Int:=fun i=>f i+match l.find? fun x=>decide (x.1=i) with
 | some x=>Z9w gs x.1 x.2
 | none=>0
theorem Z8R {F:Nat→Gp→Int}:∀ {gs:List Gp} {i k:Nat} {g:Gp},gs[k]?=some g→(∀ j g',gs[j]?=some g'→j≠k→F (i+j) g'=0)→Z4E F gs i=F (i+k) g
 | [],_,_,_,h,_=>by simp at h
 | x::gs,i,0,g,h,hz=>by
   rw [List.getElem?_cons_zero,Option.some.injEq] at h
   subst h
   have:Z4E F gs (i+1)=0:=by
     rw [Z3e (G:=fun _ _=>0) (fun j g' hj=>?_),Z4s]
     have:=hz (j+1) g' (by simpa using hj) (by omega)
     rwa [show i+(j+1)=i+1+j by omega] at this
   simp only [Z4E,this,Nat.add_zero];omega
 | x::gs,i,k+1,g,h,hz=>by
   have h0:=hz 0 x rfl (by omega)
   rw [Nat.add_zero] at h0
   have:=Z8R (F:=F) (gs:=gs) (i:=i+1) (k:=k) (g:=g) (by simpa using h) fun j g' hj hne=>by
     have:=hz (j+1) g' (by simpa using hj) (by omega)
     rwa [show i+(j+1)=i+1+j by omega] at this
   simp only [Z4E,h0,this]
   rw [show i+1+k=i+(k+1) by omega];omega
theorem Z3J {gs:List Gp} {f:Nat→Int} {i v:Nat} {l:List (Nat×Nat)} (hn:∀ x∈l,x.1≠i) (j:Nat):Z3v gs f ((i,v)::l) j=Z3v gs f l j+(bif decide (j=i) then Z9w gs i v else 0):=by
 unfold Z3v
 rw [List.find?_cons]
 by_cases e:i=j
 · subst e
   have:l.find? (fun x=>decide (x.1=i))=none:=List.find?_eq_none.2 fun x hx=>by simpa using hn x hx
   rw [this];simp
 · rw [decide_eq_false (show ¬ j=i from fun h=>e h.symm)]
   simp [e]
theorem Z3H {gs:List Gp} {op:Nat→Bool} {f f0:Nat→Int} {S K:Nat} (X:Nat):∀ {l:List (Nat×Nat)} {u w:Nat},Way gs op f0 S K u l w→(l.map (·.1)).Nodup→(∀ (i:Nat) (g:Gp),gs[i]?=some g→g.a.toNat≠g.b.toNat)→Z1l (Z3v gs f l) X gs=Z1l f X gs+chi X u-chi X w
 | [],u,w,h,_,_=>by
   cases h
   have:Z3v gs f []=f:=by funext i;simp [Z3v]
   rw [this];omega
 | (i,v)::l,u,w,h,hn,hab=>by
   cases h with
   | cons hg ho hk hsv hs h =>
     rename_i g
     rw [List.map_cons,List.nodup_cons] at hn
     have hni:∀ x∈l,x.1≠i:=fun x hx e=>hn.1 (List.mem_map.2 ⟨x,hx,e⟩)
     have ih:=Z3H (f:=f) X h hn.2 hab
     have e:Z1l (Z3v gs f ((i,v)::l)) X gs=Z1l (Z3v gs f l) X gs+Z4E (fun j g=>(bif decide (j=i) then Z9w gs i v else 0)*(chi X g.a.toNat-chi X g.b.toNat)) gs 0:=by
       unfold Z1l
       rw [← Z3F]
       refine Z3e fun j g' _=>?_
       rw [Z3J hni,Int.add_mul]
     have e2:=Z8R (F:=fun (j:Nat) (g:Gp)=>(bif decide (j=i) then Z9w gs i v else 0)*(chi X g.a.toNat-chi X g.b.toNat)) (i:=0) hg fun j g' _ hne=>by
       rw [Nat.zero_add,decide_eq_false hne];simp
     rw [e,e2,ih]
     have hne:=hab i g hg
     rw [Nat.zero_add,decide_eq_true rfl,cond_true]
     unfold Z9w
     rw [hg]
     dsimp only
     rcases hs with ⟨h1,h2,_⟩ | ⟨h1,h2,_⟩
     · rw [decide_eq_true h2,cond_true,h1,h2];omega
     · rw [decide_eq_false (by omega),cond_false,h1,h2];omega
def Drc (f:Nat→Int) (S K:Nat) (gs:List Gp):Prop:=∀ (i:Nat) (g:Gp),gs[i]?=some g→(S.testBit g.a.toNat=true→0≤f i)∧(S.testBit g.b.toNat=true→f i≤0)∧(K.testBit g.a.toNat=true→f i≤0)∧(K.testBit g.b.toNat=true→0≤f i)
structure WayK (gs:List Gp) (op:Nat→Bool) (f:Nat→Int) (S K u:Nat) (l:List (Nat×Nat)) (w:Nat):Prop where
 way:Way gs op f S K u l w
 nd:(l.map (·.1)).Nodup
 from_:S.testBit u=true
 to:K.testBit w=true
theorem Way.mem {gs:List Gp} {op:Nat→Bool} {f:Nat→Int} {S K:Nat}:∀ {l:List (Nat×Nat)} {u w:Nat},Way gs op f S K u l w→∀ x∈l,∃ (g:Gp) (y:Nat),gs[x.1]?=some g∧op x.1=true∧K.testBit y=false∧S.testBit x.2=false∧((g.a.toNat=y∧g.b.toNat=x.2∧f x.1<1)∨(g.b.toNat=y∧g.a.toNat=x.2 ∧ -1<f x.1))
 | [],_,_,_,x,hx=>by cases hx
 | (i,v)::l,u,w,h,x,hx=>by
   cases h with
   | cons hg ho hk hsv hs h =>
     rename_i g
     rcases List.mem_cons.1 hx with rfl | hx
     · exact ⟨g,u,hg,ho,hk,hsv,hs.imp (fun h=>⟨h.1,h.2.1,h.2.2⟩) (fun h=>⟨h.1,h.2.1,h.2.2⟩)⟩
     · exact Way.mem h x hx
theorem Z2Y {gs:List Gp} {op:Nat→Bool} {f0 f:Nat→Int} {S K:Nat} {l:List (Nat×Nat)} {u w:Nat} (h:Way gs op f0 S K u l w) (hab:∀ (i:Nat) (g:Gp),gs[i]?=some g→g.a.toNat≠g.b.toNat) (i:Nat):Z3v gs f l i=f i∨∃ (g:Gp) (v y:Nat),(i,v)∈l∧gs[i]?=some g∧op i=true∧K.testBit y=false∧S.testBit v=false∧((g.a.toNat=y∧g.b.toNat=v∧f0 i<1∧Z3v gs f l i=f i+1)∨(g.b.toNat=y∧g.a.toNat=v ∧ -1<f0 i∧Z3v gs f l i=f i-1)):=by
 unfold Z3v
 cases hf:l.find? fun x=>decide (x.1=i) with
 | none=>left;simp
 | some x =>
   right
   have h1:=List.mem_of_find?_eq_some hf
   have h2:=List.find?_some hf
   obtain ⟨j,v⟩:=x
   have h2:j=i:=by simpa using h2
   subst h2
   obtain ⟨g,y,h3,h4,hk,hsv,h5⟩:=h.mem _ h1
   dsimp only at h3 h4 h5 hsv ⊢
   have hne:=hab _ g h3
   refine ⟨g,v,y,h1,h3,h4,hk,hsv,?_⟩
   unfold Z9w
   rw [h3]
   dsimp only
   rcases h5 with ⟨h7,h8,h9⟩ | ⟨h7,h8,h9⟩
   · left;rw [decide_eq_true h8];exact ⟨h7,h8,h9,rfl⟩
   · right;rw [decide_eq_false (by omega)];exact ⟨h7,h8,h9,rfl⟩
structure Flw (f:Nat→Int) (S K:Nat) (gs:List Gp):Prop where
 one:∀ i,-1≤f i∧f i≤1
 cons:Zj3 f S K gs
 drc:Drc f S K gs
theorem Flw.zero (S K:Nat) (gs:List Gp):Flw (fun _=>0) S K gs∧Z1l (fun _=>0) S gs=0:=by
 have h0:∀ X,Z1l (fun _=>0) X gs=0:=fun X=>by
   unfold Z1l
   rw [Z3e (G:=fun _ _=>0) (fun j g _=>by simp),Z4s]
 exact ⟨⟨fun _=>by omega,fun v _ _ _=>h0 _,fun i g _=>by simp⟩,h0 S⟩
theorem Z5e {v k:Nat}:chi (2 ^ v) k=bif decide (v=k) then 1 else 0:=by unfold chi;rw [Nat.testBit_two_pow]
theorem Z8G {S K:Nat} (hd:∀ v,S.testBit v=true→K.testBit v=false) {w:Nat} (h:K.testBit w=true):S.testBit w=false:=by
 cases hs:S.testBit w with
 | false=>rfl
 | true=>have:=hd w hs;rw [h] at this;cases this
theorem Flw.more {f:Nat→Int} {S K:Nat} {gs:List Gp} (h:Flw f S K gs) (hd:∀ v,S.testBit v=true→K.testBit v=false) (hab:∀ (i:Nat) (g:Gp),gs[i]?=some g→g.a.toNat≠g.b.toNat) {op:Nat→Bool} {u w:Nat} {l:List (Nat×Nat)} (hw:WayK gs op f S K u l w):Flw (Z3v gs f l) S K gs∧Z1l (Z3v gs f l) S gs=Z1l f S gs+1:=by
 have hwS:=Z8G hd hw.to
 refine ⟨⟨fun i=>?_,fun v hv h1 h2=>?_,fun i g hg=>?_⟩,?_⟩
 · have:=h.one i
   rcases Z2Y (f:=f) hw.way hab i with e | ⟨g,v,y,_,_,_,_,_,⟨_,_,h3,e⟩ | ⟨_,_,h3,e⟩⟩<;>rw [e]<;>omega
 · rw [Z3H _ hw.way hw.nd hab,h.cons v hv h1 h2,Z5e,Z5e,decide_eq_false (fun e=>by rw [e,hw.from_] at h1;cases h1),decide_eq_false (fun e=>by rw [e,hw.to] at h2;cases h2)];rfl
 · have hd0:=h.drc i g hg
   rcases Z2Y (f:=f) hw.way hab i with e | ⟨g',v,y,hm,hg',_,hyK,hvS,h5⟩
   · rw [e];exact hd0
   · rw [hg] at hg'
     obtain rfl:=Option.some.inj hg'
     rcases h5 with ⟨rfl,rfl,_,e⟩ | ⟨rfl,rfl,_,e⟩<;>rw [e,hyK,hvS]<;>rw [hyK,hvS] at hd0<;>simp only [Bool.false_eq_true,false_implies,true_and,and_true] at hd0 ⊢ <;> constructor<;>intro h8
     · have:=hd0.1 h8;omega
     · have:=hd0.2 h8;omega
     · have:=hd0.1 h8;omega
     · have:=hd0.2 h8;omega
 · rw [Z3H _ hw.way hw.nd hab]
   unfold chi
   rw [hw.from_,hwS];simp
def Zf0 (f:Nat→Int) (l:List (Nat×Nat)):Nat→Int:=fun i=>bif l.any fun x=>decide (x.1=i) then 0 else f i
theorem Zf1 {gs:List Gp} {f:Nat→Int} {S K:Nat} {l:List (Nat×Nat)} {u w:Nat} (h:Way gs (fun i=>decide (f i≠0)) (fun i => -f i) S K u l w) (hf:∀ i,-1≤f i∧f i≤1) (hab:∀ (i:Nat) (g:Gp),gs[i]?=some g→g.a.toNat≠g.b.toNat) (i:Nat) : -Zf0 f l i=Z3v gs (fun i => -f i) l i:=by
 unfold Zf0
 rcases Z2Y (f:=fun i => -f i) h hab i with e | ⟨g,v,y,hm,hg,ho,_,_,h5⟩
 · rw [e]
   cases ha:l.any fun x=>decide (x.1=i) with
   | false=>rfl
   | true =>
     obtain ⟨x,hx,hxi⟩:=List.any_eq_true.1 ha
     have hxi:=of_decide_eq_true hxi
     obtain ⟨j,v⟩:=x
     dsimp only at hxi
     subst hxi
     obtain ⟨g,y,h3,h4,_,_,h5⟩:=h.mem _ hx
     dsimp only at h3 h4 h5
     have h4:=of_decide_eq_true h4
     have hfi:=hf j
     exfalso
     unfold Z3v at e
     cases hfd:l.find? fun x=>decide (x.1=j) with
     | none =>
       have:=List.find?_eq_none.1 hfd _ hx
       simp at this
     | some z =>
       rw [hfd] at e
       have h1:=List.mem_of_find?_eq_some hfd
       have h2:=List.find?_some hfd
       obtain ⟨j2,v2⟩:=z
       have h2:j2=j:=by simpa using h2
       subst h2
       unfold Z9w at e
       dsimp only at e
       rw [h3] at e
       dsimp only at e
       cases hb:decide (g.b.toNat=v2)<;>rw [hb] at e<;>simp at e<;>omega
 · have ha:(l.any fun x=>decide (x.1=i))=true:=List.any_eq_true.2 ⟨_,hm,by simp⟩
   have ho:=of_decide_eq_true ho
   have:=hf i
   rw [ha,cond_true]
   rcases h5 with ⟨_,_,h6,e⟩ | ⟨_,_,h6,e⟩<;>rw [e]<;>omega
theorem Z8h {f f':Nat→Int} (X:Nat) {gs:List Gp} (h:∀ i,-f i=f' i):Z1l f' X gs = -Z1l f X gs:=by
 have h0:Z1l f' X gs+Z1l f X gs=0:=by
   unfold Z1l
   rw [← Z3F,Z3e (G:=fun _ _=>0) (fun j g _=>by rw [← h,← Int.add_mul,Int.add_left_neg,Int.zero_mul]),Z4s]
 omega
theorem Flw.less {f:Nat→Int} {S K:Nat} {gs:List Gp} (h:Flw f S K gs) (hd:∀ v,S.testBit v=true→K.testBit v=false) (hab:∀ (i:Nat) (g:Gp),gs[i]?=some g→g.a.toNat≠g.b.toNat) {u w:Nat} {l:List (Nat×Nat)} (hw:WayK gs (fun i=>decide (f i≠0)) (fun i => -f i) S K u l w):Flw (Zf0 f l) S K gs∧Z1l (Zf0 f l) S gs=Z1l f S gs-1:=by
 have hwS:=Z8G hd hw.to
 have e:∀ X,Z1l (Zf0 f l) X gs=Z1l f X gs-chi X u+chi X w:=fun X=>by
   have h1:=Z8h X (gs:=gs) (Zf1 hw.way h.one hab)
   have h2:=Z8h X (gs:=gs) (f:=f) (f':=fun i => -f i) fun _=>rfl
   rw [Z3H X hw.way hw.nd hab] at h1
   omega
 refine ⟨⟨fun i=>?_,fun v hv h1 h2=>?_,fun i g hg=>?_⟩,?_⟩
 · have:=h.one i
   unfold Zf0
   cases l.any fun x=>decide (x.1=i)<;>simp<;>omega
 · rw [e,h.cons v hv h1 h2,Z5e,Z5e,decide_eq_false (fun e=>by rw [e,hw.from_] at h1;cases h1),decide_eq_false (fun e=>by rw [e,hw.to] at h2;cases h2)];rfl
 · have hd0:=h.drc i g hg
   unfold Zf0
   cases l.any fun x=>decide (x.1=i) with
   | true=>simp
   | false=>exact hd0
 · rw [e]
   unfold chi
   rw [hw.from_,hwS];simp
end Go.Proofs.YtcfdanhklbklkaaGreat.Wv
