/- Walks of the functions of the program, and the laws that join them: what the last theorem of this claim needs, in order. -/
import Derived.Test.YthijcgkicjljhaaGreatTb4
namespace Go.Proofs.YthijcgkicjljhaaGreat.Wv
set_option linter.unusedSimpArgs false
set_option linter.unusedVariables false
structure Gp where
 a:Int
 b:Int
 deriving DecidableEq,Repr
structure Sgt where
 week:Int
 bin:Int
 seen:Bool
 deriving DecidableEq,Repr
structure Hse where
 bins:Int
 gaps:List Gp
 sights:List Sgt
 deriving DecidableEq,Repr
def na (l:List Int) (k:Nat):Int:=l.getD k 0
@[reducible] def inB (n lo hi : Int) : Bool := decide (lo ≤ n) && decide (n ≤ hi)
def Hse.check (h:Hse):Int :=
 bif !(inB h.bins 1 7)||decide (10<h.gaps.length)||decide (8<h.sights.length) then 2 else
 bif !(h.sights.all fun s=>inB s.week 0 9) then 3 else
 bif !(h.gaps.all fun g=>inB g.a 0 (h.bins-1)&&inB g.b 0 (h.bins-1))||!(h.sights.all fun s=>inB s.bin 0 (h.bins-1)) then 1 else
 bif !(h.gaps.all fun g=>!decide (g=⟨g.b,g.a⟩)) then 5 else 0
structure Hse.ok (h:Hse):Prop where
 bins:1≤h.bins∧h.bins≤7
 gl:h.gaps.length≤10
 sl:h.sights.length≤8
 gaps:∀ g∈h.gaps,(0≤g.a∧g.a<h.bins)∧(0≤g.b∧g.b<h.bins)∧g.a≠g.b
 sights:∀ s∈h.sights,(0≤s.week∧s.week≤9)∧0≤s.bin∧s.bin<h.bins
theorem gp_swap {g:Gp}:g=⟨g.b,g.a⟩↔g.a=g.b:=by
 cases g with
 | mk a b=>simp only [Gp.mk.injEq];omega
theorem hse_ok {h:Hse}:h.check=0↔h.ok:=by
 unfold Hse.check
 simp only [Bool.cond_eq_ite]
 constructor
 · intro h0
   split at h0<;>try (exact absurd h0 (by decide))
   split at h0<;>try (exact absurd h0 (by decide))
   split at h0<;>try (exact absurd h0 (by decide))
   split at h0<;>try (exact absurd h0 (by decide))
   rename_i h1 h2 h3 h4
   simp only [Bool.not_eq_true',Bool.not_eq_true,Bool.or_eq_true,not_or,Bool.not_eq_false',Bool.not_eq_false,inB,Bool.and_eq_true,decide_eq_true_eq,List.all_eq_true,decide_eq_false_iff_not] at h1 h2 h3 h4
   refine ⟨⟨by omega,by omega⟩,by omega,by omega,fun g hg=>?_,fun s hs=>?_⟩
   · have k1:=h3.1 g hg
     have k2:=h4 g hg
     rw [gp_swap] at k2
     exact ⟨by omega,by omega,k2⟩
   · have k1:=h2 s hs
     have k2:=h3.2 s hs
     exact ⟨by omega,by omega⟩
 · intro h0
   have hb:=h0.bins
   have hg:=h0.gl
   have hs:=h0.sl
   have e1:(!(inB h.bins 1 7)||decide (10<h.gaps.length)||decide (8<h.sights.length))=false:=by
     rw [Bool.or_eq_false_iff,Bool.or_eq_false_iff]
     exact ⟨⟨by simp [inB];omega,by simp;omega⟩,by simp;omega⟩
   have e2:(h.sights.all fun s=>inB s.week 0 9)=true:=List.all_eq_true.2 fun s h1=>by have:=h0.sights s h1;simp [inB];omega
   have e3:(h.gaps.all fun g=>inB g.a 0 (h.bins-1)&&inB g.b 0 (h.bins-1))=true:=List.all_eq_true.2 fun g h1=>by have:=h0.gaps g h1;simp [inB];omega
   have e4:(h.sights.all fun s=>inB s.bin 0 (h.bins-1))=true:=List.all_eq_true.2 fun s h1=>by have:=h0.sights s h1;simp [inB];omega
   have e5:(h.gaps.all fun g=>!decide (g=⟨g.b,g.a⟩))=true:=List.all_eq_true.2 fun g h1=>by
     rw [decide_eq_false (fun e=>(h0.gaps g h1).2.2 (gp_swap.1 e))];rfl
   rw [e1,e2,e3,e4,e5];rfl
def Z4f (l:List Int) (v:Int):Bool:=l.any fun x=>decide (v=x)
theorem hasI_iff {l:List Int} {v:Int}:Z4f l v=true↔v∈l:=by
 unfold Z4f
 rw [List.any_eq_true]
 exact ⟨fun ⟨x,h1,h2⟩=>by rw [of_decide_eq_true h2];exact h1,fun h=>⟨v,h,decide_eq_true rfl⟩⟩
def Z6v (l:List Int) (i:Nat):Bool:=Z4f (l.take i) (na l i)
def Z1S (n:Int) (l:List Int):Int:=bif !(l.all fun k=>inB k 0 (n-1)) then 1 else bif (List.range l.length).any (Z6v l) then 5 else 0
def bit (n:Nat) (k:Int):Nat:=n|||2 ^ k.toNat
def msk (l:List Int):Nat:=l.foldl bit 0
theorem Zbj (n:Nat) (k:Int) (j:Nat):(bit n k).testBit j=(n.testBit j||decide (k.toNat=j)):=by
 unfold bit;rw [Nat.testBit_or,Nat.testBit_two_pow]
theorem ZbX (l:List Int) (n j:Nat):(l.foldl bit n).testBit j=(n.testBit j||l.any fun k=>decide (k.toNat=j)):=by
 induction l generalizing n with
 | nil=>simp
 | cons k l ih=>rw [List.foldl_cons,ih,Zbj,List.any_cons,Bool.or_assoc]
theorem ZbY (l:List Int) (j:Nat):(msk l).testBit j=l.any fun k=>decide (k.toNat=j):=by
 unfold msk;rw [ZbX];simp
theorem Z1c {l:List Int} (h:∀ k∈l,0≤k) (j:Nat):(msk l).testBit j=true↔(j:Int)∈l:=by
 rw [ZbY,List.any_eq_true]
 constructor
 · rintro ⟨k,hk,e⟩
   have e:=of_decide_eq_true e
   have:=h k hk
   rwa [show (j:Int)=k by omega]
 · intro hj
   exact ⟨j,hj,by simp⟩
theorem Z0B {m n:Nat} (h:∀ k,m.testBit k=true→k<n):m<2 ^ n:=by
 refine Nat.lt_pow_two_of_testBit m fun i hi=>?_
 cases hb:m.testBit i with
 | false=>rfl
 | true=>have:=h i hb;omega
theorem bits_lt {m n:Nat} (h:m<2 ^ n) {k:Nat} (hk:m.testBit k=true):k<n:=by
 rcases Nat.lt_or_ge k n with h1 | h1
 · exact h1
 · rw [Nat.testBit_lt_two_pow (Nat.lt_of_lt_of_le h (Nat.pow_le_pow_right (by decide) h1))] at hk;cases hk
theorem Z0P {m n:Nat} (h:∀ k,m.testBit k=n.testBit k):m=n:=Nat.eq_of_testBit_eq h
def gpo (m:Nat) (g:Gp):Nat:=(bif m.testBit g.a.toNat then 2 ^ g.b.toNat else 0)|||(bif m.testBit g.b.toNat then 2 ^ g.a.toNat else 0)
def Zin (cl m:Nat):List Gp→Nat→Nat→Nat
 | [],_,acc=>acc
 | g::gs,i,acc=>Zin cl m gs (i+1) (bif cl.testBit i then acc else acc|||gpo m g)
def spr (gs:List Gp) (cl m:Nat):Nat:=Zin cl m gs 0 m
def Adj (gs:List Gp) (cl:Nat) (u v:Nat):Prop:=∃ i g,gs[i]?=some g∧cl.testBit i=false∧((g.a.toNat=u∧g.b.toNat=v)∨(g.b.toNat=u∧g.a.toNat=v))
theorem gpo_test {m:Nat} {g:Gp} {v:Nat}:(gpo m g).testBit v=true↔(m.testBit g.a.toNat=true∧g.b.toNat=v)∨(m.testBit g.b.toNat=true∧g.a.toNat=v):=by
 unfold gpo
 rw [Nat.testBit_or,Bool.or_eq_true]
 refine or_congr ?_ ?_
 · cases h:m.testBit g.a.toNat with
   | false=>simp
   | true=>simp [Nat.testBit_two_pow]
 · cases h:m.testBit g.b.toNat with
   | false=>simp
   | true=>simp [Nat.testBit_two_pow]
theorem Z3O {cl m v:Nat}:∀ (gs:List Gp) (i acc:Nat),(Zin cl m gs i acc).testBit v=true↔acc.testBit v=true∨∃ j g,gs[j]?=some g∧cl.testBit (i+j)=false∧(gpo m g).testBit v=true
 | [],i,acc=>by simp [Zin]
 | g::gs,i,acc=>by
   unfold Zin
   rw [Z3O gs (i+1)]
   constructor
   · rintro (h | ⟨j,g',h1,h2,h3⟩)
     · cases hc:cl.testBit i with
       | true=>rw [hc] at h;exact .inl h
       | false =>
         rw [hc,cond_false,Nat.testBit_or,Bool.or_eq_true] at h
         exact h.imp id fun h=>⟨0,g,rfl,by simpa using hc,h⟩
     · exact .inr ⟨j+1,g',by simpa using h1,by rw [show i+(j+1)=i+1+j by omega];exact h2,h3⟩
   · rintro (h | ⟨j,g',h1,h2,h3⟩)
     · left
       cases hc:cl.testBit i with
       | true=>exact h
       | false=>rw [cond_false,Nat.testBit_or,h,Bool.true_or]
     · cases j with
       | zero =>
         left
         rw [List.getElem?_cons_zero,Option.some.injEq] at h1
         subst h1
         rw [Nat.add_zero] at h2
         rw [h2,cond_false,Nat.testBit_or,h3,Bool.or_true]
       | succ j=>exact .inr ⟨j,g',by simpa using h1,by rw [show i+1+j=i+(j+1) by omega];exact h2,h3⟩
theorem spr_test {gs:List Gp} {cl m v:Nat}:(spr gs cl m).testBit v=true↔m.testBit v=true∨∃ u,m.testBit u=true∧Adj gs cl u v:=by
 unfold spr
 rw [Z3O]
 refine or_congr Iff.rfl ?_
 constructor
 · rintro ⟨j,g,h1,h2,h3⟩
   rw [Nat.zero_add] at h2
   rcases gpo_test.1 h3 with ⟨h4,h5⟩ | ⟨h4,h5⟩
   · exact ⟨_,h4,j,g,h1,h2,.inl ⟨rfl,h5⟩⟩
   · exact ⟨_,h4,j,g,h1,h2,.inr ⟨rfl,h5⟩⟩
 · rintro ⟨u,hu,j,g,h1,h2,h3⟩
   refine ⟨j,g,h1,by rw [Nat.zero_add];exact h2,gpo_test.2 ?_⟩
   rcases h3 with ⟨h4,h5⟩ | ⟨h4,h5⟩
   · exact .inl ⟨by rw [h4];exact hu,h5⟩
   · exact .inr ⟨by rw [h4];exact hu,h5⟩
theorem Z1E {gs:List Gp} {cl m v:Nat} (h:m.testBit v=true):(spr gs cl m).testBit v=true:=spr_test.2 (.inl h)
theorem Adj.symm {gs:List Gp} {cl u v:Nat} (h:Adj gs cl u v):Adj gs cl v u:=by
 obtain ⟨i,g,h1,h2,h3⟩:=h
 exact ⟨i,g,h1,h2,h3.elim (fun h=>.inr ⟨h.2,h.1⟩) (fun h=>.inl ⟨h.2,h.1⟩)⟩
def lv (gs:List Gp) (cl m:Nat):Nat→Nat
 | 0=>m
 | t+1=>spr gs cl (lv gs cl m t)
theorem ZeC {gs:List Gp} {cl m:Nat}:∀ {t t':Nat},t≤t'→∀ {v:Nat},(lv gs cl m t).testBit v=true→(lv gs cl m t').testBit v=true
 | t, 0, h, v, hv => by obtain rfl : t = 0 := by omega
                        exact hv
 | t,t'+1,h,v,hv=>by
   rcases Nat.lt_or_ge t' t with h1 | h1
   · obtain rfl:t=t'+1:=by omega
     exact hv
   · exact Z1E (ZeC h1 hv)
theorem Z3E {gs:List Gp} {cl m t:Nat} (h:spr gs cl (lv gs cl m t)=lv gs cl m t):∀ j,lv gs cl m (t+j)=lv gs cl m t
 | 0=>rfl
 | j+1=>by show spr gs cl (lv gs cl m (t+j))=_;rw [Z3E h j,h]
def cnt (n m:Nat):Nat:=(List.range n).countP fun k=>m.testBit k
theorem Z9P (n m:Nat):cnt n m≤n:=by
 unfold cnt;exact Nat.le_trans (List.countP_le_length) (by simp)
theorem Z5E {α:Type} {p q:α→Bool}:∀ {l:List α},(∀ x∈l,p x=true→q x=true)→(∃ x∈l,q x=true∧p x=false)→l.countP p<l.countP q
 | [],_,h=>by obtain ⟨x,hx,_⟩:=h;cases hx
 | y::l,h,he=>by
   rw [List.countP_cons,List.countP_cons]
   have hm:l.countP p≤l.countP q:=List.countP_mono_left fun x hx=>h x (List.mem_cons_of_mem _ hx)
   obtain ⟨x,hx,hq,hp⟩:=he
   rcases List.mem_cons.1 hx with rfl | hx
   · rw [hp,hq];simp;omega
   · have ih:=Z5E (fun z hz=>h z (List.mem_cons_of_mem _ hz)) ⟨x,hx,hq,hp⟩
     have h1:=h y List.mem_cons_self
     cases hpy:p y with
     | true=>rw [h1 hpy];simp;omega
     | false=>cases q y<;>simp<;>omega
theorem Zhv {n m m':Nat} (h:∀ k<n,m.testBit k=true→m'.testBit k=true) {k:Nat} (hk:k<n) (h1:m'.testBit k=true) (h2:m.testBit k=false):cnt n m<cnt n m' :=
 Z5E (fun x hx=>h x (List.mem_range.1 hx)) ⟨k,List.mem_range.2 hk,h1,h2⟩
theorem ZbA {n m m':Nat} (h:∀ k<n,m.testBit k=true→m'.testBit k=true):cnt n m≤cnt n m':=List.countP_mono_left fun x hx=>h x (List.mem_range.1 hx)
def Wth (gs:List Gp) (n:Nat):Prop:=∀ g∈gs,g.a.toNat<n∧g.b.toNat<n
theorem Adj.lt {gs:List Gp} {n cl u v:Nat} (h:Wth gs n) (ha:Adj gs cl u v):u<n∧v<n:=by
 obtain ⟨i,g,h1,_,h3⟩:=ha
 have:=h g (List.mem_of_getElem? h1)
 omega
theorem Z65 {gs:List Gp} {n cl m:Nat} (h:Wth gs n) (hm:m<2 ^ n):spr gs cl m<2 ^ n:=Z0B fun k hk=>by
 rcases spr_test.1 hk with h1 | ⟨u,_,h2⟩
 · exact bits_lt hm h1
 · exact (h2.lt h).2
theorem ZbT {gs:List Gp} {n cl m:Nat} (h:Wth gs n) (hm:m<2 ^ n):∀ t,lv gs cl m t<2 ^ n
 | 0=>hm
 | t+1=>Z65 h (ZbT h hm t)
theorem Z58 {gs:List Gp} {n cl m:Nat} (h:Wth gs n) (hm:m<2 ^ n) (hne:spr gs cl m≠m):cnt n m<cnt n (spr gs cl m):=by
 obtain ⟨k,h1,h2⟩:∃ k,(spr gs cl m).testBit k=true∧m.testBit k=false:=Classical.byContradiction fun hc=>hne (Z0P fun k=>by
   cases hk:m.testBit k with
   | true=>exact Z1E hk
   | false=>cases hs:(spr gs cl m).testBit k with
     | false=>rfl
     | true=>exact absurd ⟨k,hs,hk⟩ hc)
 exact Zhv (fun k _ hk=>Z1E hk) (bits_lt (Z65 h hm) h1) h1 h2
theorem Zi2 {gs:List Gp} {n cl m:Nat} (h:Wth gs n) (hm:m<2 ^ n) (h0:m≠0) {t:Nat} (ht:n≤t+1):spr gs cl (lv gs cl m t)=lv gs cl m t:=by
 have key:∀ j,(∃ i≤j,spr gs cl (lv gs cl m i)=lv gs cl m i)∨j+1+1≤cnt n (lv gs cl m (j+1)):=by
   have c0:1≤cnt n m:=by
     obtain ⟨k,hk⟩:∃ k,m.testBit k=true:=Classical.byContradiction fun hc=>h0 (Z0P fun k=>by
       rw [Nat.zero_testBit]
       cases hk:m.testBit k with
       | false=>rfl
       | true=>exact absurd ⟨k,hk⟩ hc)
     unfold cnt
     exact List.countP_pos_iff.2 ⟨k,List.mem_range.2 (bits_lt hm hk),hk⟩
   intro j
   induction j with
   | zero =>
     by_cases he:spr gs cl (lv gs cl m 0)=lv gs cl m 0
     · exact .inl ⟨0,Nat.le_refl _,he⟩
     · have:=Z58 h (ZbT h hm 0) he
       exact .inr (by show 2≤cnt n (spr gs cl (lv gs cl m 0));show 2≤_;have e:lv gs cl m 0=m:=rfl;rw [e] at this ⊢;omega)
   | succ j ih =>
     rcases ih with ⟨i,hi,he⟩ | ih
     · exact .inl ⟨i,by omega,he⟩
     · by_cases he:spr gs cl (lv gs cl m (j+1))=lv gs cl m (j+1)
       · exact .inl ⟨j+1,Nat.le_refl _,he⟩
       · have:=Z58 h (ZbT h hm (j+1)) he
         exact .inr (by show _≤cnt n (spr gs cl (lv gs cl m (j+1)));omega)
 rcases key t with ⟨i,hi,he⟩ | h1
 · obtain ⟨d,rfl⟩:∃ d,t=i+d:=⟨t-i,by omega⟩
   rw [Z3E he d,he]
 · have:=Z9P n (lv gs cl m (t+1));omega
theorem Z4U {gs:List Gp} {cl:Nat}:∀ t,lv gs cl 0 t=0
 | 0=>rfl
 | t+1=>by
   show spr gs cl (lv gs cl 0 t)=0
   rw [Z4U t]
   refine Z0P fun k=>?_
   rw [Nat.zero_testBit]
   cases hk:(spr gs cl 0).testBit k with
   | false=>rfl
   | true=>rcases spr_test.1 hk with h1 | ⟨u,h1,_⟩<;>simp at h1
theorem Z6O {gs:List Gp} {n cl m:Nat} (h:Wth gs n) (hm:m<2 ^ n) {t:Nat} (ht:n≤t+1) {j:Nat} (hj:t≤j):lv gs cl m j=lv gs cl m t:=by
 by_cases h0:m=0
 · subst h0;rw [Z4U,Z4U]
 · obtain ⟨d,rfl⟩:∃ d,j=t+d:=⟨j-t,by omega⟩
   exact Z3E (Zi2 h hm h0 ht) d
def far:Int:=1048576
def wk (gs:List Gp) (cl m k:Nat):Int:=match (List.range 7).find? fun t=>(lv gs cl m t).testBit k with
 | some t=>(t:Int)
 | none=>far
def wks (gs:List Gp) (cl m:Nat):List Int:=(List.range 7).map (wk gs cl m)
theorem ZV (gs:List Gp) (cl m:Nat):(wks gs cl m).length=7:=by simp [wks]
theorem Z1n {gs:List Gp} {cl m k:Nat} (hk:k<7):na (wks gs cl m) k=wk gs cl m k:=by
 unfold na wks
 rw [List.getD_eq_getElem?_getD,List.getElem?_map,List.getElem?_range hk];rfl
theorem Z1m (gs:List Gp) (cl m k:Nat):(∃ t:Nat,t<7∧wk gs cl m k=t∧(lv gs cl m t).testBit k=true∧∀ i:Nat,i<t→(lv gs cl m i).testBit k=false)∨(wk gs cl m k=far∧∀ i:Nat,i<7→(lv gs cl m i).testBit k=false):=by
 unfold wk
 rcases hf:(List.range 7).find? fun t=>(lv gs cl m t).testBit k with _ | t
 · refine .inr ⟨rfl,fun i hi=>?_⟩
   have:=List.find?_eq_none.1 hf i (List.mem_range.2 hi)
   simpa using this
 · obtain ⟨h1,lp,lq,h2,h3⟩:=List.find?_eq_some_iff_append.1 hf
   have hm:t∈List.range 7:=by rw [h2];simp
   refine .inl ⟨t,List.mem_range.1 hm,rfl,h1,fun i hi=>?_⟩
   have hi7:i∈List.range 7:=List.mem_range.2 (by have:=List.mem_range.1 hm;omega)
   have hp:=List.pairwise_lt_range (n:=7)
   rw [h2] at hi7 hp
   rw [List.pairwise_append] at hp
   rcases List.mem_append.1 hi7 with h4 | h4
   · have:=h3 i h4;simpa using this
   · rcases List.mem_cons.1 h4 with rfl | h4
     · omega
     · have:=(List.pairwise_cons.1 hp.2.1).1 i h4;omega
theorem Z5i (gs:List Gp) (cl m k:Nat):0≤wk gs cl m k∧wk gs cl m k≤far∧(wk gs cl m k<far→wk gs cl m k≤6):=by
 unfold far
 rcases Z1m gs cl m k with ⟨t,h1,h2,_⟩ | ⟨h1,_⟩
 · rw [h2];omega
 · rw [h1];unfold far;omega
theorem Z8n {gs:List Gp} {cl m k:Nat} (h:Wth gs 7) (hm:m<2 ^ 7) {t:Nat} (ht:(t:Int)<far):wk gs cl m k≤t↔(lv gs cl m t).testBit k=true:=by
 unfold far at ht
 rcases Z1m gs cl m k with ⟨i,h1,h2,h3,h4⟩ | ⟨h1,h2⟩
 · rw [h2]
   constructor
   · intro h5;exact ZeC (by omega) h3
   · intro h5
     rcases Nat.lt_or_ge t i with h6 | h6
     · rw [h4 t h6] at h5;cases h5
     · omega
 · rw [h1]
   unfold far
   constructor
   · intro h5;omega
   · intro h5
     rcases Nat.lt_or_ge t 7 with h6 | h6
     · rw [h2 t h6] at h5;cases h5
     · rw [Z6O h hm (t:=6) (by decide) (by omega),h2 6 (by decide)] at h5;cases h5
theorem Zb5 {gs:List Gp} {cl m:Nat} {w:Nat→Int} (h1:∀ k<7,wk gs cl m k≤w k) (h2:∀ k<7,m.testBit k=true→w k≤0) (h3:∀ u v,u<7→v<7→Adj gs cl u v→w v≤w u+1) (h4:∀ k<7,w k≤far) (hw:Wth gs 7) (hm:m<2 ^ 7):∀ k<7,w k=wk gs cl m k:=by
 have key:∀ t:Nat,∀ k<7,(lv gs cl m t).testBit k=true→w k≤t:=by
   intro t
   induction t with
   | zero=>intro k hk h;exact h2 k hk h
   | succ t ih =>
     intro k hk h
     rcases spr_test.1 h with h5 | ⟨u,h5,h6⟩
     · have:=ih k hk h5;omega
     · have hu:=(h6.lt hw).1
       have:=ih u hu h5
       have:=h3 u k hu hk h6
       omega
 intro k hk
 have h5:=h1 k hk
 rcases Z1m gs cl m k with ⟨t,h6,h7,h8,_⟩ | ⟨h6,_⟩
 · have:=key t k hk h8;omega
 · have:=h4 k hk;omega
theorem Ziu {gs:List Gp} {cl m u v:Nat} (hw:Wth gs 7) (hm:m<2 ^ 7) (ha:Adj gs cl u v):wk gs cl m v≤wk gs cl m u+1:=by
 rcases Z1m gs cl m u with ⟨t,h1,h2,h3,_⟩ | ⟨h1,_⟩
 · have:wk gs cl m v≤((t+1:Nat):Int):=(Z8n hw hm (by unfold far;omega)).2 (spr_test.2 (.inr ⟨u,h3,ha⟩))
   omega
 · have:=(Z5i gs cl m v).2.1;omega
theorem Zb4 {gs:List Gp} {cl m k:Nat} (h:m.testBit k=true):wk gs cl m k=0:=by
 rcases Z1m gs cl m k with ⟨t,h1,h2,_,h4⟩ | ⟨_,h2⟩
 · cases t with
   | zero=>exact h2
   | succ t=>have:=h4 0 (by omega);rw [show lv gs cl m 0=m from rfl,h] at this;cases this
 · have:=h2 0 (by decide);rw [show lv gs cl m 0=m from rfl,h] at this;cases this
theorem Hse.ok.wth {h:Hse} (hk:h.ok):Wth h.gaps 7:=fun g hg=>by
 have:=hk.gaps g hg
 have:=hk.bins
 omega
theorem lv_bit {gs:List Gp} {cl m v:Nat}:∀ {t:Nat},(lv gs cl m t).testBit v=true↔∃ u,m.testBit u=true∧(lv gs cl (2 ^ u) t).testBit v=true:=by
 intro t
 induction t generalizing v with
 | zero =>
   show m.testBit v=true↔∃ u,m.testBit u=true∧(2 ^ u).testBit v=true
   constructor
   · intro h;exact ⟨v,h,by rw [Nat.testBit_two_pow];simp⟩
   · rintro ⟨u,h1,h2⟩
     rw [Nat.testBit_two_pow] at h2
     obtain rfl:=of_decide_eq_true h2
     exact h1
 | succ t ih =>
   show (spr gs cl (lv gs cl m t)).testBit v=true↔∃ u,m.testBit u=true∧(spr gs cl (lv gs cl (2 ^ u) t)).testBit v=true
   constructor
   · intro h
     rcases spr_test.1 h with h1 | ⟨x,h1,h2⟩
     · obtain ⟨u,h3,h4⟩:=ih.1 h1
       exact ⟨u,h3,Z1E h4⟩
     · obtain ⟨u,h3,h4⟩:=ih.1 h1
       exact ⟨u,h3,spr_test.2 (.inr ⟨x,h4,h2⟩)⟩
   · rintro ⟨u,h1,h2⟩
     rcases spr_test.1 h2 with h3 | ⟨x,h3,h4⟩
     · exact Z1E (ih.2 ⟨u,h1,h3⟩)
     · exact spr_test.2 (.inr ⟨x,ih.2 ⟨u,h1,h3⟩,h4⟩)
theorem Z6P {gs:List Gp} {cl m m' t v:Nat} (h:∀ u,m.testBit u=true→m'.testBit u=true) (hv:(lv gs cl m t).testBit v=true):(lv gs cl m' t).testBit v=true:=by
 obtain ⟨u,h1,h2⟩:=lv_bit.1 hv
 exact lv_bit.2 ⟨u,h u h1,h2⟩
def exS (gs:List Gp) (m:Nat) (s:Sgt):Bool:=decide (wk gs 0 m s.bin.toNat≤s.week) == s.seen
def expl (gs:List Gp) (m:Nat) (ss:List Sgt):Bool:=ss.all (exS gs m)
def Z8b (gs:List Gp) (ss:List Sgt) (k:Nat):Bool:=ss.all fun s=>s.seen||decide (s.week<wk gs 0 (2 ^ k) s.bin.toNat)
def Z5l (gs:List Gp) (ss:List Sgt) (but week:Int) (k:Nat):Bool:=!(decide (0≤but)&&decide (wk gs 0 (2 ^ k) but.toNat≤week))&&Z8b gs ss k
def Hse.clr (h:Hse) (ss:List Sgt) (but week:Int):List Int:=((List.range h.bins.toNat).filter (Z5l h.gaps ss but week)).map fun (k:Nat)=>(k:Int)
def Hse.agr (h:Hse) (ss:List Sgt):Bool:=expl h.gaps (msk (h.clr ss (-1) 0)) ss
def SOk (h:Hse) (ss:List Sgt):Prop:=∀ s∈ss,(0≤s.week∧s.week≤9)∧0≤s.bin∧s.bin<h.bins
theorem Hse.ok.lt (h:Hse) (hk:h.ok):h.bins.toNat≤7∧(h.bins.toNat:Int)=h.bins∧1≤h.bins.toNat:=by have:=hk.bins;omega
theorem Z2n {l:List Int} {n:Nat} (h:∀ k∈l,0≤k∧k<n):msk l<2 ^ n:=Z0B fun k hk=>by
 have:=h _ ((Z1c (fun k hk=>(h k hk).1) k).1 hk);omega
theorem Zie {n m:Nat} (hn:n≤7) (h:m<2 ^ n):m<2 ^ 7:=Nat.lt_of_lt_of_le h (Nat.pow_le_pow_right (by decide) hn)
theorem Zdm {k n:Nat} (h:k<n):2 ^ k<2 ^ n:=Nat.pow_lt_pow_right (by decide) h
theorem Zeh {h:Hse} (hk:h.ok) {m:Nat} (hm:m<2 ^ 7) {s:Sgt} (hs:0≤s.week∧s.week≤9):exS h.gaps m s=true↔(lv h.gaps 0 m s.week.toNat).testBit s.bin.toNat=s.seen:=by
 unfold exS
 have h1:=Z8n (k:=s.bin.toNat) hk.wth hm (t:=s.week.toNat) (cl:=0) (by unfold far;omega)
 rw [show ((s.week.toNat:Nat):Int)=s.week by omega] at h1
 rw [beq_iff_eq]
 cases hb:(lv h.gaps 0 m s.week.toNat).testBit s.bin.toNat with
 | true=>rw [hb] at h1;rw [decide_eq_true (h1.2 rfl)]
 | false=>rw [hb] at h1;rw [decide_eq_false (fun e=>by cases h1.1 e)]
theorem Z4H {h:Hse} (hk:h.ok) {m:Nat} (hm:m<2 ^ 7) {ss:List Sgt} (hs:SOk h ss):expl h.gaps m ss=true↔∀ s∈ss,(lv h.gaps 0 m s.week.toNat).testBit s.bin.toNat=s.seen:=by
 unfold expl
 rw [List.all_eq_true]
 exact forall_congr' fun s=>forall_congr' fun h1=>Zeh hk hm (hs s h1).1
theorem Z7y {h:Hse} (hk:h.ok) {k:Nat} (hk7:k<7) {ss:List Sgt} (hs:SOk h ss):Z8b h.gaps ss k=true↔∀ s∈ss,s.seen=false→(lv h.gaps 0 (2 ^ k) s.week.toNat).testBit s.bin.toNat=false:=by
 unfold Z8b
 rw [List.all_eq_true]
 refine forall_congr' fun s=>forall_congr' fun h1=>?_
 have h2:=Z8n (k:=s.bin.toNat) hk.wth (Zdm hk7) (t:=s.week.toNat) (cl:=0) (by have:=(hs s h1).1;unfold far;omega)
 rw [show ((s.week.toNat:Nat):Int)=s.week by have:=(hs s h1).1;omega] at h2
 cases hse:s.seen with
 | true=>simp
 | false =>
   rw [Bool.false_or,decide_eq_true_eq]
   cases hb:(lv h.gaps 0 (2 ^ k) s.week.toNat).testBit s.bin.toNat with
   | true=>rw [hb] at h2;have:=h2.2 rfl;simp;omega
   | false=>rw [hb] at h2;simp;rcases Int.lt_or_le s.week (wk h.gaps 0 (2 ^ k) s.bin.toNat) with h3 | h3;exact h3;exact absurd (h2.1 h3) (by simp)
theorem clr_mem {h:Hse} {ss:List Sgt} {but week:Int} {j:Int}:j∈h.clr ss but week↔∃ k:Nat,k<h.bins.toNat∧Z5l h.gaps ss but week k=true∧j=k:=by
 unfold Hse.clr
 simp only [List.mem_map,List.mem_filter,List.mem_range]
 constructor
 · rintro ⟨k,⟨h1,h2⟩,rfl⟩;exact ⟨k,h1,h2,rfl⟩
 · rintro ⟨k,h1,h2,rfl⟩;exact ⟨k,⟨h1,h2⟩,rfl⟩
theorem Z5C {h:Hse} {ss:List Sgt} {but week:Int}:∀ j∈h.clr ss but week,0≤j∧j<h.bins.toNat:=fun j hj=>by
 obtain ⟨k,h1,_,rfl⟩:=clr_mem.1 hj;omega
theorem clr_bit {h:Hse} {ss:List Sgt} {but week:Int} {k:Nat}:(msk (h.clr ss but week)).testBit k=true↔k<h.bins.toNat∧Z5l h.gaps ss but week k=true:=by
 rw [Z1c (fun j hj=>(Z5C j hj).1),clr_mem]
 constructor
 · rintro ⟨j,h1,h2,e⟩;obtain rfl:k=j:=by omega
   exact ⟨h1,h2⟩
 · rintro ⟨h1,h2⟩;exact ⟨k,h1,h2,rfl⟩
theorem Z5B {h:Hse} (hk:h.ok) {ss:List Sgt} {but week:Int}:msk (h.clr ss but week)<2 ^ h.bins.toNat:=Z2n Z5C
theorem Z6l {h:Hse} (hk:h.ok) {ss:List Sgt} {but week:Int} (hw:week≤9) {k:Nat} (hk7:k<7):Z5l h.gaps ss but week k=true↔(0≤but→0≤week→(lv h.gaps 0 (2 ^ k) week.toNat).testBit but.toNat=false)∧Z8b h.gaps ss k=true:=by
 unfold Z5l
 rw [Bool.and_eq_true]
 refine and_congr ?_ Iff.rfl
 rw [Bool.not_eq_true',Bool.and_eq_false_iff,decide_eq_false_iff_not,decide_eq_false_iff_not]
 rcases Int.lt_or_le week 0 with h0 | h0
 · have:=(Z5i h.gaps 0 (2 ^ k) but.toNat).1
   constructor
   · intro _ _ h1;omega
   · intro _;right;omega
 · have h2:=Z8n (k:=but.toNat) hk.wth (Zdm hk7) (t:=week.toNat) (cl:=0) (by unfold far;omega)
   rw [show ((week.toNat:Nat):Int)=week by omega] at h2
   rw [h2]
   constructor
   · rintro (h3 | h3) h4 _
     · exact absurd h4 h3
     · simpa using h3
   · intro h3
     by_cases h4:0≤but
     · right;rw [h3 h4 h0];decide
     · exact .inl h4
theorem Z7n {h:Hse} (hk:h.ok) {ss:List Sgt} (hs:SOk h ss) {m:Nat} (hm:m<2 ^ h.bins.toNat) (he:expl h.gaps m ss=true) {but week:Int} (hw:week≤9) (hb:0≤but→0≤week→(lv h.gaps 0 m week.toNat).testBit but.toNat=false):∀ k,m.testBit k=true→(msk (h.clr ss but week)).testBit k=true:=fun k hkm=>by
 have hn:=hk.lt
 have hk1:=bits_lt hm hkm
 rw [clr_bit,Z6l hk hw (by omega),Z7y hk (by omega) hs]
 rw [Z4H hk (Zie hn.1 hm) hs] at he
 refine ⟨hk1,fun h1 h2=>?_,fun s h1 h2=>?_⟩
 · have:=hb h1 h2
   cases hc:(lv h.gaps 0 (2 ^ k) week.toNat).testBit but.toNat with
   | false=>rfl
   | true=>rw [lv_bit.2 ⟨k,hkm,hc⟩] at this;cases this
 · have:=he s h1
   rw [h2] at this
   cases hc:(lv h.gaps 0 (2 ^ k) s.week.toNat).testBit s.bin.toNat with
   | false=>rfl
   | true=>rw [lv_bit.2 ⟨k,hkm,hc⟩] at this;cases this
theorem Z7g {h:Hse} (hk:h.ok) {ss:List Sgt} (hs:SOk h ss) {m:Nat} (hm:m<2 ^ h.bins.toNat) (he:expl h.gaps m ss=true) {but week:Int} (hw:week≤9) (hb:0≤but→0≤week→(lv h.gaps 0 m week.toNat).testBit but.toNat=false):expl h.gaps (msk (h.clr ss but week)) ss=true:=by
 have hn:=hk.lt
 have hsub:=Z7n hk hs hm he hw hb
 have hc7:=Zie hn.1 (Z5B hk (ss:=ss) (but:=but) (week:=week))
 rw [Z4H hk (Zie hn.1 hm) hs] at he
 rw [Z4H hk hc7 hs]
 intro s h1
 cases hse:s.seen with
 | true=>exact Z6P hsub (by rw [he s h1,hse])
 | false =>
   cases hc:(lv h.gaps 0 (msk (h.clr ss but week)) s.week.toNat).testBit s.bin.toNat with
   | false=>rfl
   | true =>
     obtain ⟨u,h2,h3⟩:=lv_bit.1 hc
     obtain ⟨h4,h5⟩:=clr_bit.1 h2
     rw [Z6l hk hw (by omega),Z7y hk (by omega) hs] at h5
     rw [h5.2 s h1 hse] at h3;cases h3
theorem Z4u {h:Hse} (hk:h.ok) {ss:List Sgt} (hs:SOk h ss):h.agr ss=true↔∃ m,m<2 ^ h.bins.toNat∧expl h.gaps m ss=true :=
 ⟨fun h1=>⟨_,Z5B hk,h1⟩,fun ⟨_,h1,h2⟩=>Z7g hk hs h1 h2 (by decide) (fun h3=>absurd h3 (by decide))⟩
theorem Zcs {h:Hse} (hk:h.ok) {ss:List Sgt} (hs:SOk h ss) {k:Nat} {week:Int} (hw:0≤week∧week≤9):expl h.gaps (msk (h.clr ss k week)) ss=false↔∀ m,m<2 ^ h.bins.toNat→expl h.gaps m ss=true→(lv h.gaps 0 m week.toNat).testBit k=true:=by
 have hn:=hk.lt
 constructor
 · intro h1 m hm he
   cases hc:(lv h.gaps 0 m week.toNat).testBit k with
   | true=>rfl
   | false=>rw [Z7g hk hs hm he hw.2 (fun _ _=>by rw [Int.toNat_natCast];exact hc)] at h1;cases h1
 · intro h1
   cases hc:expl h.gaps (msk (h.clr ss k week)) ss with
   | false=>rfl
   | true =>
     have h2:=h1 _ (Z5B hk) hc
     obtain ⟨u,h3,h4⟩:=lv_bit.1 h2
     obtain ⟨h5,h6⟩:=clr_bit.1 h3
     have h7:=((Z6l hk hw.2 (by omega)).1 h6).1 (by omega) hw.1
     rw [Int.toNat_natCast,h4] at h7;cases h7
theorem Zc3 {h:Hse} (hk:h.ok) {ss:List Sgt} (hs:SOk h ss) (ha:h.agr ss=true) {k:Nat} {week:Int}:(lv h.gaps 0 (msk (h.clr ss (-1) 0)) week.toNat).testBit k=true↔∃ m,m<2 ^ h.bins.toNat∧expl h.gaps m ss=true∧(lv h.gaps 0 m week.toNat).testBit k=true :=
 ⟨fun h1=>⟨_,Z5B hk,ha,h1⟩,fun ⟨_,h1,h2,h3⟩=>Z6P (Z7n hk hs h1 h2 (by decide) (fun h3=>absurd h3 (by decide))) h3⟩
def ZH (ag:List Int→Bool) (n:Nat):Nat→List Int→Nat→Option (List Int)
 | 0,l,_=>bif ag l then none else some l
 | r+1,l,fr=>(List.range' fr (n-fr)).findSome? fun (i:Nat)=>ZH ag n r (l++[((i:Nat):Int)]) (i+1)
theorem Z2G {α:Type} {f:Nat→Option α}:∀ (n s:Nat) {x:α},(List.range' s n).findSome? f=some x→∃ k,s≤k∧k<s+n∧f k=some x∧∀ j,s≤j→j<k→f j=none
 | 0,s,x,h=>by simp at h
 | n+1,s,x,h=>by
   rw [List.range'_succ,List.findSome?_cons] at h
   cases hf:f s with
   | some y=>rw [hf] at h;obtain rfl:=Option.some.inj h;exact ⟨s,by omega,by omega,hf,fun j h1 h2=>by omega⟩
   | none =>
     rw [hf] at h
     obtain ⟨k,h1,h2,h3,h4⟩:=Z2G n (s+1) h
     exact ⟨k,by omega,by omega,h3,fun j h5 h6=>by
       rcases Nat.eq_or_lt_of_le h5 with rfl | h7
       · exact hf
       · exact h4 j (by omega) h6⟩
theorem Z4V {ag:List Int→Bool} {n:Nat}:∀ (y:List Nat) {fr:Nat} {l:List Int},ZH ag n y.length l fr=none→y.Pairwise (· < ·)→(∀ j∈y,fr≤j∧j<n)→ag (l++y.map fun (j:Nat)=>(j:Int))=true
 | [],fr,l,h,_,_=>by
   simp only [List.length_nil,ZH] at h
   cases ha:ag l with
   | true=>simpa using ha
   | false=>rw [ha] at h;cases h
 | j::y,fr,l,h,hp,hb=>by
   rw [List.length_cons,ZH,List.findSome?_eq_none_iff] at h
   have hj:=hb j (by simp)
   have h1:=h j (List.mem_range'_1.2 ⟨hj.1,by omega⟩)
   obtain ⟨h2,h3⟩:=List.pairwise_cons.1 hp
   have h4:=Z4V y h1 h3 (fun i hi=>⟨h2 i hi,(hb i (by simp [hi])).2⟩)
   simpa using h4
theorem and0_iff {a b:Nat}:a&&&b=0↔∀ i,(a.testBit i&&b.testBit i)=false:=by
 constructor
 · intro h i;rw [← Nat.testBit_and,h,Nat.zero_testBit]
 · intro h;exact Nat.eq_of_testBit_eq fun i=>by rw [Nat.testBit_and,h,Nat.zero_testBit]
def Z0K (s:Nat):List Int:=((List.range 10).filter fun i=>s.testBit i).map fun (i:Nat)=>(i:Int)
theorem Z7N:∀ {a b:List Nat},a.Pairwise (· < ·)→b.Pairwise (· < ·)→(∀ x,x∈a↔x∈b)→a=b
 | [],[],_,_,_=>rfl
 | [],y::b,_,_,h=>by have:=(h y).2 (by simp);cases this
 | x::a,[],_,_,h=>by have:=(h x).1 (by simp);cases this
 | x::a,y::b,ha,hb,h=>by
   obtain ⟨h1,h2⟩:=List.pairwise_cons.1 ha
   obtain ⟨h3,h4⟩:=List.pairwise_cons.1 hb
   have hxy:x=y:=by
     rcases List.mem_cons.1 ((h x).1 (by simp)) with e | e
     · exact e
     · rcases List.mem_cons.1 ((h y).2 (by simp)) with e2 | e2
       · exact e2.symm
       · have:=h3 x e;have:=h1 y e2;omega
   subst hxy
   rw [Z7N h2 h4 fun z=>?_]
   constructor
   · intro hz
     rcases List.mem_cons.1 ((h z).1 (by simp [hz])) with e | e
     · subst e;exact absurd (h1 z hz) (Nat.lt_irrefl _)
     · exact e
   · intro hz
     rcases List.mem_cons.1 ((h z).2 (by simp [hz])) with e | e
     · subst e;exact absurd (h3 z hz) (Nat.lt_irrefl _)
     · exact e
def Z5R:List Int→List Int→Bool
 | x::a,y::b=>bif decide (x≠y) then decide (x<y) else Z5R a b
 | _,_=>false
def ahB (a b:List Int):Bool:=bif decide (a.length≠b.length) then decide (a.length<b.length) else Z5R a b
theorem Z5S:∀ {a b c:List Int},a.length=b.length→b.length=c.length→Z5R a b=true→Z5R c b=false→Z5R a c=true
 | [],_,_,_,_,h,_=>by unfold Z5R at h;cases h
 | _::_,[],_,h,_,_,_=>by cases h
 | _::_,_::_,[],_,h,_,_=>by cases h
 | x::a,y::b,z::c,h1,h2,h3,h4=>by
   unfold Z5R at h3 h4 ⊢
   by_cases e:z=y
   · subst e
     rw [decide_eq_false (by simp)] at h4
     by_cases e2:x=z
     · subst e2
       rw [decide_eq_false (by simp)] at h3 ⊢
       exact Z5S (by simpa using h1) (by simpa using h2) h3 h4
     · rw [decide_eq_true e2] at h3 ⊢;exact h3
   · rw [decide_eq_true e] at h4
     have h4:=of_decide_eq_false h4
     by_cases e2:x=y
     · subst e2
       rw [decide_eq_true (show x≠z from fun h=>e h.symm)]
       exact decide_eq_true (by omega)
     · rw [decide_eq_true e2] at h3
       have h3:=of_decide_eq_true h3
       rw [decide_eq_true (show x≠z by omega)]
       exact decide_eq_true (by omega)
theorem Z7A:∀ {a b:List Int},Z5R a b=true→Z5R b a=false
 | [],_,h=>by unfold Z5R at h;cases h
 | _::_,[],h=>by unfold Z5R at h;cases h
 | x::a,y::b,h=>by
   unfold Z5R at h ⊢
   by_cases e:x=y
   · subst e
     rw [decide_eq_false (by simp)] at h ⊢
     exact Z7A h
   · rw [decide_eq_true e] at h
     rw [decide_eq_true (show y≠x from fun h=>e h.symm)]
     have h:=of_decide_eq_true h
     exact decide_eq_false (by omega)
theorem Zdz {a b:List Int} (h:ahB a b=true):ahB b a=false:=by
 unfold ahB at h ⊢
 by_cases e:a.length=b.length
 · rw [decide_eq_false (by simpa using e)] at h
   rw [decide_eq_false (by simpa using e.symm)]
   exact Z7A h
 · rw [decide_eq_true e] at h
   rw [decide_eq_true (show b.length≠a.length from fun h=>e h.symm)]
   have h:=of_decide_eq_true h
   exact decide_eq_false (by omega)
theorem Zbg {a b c:List Int} (h1:ahB a b=true) (h2:ahB c b=false):ahB a c=true:=by
 unfold ahB at h1 h2 ⊢
 by_cases e:c.length=b.length
 · rw [decide_eq_false (by simpa using e)] at h2
   by_cases e2:a.length=b.length
   · rw [decide_eq_false (by simpa using e2)] at h1
     rw [decide_eq_false (by simpa [e] using e2)]
     exact Z5S e2 e.symm h1 h2
   · rw [decide_eq_true e2] at h1
     rw [decide_eq_true (by rw [e];exact e2),e];exact h1
 · rw [decide_eq_true e] at h2
   have h2:=of_decide_eq_false h2
   by_cases e2:a.length=b.length
   · rw [decide_eq_true (by omega)];exact decide_eq_true (by omega)
   · rw [decide_eq_true e2] at h1
     have h1:=of_decide_eq_true h1
     rw [decide_eq_true (by omega)];exact decide_eq_true (by omega)
theorem Z4W {ag:List Int→Bool} {n:Nat}:∀ {r fr:Nat} {l x:List Int},ZH ag n r l fr=some x→∃ y:List Nat,x=l++(y.map fun (j:Nat)=>(j:Int))∧y.length=r∧y.Pairwise (· < ·)∧(∀ j∈y,fr≤j∧j<n)∧ag x=false
 | 0,fr,l,x,h=>by
   unfold ZH at h
   cases ha:ag l with
   | true=>rw [ha] at h;cases h
   | false=>rw [ha] at h;obtain rfl:=Option.some.inj h;exact ⟨[],by simp,rfl,List.Pairwise.nil,by simp,ha⟩
 | r+1,fr,l,x,h=>by
   unfold ZH at h
   obtain ⟨i,hi,h1⟩:=List.exists_of_findSome?_eq_some h
   rw [List.mem_range'_1] at hi
   obtain ⟨y,rfl,h2,h3,h4,h5⟩:=Z4W h1
   refine ⟨i::y,by simp,by simp [h2],List.pairwise_cons.2 ⟨fun j hj=>(h4 j hj).1,h3⟩,fun j hj=>?_,h5⟩
   rcases List.mem_cons.1 hj with rfl | hj
   · omega
   · have:=h4 j hj;omega
theorem Z4i {ag:List Int→Bool} {n:Nat}:∀ {r fr:Nat} {l x:List Int},ZH ag n r l fr=some x→∀ y:List Nat,y.length=r→y.Pairwise (· < ·)→(∀ j∈y,fr≤j∧j<n)→ag (l++y.map fun (j:Nat)=>(j:Int))=false→∃ z,x=l++z∧Z5R (y.map fun (j:Nat)=>(j:Int)) z=false
 | 0,fr,l,x,h,y,hy,_,_,_=>by
   obtain rfl:=List.eq_nil_of_length_eq_zero hy
   unfold ZH at h
   cases ha:ag l with
   | true=>rw [ha] at h;cases h
   | false=>rw [ha] at h;obtain rfl:=Option.some.inj h;exact ⟨[],by simp,rfl⟩
 | r+1,fr,l,x,h,[],hy,_,_,_=>by cases hy
 | r+1,fr,l,x,h,j::y,hy,hp,hb,ha=>by
   unfold ZH at h
   obtain ⟨i,h1,h2,h3,h4⟩:=Z2G _ _ h
   have hj:=hb j (by simp)
   obtain ⟨h5,h6⟩:=List.pairwise_cons.1 hp
   have hb2:∀ q∈y,j+1≤q∧q<n:=fun q hq=>⟨h5 q hq,(hb q (by simp [hq])).2⟩
   have hyr:y.length=r:=by simpa using hy
   have ha2:ag ((l++[(j:Int)])++y.map fun (j:Nat)=>(j:Int))=false:=by simpa using ha
   rcases Nat.lt_trichotomy j i with hji | rfl | hji
   · have h7:=h4 j hj.1 hji
     rw [← hyr] at h7
     rw [Z4V y h7 h6 hb2] at ha2;cases ha2
   · obtain ⟨z,rfl,hz⟩:=Z4i h3 y hyr h6 hb2 ha2
     refine ⟨(j:Int)::z,by simp,?_⟩
     simp only [List.map_cons,Z5R]
     rw [decide_eq_false (by simp)];exact hz
   · obtain ⟨w,rfl,_⟩:=Z4W h3
     refine ⟨(i:Int)::w.map fun (j:Nat)=>(j:Int),by simp,?_⟩
     simp only [List.map_cons,Z5R]
     rw [decide_eq_true (show (j:Int)≠i by omega)]
     exact decide_eq_false (by omega)
structure BestI (P:Nat→Bool) (k:Nat) (f:Bool) (b:List Int):Prop where
 no:f=false→(∀ t,1≤t→t<k→P t=true)∧b=[]
 yes:f=true→(∃ t,1≤t∧t<k∧P t=false∧b=Z0K t)∧∀ t,1≤t→t<k→P t=false→ahB (Z0K t) b=false
theorem BestI.start (P:Nat→Bool):BestI P 1 false []:=⟨fun _=>⟨fun t h1 h2=>by omega,rfl⟩,(fun h=>by cases h)⟩
theorem ZdA (a:List Int):ahB a a=false:=by
 unfold ahB
 rw [decide_eq_false (by simp)]
 show Z5R a a=false
 induction a with
 | nil=>rfl
 | cons x a ih=>unfold Z5R;rw [decide_eq_false (by simp)];exact ih
theorem BestI.take {P:Nat→Bool} {k:Nat} {f:Bool} {b:List Int} (h:BestI P k f b) (hk:1≤k) (h1:f=false∨ahB (Z0K k) b=true) (h2:P k=false):BestI P (k+1) true (Z0K k):=by
 refine ⟨(fun h=>by cases h),fun _=>⟨⟨k,hk,by omega,h2,rfl⟩,fun t t1 t2 t3=>?_⟩⟩
 by_cases e:t=k
 · subst e;exact ZdA _
 · cases hf:f with
   | false=>rw [(h.no hf).1 t t1 (by omega)] at t3;cases t3
   | true =>
     have h3:=(h.yes hf).2 t t1 (by omega) t3
     have h4:=h1.resolve_left (by rw [hf];simp)
     exact Zdz (Zbg h4 h3)
theorem BestI.skip {P:Nat→Bool} {k:Nat} {f:Bool} {b:List Int} (h:BestI P k f b) (h1:P k=true∨(f=true∧ahB (Z0K k) b=false)):BestI P (k+1) f b:=by
 refine ⟨fun hf=>⟨fun t t1 t2=>?_,(h.no hf).2⟩,fun hf=>⟨?_,fun t t1 t2 t3=>?_⟩⟩
 · by_cases e:t=k
   · subst e
     rcases h1 with h1 | h1
     · exact h1
     · rw [h1.1] at hf;cases hf
   · exact (h.no hf).1 t t1 (by omega)
 · obtain ⟨t,t1,t2,t3⟩:=(h.yes hf).1
   exact ⟨t,t1,by omega,t3⟩
 · by_cases e:t=k
   · subst e
     rcases h1 with h1 | h1
     · rw [h1] at t3;cases t3
     · exact h1.2
   · exact (h.yes hf).2 t t1 (by omega) t3
def Z1D (has:List Int→Bool) (n:Nat):Option (List Int):=(List.range' 0 (n+1)).findSome? fun k=>ZH (fun l=>!has l) n k [] 0
theorem Z72 {has:List Int→Bool} {n:Nat} {x:List Int} (h:Z1D has n=some x):(∃ y:List Nat,x=(y.map fun (j:Nat)=>(j:Int))∧y.Pairwise (· < ·)∧(∀ j∈y,j<n)∧has x=true) ∧
   ∀ y:List Nat,y.length≤n→y.Pairwise (· < ·)→(∀ j∈y,j<n)→has (y.map fun (j:Nat)=>(j:Int))=true→ahB (y.map fun (j:Nat)=>(j:Int)) x=false:=by
 obtain ⟨k,k1,k2,k3,k4⟩:=Z2G _ _ h
 obtain ⟨y,e,h1,h2,h3,h4⟩:=Z4W k3
 rw [List.nil_append] at e
 refine ⟨⟨y,e,h2,fun j hj=>(h3 j hj).2,by simpa using h4⟩,fun z hzn hp hb ha=>?_⟩
 have hxl:x.length=k:=by rw [e,List.length_map,h1]
 have ha':(fun l=>!has l) (z.map fun (j:Nat)=>(j:Int))=false:=by simp [ha]
 unfold ahB
 rw [List.length_map,hxl]
 rcases Nat.lt_trichotomy z.length k with hl | hl | hl
 · have h5:=k4 z.length (Nat.zero_le _) hl
   have h6:=Z4V z h5 hp (fun j hj=>⟨Nat.zero_le _,hb j hj⟩)
   rw [List.nil_append] at h6;rw [ha] at h6;cases h6
 · rw [decide_eq_false (by simpa using hl)]
   obtain ⟨w,hw,hl2⟩:=Z4i k3 z hl hp (fun j hj=>⟨Nat.zero_le _,hb j hj⟩) (by rw [List.nil_append];exact ha')
   rw [List.nil_append] at hw
   rw [hw];exact hl2
 · rw [decide_eq_true (by omega)]
   exact decide_eq_false (by omega)
theorem Zf5 {y:List Nat} {n:Nat} (hp:y.Pairwise (· < ·)) (hn:∀ j∈y,j<n):y.length≤n:=by
 have h1:y.Nodup:=hp.imp fun h e=>by omega
 have h2:=h1.length_le_of_subset (l₂:=List.range n) fun j hj=>List.mem_range.2 (hn j hj)
 simpa using h2
theorem Z8k {has:List Int→Bool} {n:Nat} {y:List Nat} (hp:y.Pairwise (· < ·)) (hn:∀ j∈y,j<n) (h:has (y.map fun (j:Nat)=>(j:Int))=true):∃ x,Z1D has n=some x:=by
 have hl:=Zf5 hp hn
 rcases hs:Z1D has n with _ | x
 · unfold Z1D at hs
   have h1:=List.findSome?_eq_none_iff.1 hs y.length (List.mem_range'_1.2 ⟨Nat.zero_le _,by omega⟩)
   have h2:=Z4V y h1 hp (fun j hj=>⟨Nat.zero_le _,hn j hj⟩)
   rw [List.nil_append] at h2
   simp [h] at h2
 · exact ⟨x,rfl⟩
def chi (X v:Nat):Int:=bif X.testBit v then 1 else 0
def Z43 (F:Nat→Gp→Int):List Gp→Nat→Int
 | [],_=>0
 | g::gs,i=>F i g+Z43 F gs (i+1)
theorem Z3h (F G:Nat→Gp→Int):∀ (gs:List Gp) (i:Nat),Z43 (fun i g=>F i g+G i g) gs i=Z43 F gs i+Z43 G gs i
 | [],_=>rfl
 | g::gs,i=>by simp only [Z43,Z3h F G gs (i+1)];omega
theorem Z5e {F G:Nat→Gp→Int}:∀ {gs:List Gp} {i:Nat},(∀ j g,gs[j]?=some g→F (i+j) g≤G (i+j) g)→Z43 F gs i≤Z43 G gs i
 | [],_,_=>Int.le_refl _
 | g::gs,i,h=>by
   have h0:=h 0 g rfl
   have h1:=Z5e (gs:=gs) (i:=i+1) (F:=F) (G:=G) fun j g' hj=>by
     have:=h (j+1) g' (by simpa using hj)
     rwa [show i+(j+1)=i+1+j by omega] at this
   simp only [Z43]
   rw [Nat.add_zero] at h0
   omega
theorem Z2R {F G:Nat→Gp→Int} {gs:List Gp} {i:Nat} (h:∀ j g,gs[j]?=some g→F (i+j) g=G (i+j) g):Z43 F gs i=Z43 G gs i :=
 Int.le_antisymm (Z5e fun j g hj=>Int.le_of_eq (h j g hj)) (Z5e fun j g hj=>Int.le_of_eq (h j g hj).symm)
theorem Z3Q (gs:List Gp) (i:Nat):Z43 (fun _ _=>0) gs i=0:=by
 induction gs generalizing i with
 | nil=>rfl
 | cons g gs ih=>simp only [Z43,ih];rfl
def Z1L (f:Nat→Int) (X:Nat) (gs:List Gp):Int:=Z43 (fun i g=>f i*(chi X g.a.toNat-chi X g.b.toNat)) gs 0
theorem ZcS {X v k:Nat} (h:X.testBit v=false):chi (X|||2 ^ v) k=chi X k+chi (2 ^ v) k:=by
 unfold chi
 rw [Nat.testBit_or,Nat.testBit_two_pow]
 by_cases e:v=k
 · subst e;rw [h];simp
 · rw [decide_eq_false e];cases X.testBit k<;>rfl
theorem Zeo {f:Nat→Int} {X v:Nat} {gs:List Gp} (h:X.testBit v=false):Z1L f (X|||2 ^ v) gs=Z1L f X gs+Z1L f (2 ^ v) gs:=by
 unfold Z1L
 rw [← Z3h]
 refine Z2R fun j g _=>?_
 rw [ZcS h,ZcS h,← Int.mul_add]
 congr 1
 omega
def ZiM (f:Nat→Int) (S K:Nat) (gs:List Gp):Prop:=∀ v,v<7→S.testBit v=false→K.testBit v=false→Z1L f (2 ^ v) gs=0
theorem Z7q {f:Nat→Int} {S K X:Nat} {gs:List Gp} (hc:ZiM f S K gs) (hX:X<2 ^ 7) (hS:∀ v,S.testBit v=true→X.testBit v=true) (hK:∀ v,K.testBit v=true→X.testBit v=false):Z1L f X gs=Z1L f S gs:=by
 have key:∀ n,n≤7→∃ Y,(∀ v,Y.testBit v=(S.testBit v||(decide (v<n)&&X.testBit v)))∧Z1L f Y gs=Z1L f S gs:=by
   intro n
   induction n with
   | zero=>intro _;exact ⟨S,fun v=>by simp,rfl⟩
   | succ n ih =>
     intro hn
     obtain ⟨Y,h1,h2⟩:=ih (by omega)
     by_cases hx:X.testBit n=true∧S.testBit n=false
     · refine ⟨Y|||2 ^ n,fun v=>?_,?_⟩
       · rw [Nat.testBit_or,h1,Nat.testBit_two_pow]
         by_cases e:n=v
         · subst e;rw [hx.1,hx.2];simp
         · rw [decide_eq_false e,show decide (v<n+1)=decide (v<n) from decide_eq_decide.2 (by omega),Bool.or_false]
       · have hy:Y.testBit n=false:=by rw [h1,hx.2];simp
         rw [Zeo hy,h2,hc n (by omega) hx.2 ?_]
         · omega
         · cases hk:K.testBit n with
           | false=>rfl
           | true=>rw [hK n hk] at hx;cases hx.1
     · refine ⟨Y,fun v=>?_,h2⟩
       rw [h1]
       by_cases e:v=n
       · subst e
         cases hs:S.testBit v with
         | true=>simp
         | false =>
           cases hv:X.testBit v with
           | true=>exact absurd ⟨hv,hs⟩ hx
           | false=>simp
       · rw [show decide (v<n+1)=decide (v<n) from decide_eq_decide.2 (by omega)]
 obtain ⟨Y,h1,h2⟩:=key 7 (Nat.le_refl _)
 have:Y=X:=Z0P fun v=>by
   rw [h1]
   cases hx:X.testBit v with
   | true=>rw [decide_eq_true (bits_lt hX hx)];simp
   | false =>
     cases hs:S.testBit v with
     | true=>rw [hS v hs] at hx;cases hx
     | false=>simp
 rw [← this,h2]
def crs (X:Nat) (g:Gp):Bool:=X.testBit g.a.toNat != X.testBit g.b.toNat
def Z5F (X:Nat) (gs:List Gp):List Int:=((List.range gs.length).filter fun i=>match gs[i]? with | some g=>crs X g | none=>false).map fun (i:Nat)=>(i:Int)
def Ze8 (X:Nat) (gs:List Gp):Int:=Z43 (fun _ g=>bif crs X g then 1 else 0) gs 0
theorem Z7i (X:Nat):∀ gs:List Gp,Ze8 X gs=(Z5F X gs).length:=by
 intro gs
 have key:∀ (gs:List Gp),Ze8 X gs=((gs.filter fun g=>crs X g).length:Int):=by
   intro gs
   unfold Ze8
   have:∀ i,Z43 (fun _ g=>bif crs X g then 1 else 0) gs i=((gs.filter fun g=>crs X g).length:Int):=by
     induction gs with
     | nil=>intro i;rfl
     | cons g gs ih =>
       intro i
       simp only [Z43,ih (i+1),List.filter_cons]
       cases crs X g<;>simp<;>omega
   exact this 0
 rw [key]
 unfold Z5F
 rw [List.length_map]
 congr 1
 have:∀ (gs:List Gp),(gs.filter fun g=>crs X g).length=((List.range gs.length).filter fun i=>match gs[i]? with | some g=>crs X g | none=>false).length:=by
   intro gs
   induction gs with
   | nil=>rfl
   | cons g gs ih =>
     rw [List.length_cons,List.range_succ_eq_map,List.filter_cons,List.filter_cons,List.filter_map]
     have e:((fun i=>match (g::gs)[i]? with | some g=>crs X g | none=>false) ∘ Nat.succ)=fun i=>match gs[i]? with | some g=>crs X g | none=>false:=by funext i;simp
     rw [e]
     simp only [List.getElem?_cons_zero]
     split<;>simp [ih]
 exact this gs
theorem Zen {f:Nat→Int} {X:Nat} {gs:List Gp} (hf:∀ i,-1≤f i∧f i≤1):Z1L f X gs≤Ze8 X gs:=by
 unfold Z1L Ze8
 refine Z5e fun j g _=>?_
 have:=hf (0+j)
 rw [Nat.zero_add] at this ⊢
 unfold crs chi
 cases X.testBit g.a.toNat<;>cases X.testBit g.b.toNat<;>simp<;>omega
theorem Za2 {f:Nat→Int} {X:Nat} {gs:List Gp} (hf:∀ i,-1≤f i∧f i≤1) (h:∀ i g,gs[i]?=some g→(X.testBit g.a.toNat=true→X.testBit g.b.toNat=false→1≤f i)∧(X.testBit g.b.toNat=true→X.testBit g.a.toNat=false→f i ≤ -1)):Z1L f X gs=Ze8 X gs:=by
 unfold Z1L Ze8
 refine Z2R fun j g hj=>?_
 have h1:=h j g hj
 have:=hf j
 rw [Nat.zero_add]
 unfold crs chi
 cases ha:X.testBit g.a.toNat<;>cases hb:X.testBit g.b.toNat
 · simp
 · have:=h1.2 hb ha;simp;omega
 · have:=h1.1 ha hb;simp;omega
 · simp
def Shut (gs:List Gp) (cl S K:Nat):Prop:=∀ t v,(lv gs cl S t).testBit v=true→K.testBit v=false
theorem Zf1 {f:Nat→Int} {S K C:Nat} {gs:List Gp} (hw:Wth gs 7) (hS:S<2 ^ 7) (hf:∀ i,-1≤f i∧f i≤1) (hc:ZiM f S K gs) (hs:Shut gs C S K):Z1L f S gs≤((List.range gs.length).filter fun i=>C.testBit i).length:=by
 have hX:=ZbT hw hS (cl:=C) 7
 have h1:=Z7q hc hX (fun v hv=>ZeC (t:=0) (by decide) hv) (fun v hv=>by
   cases hx:(lv gs C S 7).testBit v with
   | false=>rfl
   | true=>rw [hs 7 v hx] at hv;cases hv)
 have h2:=Zen (X:=lv gs C S 7) (gs:=gs) hf
 rw [h1,Z7i] at h2
 refine Int.le_trans h2 (Int.ofNat_le.2 ?_)
 unfold Z5F
 rw [List.length_map]
 rw [← List.countP_eq_length_filter,← List.countP_eq_length_filter]
 refine List.countP_mono_left fun i _ hi=>?_
 cases hg:gs[i]? with
 | none=>rw [hg] at hi;cases hi
 | some g =>
   rw [hg] at hi
   cases hb:C.testBit i with
   | true=>rfl
   | false =>
     have hst:spr gs C (lv gs C S 7)=lv gs C S 7:=by
       have:=Z6O (gs:=gs) (n:=7) (cl:=C) (m:=S) hw hS (t:=7) (by decide) (j:=8) (by decide)
       exact this
     dsimp only at hi
     unfold crs at hi
     cases ha:(lv gs C S 7).testBit g.a.toNat<;>cases hbb:(lv gs C S 7).testBit g.b.toNat
     · rw [ha,hbb] at hi;cases hi
     · have:(spr gs C (lv gs C S 7)).testBit g.a.toNat=true:=spr_test.2 (.inr ⟨_,hbb,i,g,hg,hb,.inr ⟨rfl,rfl⟩⟩)
       rw [hst,ha] at this;cases this
     · have:(spr gs C (lv gs C S 7)).testBit g.b.toNat=true:=spr_test.2 (.inr ⟨_,ha,i,g,hg,hb,.inl ⟨rfl,rfl⟩⟩)
       rw [hst,hbb] at this;cases this
     · rw [ha,hbb] at hi;cases hi
theorem cutM_mem {X:Nat} {gs:List Gp} {j:Int}:j∈Z5F X gs↔∃ (i:Nat) (g:Gp),gs[i]?=some g∧crs X g=true∧j=i:=by
 unfold Z5F
 simp only [List.mem_map,List.mem_filter,List.mem_range]
 constructor
 · rintro ⟨i,⟨h1,h2⟩,rfl⟩
   cases hg:gs[i]? with
   | none=>rw [hg] at h2;cases h2
   | some g=>rw [hg] at h2;exact ⟨i,g,hg,h2,rfl⟩
 · rintro ⟨i,g,h1,h2,rfl⟩
   exact ⟨i,⟨(List.getElem?_eq_some_iff.1 h1).1,by rw [h1];exact h2⟩,rfl⟩
theorem ZbC {X S K:Nat} {gs:List Gp} (hS:∀ v,S.testBit v=true→X.testBit v=true) (hK:∀ v,K.testBit v=true→X.testBit v=false):Shut gs (msk (Z5F X gs)) S K:=by
 have hin:∀ t v,(lv gs (msk (Z5F X gs)) S t).testBit v=true→X.testBit v=true:=by
   intro t
   induction t with
   | zero=>exact hS
   | succ t ih =>
     intro v hv
     rcases spr_test.1 hv with h1 | ⟨u,h1,i,g,h2,h3,h4⟩
     · exact ih v h1
     · have hu:=ih u h1
       cases hx:X.testBit v with
       | true=>rfl
       | false =>
         have hc:crs X g=true:=by
           unfold crs
           rcases h4 with ⟨h5,h6⟩ | ⟨h5,h6⟩
           · rw [h5,h6,hu,hx];rfl
           · rw [h5,h6,hu,hx];rfl
         have:(msk (Z5F X gs)).testBit i=true:=(Z1c (fun j hj=>by obtain ⟨q,_,_,_,rfl⟩:=cutM_mem.1 hj;omega) i).2 (cutM_mem.2 ⟨i,g,h2,hc,rfl⟩)
         rw [this] at h3;cases h3
 intro t v hv
 cases hk:K.testBit v with
 | false=>rfl
 | true=>have:=hK v hk;rw [hin t v hv] at this;cases this
inductive Way (gs:List Gp) (op:Nat→Bool) (f:Nat→Int) (S K:Nat):Nat→List (Nat×Nat)→Nat→Prop where
 | nil (u:Nat):Way gs op f S K u [] u
 | cons {u v w i:Nat} {g:Gp} {l:List (Nat×Nat)} (hg:gs[i]?=some g) (ho:op i=true) (hk:K.testBit u=false) (hsv:S.testBit v=false) (hs:(g.a.toNat=u∧g.b.toNat=v∧f i<1)∨(g.b.toNat=u∧g.a.toNat=v ∧ -1<f i)) (h:Way gs op f S K v l w):Way gs op f S K u ((i,v)::l) w
def Zf6 (gs:List Gp) (i v:Nat):Int:=match gs[i]? with
 | some g=>bif decide (g.b.toNat=v) then 1 else -1
 | none=>0
def Z6f (gs:List Gp) (f:Nat→Int) (l:List (Nat×Nat)):Nat→Int:=fun i=>f i+match l.find? fun x=>decide (x.1=i) with
 | some x=>Zf6 gs x.1 x.2
 | none=>0
theorem Z7P {F:Nat→Gp→Int}:∀ {gs:List Gp} {i k:Nat} {g:Gp},gs[k]?=some g→(∀ j g',gs[j]?=some g'→j≠k→F (i+j) g'=0)→Z43 F gs i=F (i+k) g
 | [],_,_,_,h,_=>by simp at h
 | x::gs,i,0,g,h,hz=>by
   rw [List.getElem?_cons_zero,Option.some.injEq] at h
   subst h
   have:Z43 F gs (i+1)=0:=by
     rw [Z2R (G:=fun _ _=>0) (fun j g' hj=>?_),Z3Q]
     have:=hz (j+1) g' (by simpa using hj) (by omega)
     rwa [show i+(j+1)=i+1+j by omega] at this
   simp only [Z43,this,Nat.add_zero];omega
 | x::gs,i,k+1,g,h,hz=>by
   have h0:=hz 0 x rfl (by omega)
   rw [Nat.add_zero] at h0
   have:=Z7P (F:=F) (gs:=gs) (i:=i+1) (k:=k) (g:=g) (by simpa using h) fun j g' hj hne=>by
     have:=hz (j+1) g' (by simpa using hj) (by omega)
     rwa [show i+(j+1)=i+1+j by omega] at this
   simp only [Z43,h0,this]
   rw [show i+1+k=i+(k+1) by omega];omega
theorem Z8y {gs:List Gp} {f:Nat→Int} {i v:Nat} {l:List (Nat×Nat)} (hn:∀ x∈l,x.1≠i) (j:Nat):Z6f gs f ((i,v)::l) j=Z6f gs f l j+(bif decide (j=i) then Zf6 gs i v else 0):=by
 unfold Z6f
 rw [List.find?_cons]
 by_cases e:i=j
 · subst e
   have:l.find? (fun x=>decide (x.1=i))=none:=List.find?_eq_none.2 fun x hx=>by simpa using hn x hx
   rw [this];simp
 · rw [decide_eq_false (show ¬ j=i from fun h=>e h.symm)]
   simp [e]
theorem Z3j {gs:List Gp} {op:Nat→Bool} {f f0:Nat→Int} {S K:Nat} (X:Nat):∀ {l:List (Nat×Nat)} {u w:Nat},Way gs op f0 S K u l w→(l.map (·.1)).Nodup→(∀ (i:Nat) (g:Gp),gs[i]?=some g→g.a.toNat≠g.b.toNat)→Z1L (Z6f gs f l) X gs=Z1L f X gs+chi X u-chi X w
 | [],u,w,h,_,_=>by
   cases h
   have:Z6f gs f []=f:=by funext i;simp [Z6f]
   rw [this];omega
 | (i,v)::l,u,w,h,hn,hab=>by
   cases h with
   | cons hg ho hk hsv hs h =>
     rename_i g
     rw [List.map_cons,List.nodup_cons] at hn
     have hni:∀ x∈l,x.1≠i:=fun x hx e=>hn.1 (List.mem_map.2 ⟨x,hx,e⟩)
     have ih:=Z3j (f:=f) X h hn.2 hab
     have e:Z1L (Z6f gs f ((i,v)::l)) X gs=Z1L (Z6f gs f l) X gs+Z43 (fun j g=>(bif decide (j=i) then Zf6 gs i v else 0)*(chi X g.a.toNat-chi X g.b.toNat)) gs 0:=by
       unfold Z1L
       rw [← Z3h]
       refine Z2R fun j g' _=>?_
       rw [Z8y hni,Int.add_mul]
     have e2:=Z7P (F:=fun (j:Nat) (g:Gp)=>(bif decide (j=i) then Zf6 gs i v else 0)*(chi X g.a.toNat-chi X g.b.toNat)) (i:=0) hg fun j g' _ hne=>by
       rw [Nat.zero_add,decide_eq_false hne];simp
     rw [e,e2,ih]
     have hne:=hab i g hg
     rw [Nat.zero_add,decide_eq_true rfl,cond_true]
     unfold Zf6
     rw [hg]
     dsimp only
     rcases hs with ⟨h1,h2,_⟩ | ⟨h1,h2,_⟩
     · rw [decide_eq_true h2,cond_true,h1,h2];omega
     · rw [decide_eq_false (by omega),cond_false,h1,h2];omega
def Drc (f:Nat→Int) (S K:Nat) (gs:List Gp):Prop:=∀ (i:Nat) (g:Gp),gs[i]?=some g→(S.testBit g.a.toNat=true→0≤f i)∧(S.testBit g.b.toNat=true→f i≤0)∧(K.testBit g.a.toNat=true→f i≤0)∧(K.testBit g.b.toNat=true→0≤f i)
structure WayK (gs:List Gp) (op:Nat→Bool) (f:Nat→Int) (S K u:Nat) (l:List (Nat×Nat)) (w:Nat):Prop where
 way:Way gs op f S K u l w
 nd:(l.map (·.1)).Nodup
 from_:S.testBit u=true
 to:K.testBit w=true
theorem Way.mem {gs:List Gp} {op:Nat→Bool} {f:Nat→Int} {S K:Nat}:∀ {l:List (Nat×Nat)} {u w:Nat},Way gs op f S K u l w→∀ x∈l,∃ (g:Gp) (y:Nat),gs[x.1]?=some g∧op x.1=true∧K.testBit y=false∧S.testBit x.2=false∧((g.a.toNat=y∧g.b.toNat=x.2∧f x.1<1)∨(g.b.toNat=y∧g.a.toNat=x.2 ∧ -1<f x.1))
 | [],_,_,_,x,hx=>by cases hx
 | (i,v)::l,u,w,h,x,hx=>by
   cases h with
   | cons hg ho hk hsv hs h =>
     rename_i g
     rcases List.mem_cons.1 hx with rfl | hx
     · exact ⟨g,u,hg,ho,hk,hsv,hs.imp (fun h=>⟨h.1,h.2.1,h.2.2⟩) (fun h=>⟨h.1,h.2.1,h.2.2⟩)⟩
     · exact Way.mem h x hx
theorem Z2z {gs:List Gp} {op:Nat→Bool} {f0 f:Nat→Int} {S K:Nat} {l:List (Nat×Nat)} {u w:Nat} (h:Way gs op f0 S K u l w) (hab:∀ (i:Nat) (g:Gp),gs[i]?=some g→g.a.toNat≠g.b.toNat) (i:Nat):Z6f gs f l i=f i∨∃ (g:Gp) (v y:Nat),(i,v)∈l∧gs[i]?=some g∧op i=true∧K.testBit y=false∧S.testBit v=false∧((g.a.toNat=y∧g.b.toNat=v∧f0 i<1∧Z6f gs f l i=f i+1)∨(g.b.toNat=y∧g.a.toNat=v ∧ -1<f0 i∧Z6f gs f l i=f i-1)):=by
 unfold Z6f
 cases hf:l.find? fun x=>decide (x.1=i) with
 | none=>left;simp
 | some x =>
   right
   have h1:=List.mem_of_find?_eq_some hf
   have h2:=List.find?_some hf
   obtain ⟨j,v⟩:=x
   have h2:j=i:=by simpa using h2
   subst h2
   obtain ⟨g,y,h3,h4,hk,hsv,h5⟩:=h.mem _ h1
   dsimp only at h3 h4 h5 hsv ⊢
   have hne:=hab _ g h3
   refine ⟨g,v,y,h1,h3,h4,hk,hsv,?_⟩
   unfold Zf6
   rw [h3]
   dsimp only
   rcases h5 with ⟨h7,h8,h9⟩ | ⟨h7,h8,h9⟩
   · left;rw [decide_eq_true h8];exact ⟨h7,h8,h9,rfl⟩
   · right;rw [decide_eq_false (by omega)];exact ⟨h7,h8,h9,rfl⟩
structure Flw (f:Nat→Int) (S K:Nat) (gs:List Gp):Prop where
 one:∀ i,-1≤f i∧f i≤1
 cons:ZiM f S K gs
 drc:Drc f S K gs
theorem Flw.zero (S K:Nat) (gs:List Gp):Flw (fun _=>0) S K gs∧Z1L (fun _=>0) S gs=0:=by
 have h0:∀ X,Z1L (fun _=>0) X gs=0:=fun X=>by
   unfold Z1L
   rw [Z2R (G:=fun _ _=>0) (fun j g _=>by simp),Z3Q]
 exact ⟨⟨fun _=>by omega,fun v _ _ _=>h0 _,fun i g _=>by simp⟩,h0 S⟩
theorem Z4E {v k:Nat}:chi (2 ^ v) k=bif decide (v=k) then 1 else 0:=by unfold chi;rw [Nat.testBit_two_pow]
theorem Z7E {S K:Nat} (hd:∀ v,S.testBit v=true→K.testBit v=false) {w:Nat} (h:K.testBit w=true):S.testBit w=false:=by
 cases hs:S.testBit w with
 | false=>rfl
 | true=>have:=hd w hs;rw [h] at this;cases this
theorem Flw.more {f:Nat→Int} {S K:Nat} {gs:List Gp} (h:Flw f S K gs) (hd:∀ v,S.testBit v=true→K.testBit v=false) (hab:∀ (i:Nat) (g:Gp),gs[i]?=some g→g.a.toNat≠g.b.toNat) {op:Nat→Bool} {u w:Nat} {l:List (Nat×Nat)} (hw:WayK gs op f S K u l w):Flw (Z6f gs f l) S K gs∧Z1L (Z6f gs f l) S gs=Z1L f S gs+1:=by
 have hwS:=Z7E hd hw.to
 refine ⟨⟨fun i=>?_,fun v hv h1 h2=>?_,fun i g hg=>?_⟩,?_⟩
 · have:=h.one i
   rcases Z2z (f:=f) hw.way hab i with e | ⟨g,v,y,_,_,_,_,_,⟨_,_,h3,e⟩ | ⟨_,_,h3,e⟩⟩<;>rw [e]<;>omega
 · rw [Z3j _ hw.way hw.nd hab,h.cons v hv h1 h2,Z4E,Z4E,decide_eq_false (fun e=>by rw [e,hw.from_] at h1;cases h1),decide_eq_false (fun e=>by rw [e,hw.to] at h2;cases h2)];rfl
 · have hd0:=h.drc i g hg
   rcases Z2z (f:=f) hw.way hab i with e | ⟨g',v,y,hm,hg',_,hyK,hvS,h5⟩
   · rw [e];exact hd0
   · rw [hg] at hg'
     obtain rfl:=Option.some.inj hg'
     rcases h5 with ⟨rfl,rfl,_,e⟩ | ⟨rfl,rfl,_,e⟩<;>rw [e,hyK,hvS]<;>rw [hyK,hvS] at hd0<;>simp only [Bool.false_eq_true,false_implies,true_and,and_true] at hd0 ⊢ <;> constructor<;>intro h8
     · have:=hd0.1 h8;omega
     · have:=hd0.2 h8;omega
     · have:=hd0.1 h8;omega
     · have:=hd0.2 h8;omega
 · rw [Z3j _ hw.way hw.nd hab]
   unfold chi
   rw [hw.from_,hwS];simp
def Zea (f:Nat→Int) (l:List (Nat×Nat)):Nat→Int:=fun i=>bif l.any fun x=>decide (x.1=i) then 0 else f i
theorem Zeb {gs:List Gp} {f:Nat→Int} {S K:Nat} {l:List (Nat×Nat)} {u w:Nat} (h:Way gs (fun i=>decide (f i≠0)) (fun i => -f i) S K u l w) (hf:∀ i,-1≤f i∧f i≤1) (hab:∀ (i:Nat) (g:Gp),gs[i]?=some g→g.a.toNat≠g.b.toNat) (i:Nat) : -Zea f l i=Z6f gs (fun i => -f i) l i:=by
 unfold Zea
 rcases Z2z (f:=fun i => -f i) h hab i with e | ⟨g,v,y,hm,hg,ho,_,_,h5⟩
 · rw [e]
   cases ha:l.any fun x=>decide (x.1=i) with
   | false=>rfl
   | true =>
     obtain ⟨x,hx,hxi⟩:=List.any_eq_true.1 ha
     have hxi:=of_decide_eq_true hxi
     obtain ⟨j,v⟩:=x
     dsimp only at hxi
     subst hxi
     obtain ⟨g,y,h3,h4,_,_,h5⟩:=h.mem _ hx
     dsimp only at h3 h4 h5
     have h4:=of_decide_eq_true h4
     have hfi:=hf j
     exfalso
     unfold Z6f at e
     cases hfd:l.find? fun x=>decide (x.1=j) with
     | none =>
       have:=List.find?_eq_none.1 hfd _ hx
       simp at this
     | some z =>
       rw [hfd] at e
       have h1:=List.mem_of_find?_eq_some hfd
       have h2:=List.find?_some hfd
       obtain ⟨j2,v2⟩:=z
       have h2:j2=j:=by simpa using h2
       subst h2
       unfold Zf6 at e
       dsimp only at e
       rw [h3] at e
       dsimp only at e
       cases hb:decide (g.b.toNat=v2)<;>rw [hb] at e<;>simp at e<;>omega
 · have ha:(l.any fun x=>decide (x.1=i))=true:=List.any_eq_true.2 ⟨_,hm,by simp⟩
   have ho:=of_decide_eq_true ho
   have:=hf i
   rw [ha,cond_true]
   rcases h5 with ⟨_,_,h6,e⟩ | ⟨_,_,h6,e⟩<;>rw [e]<;>omega
theorem Z7p {f f':Nat→Int} (X:Nat) {gs:List Gp} (h:∀ i,-f i=f' i):Z1L f' X gs = -Z1L f X gs:=by
 have h0:Z1L f' X gs+Z1L f X gs=0:=by
   unfold Z1L
   rw [← Z3h,Z2R (G:=fun _ _=>0) (fun j g _=>by rw [← h,← Int.add_mul,Int.add_left_neg,Int.zero_mul]),Z3Q]
 omega
theorem Flw.less {f:Nat→Int} {S K:Nat} {gs:List Gp} (h:Flw f S K gs) (hd:∀ v,S.testBit v=true→K.testBit v=false) (hab:∀ (i:Nat) (g:Gp),gs[i]?=some g→g.a.toNat≠g.b.toNat) {u w:Nat} {l:List (Nat×Nat)} (hw:WayK gs (fun i=>decide (f i≠0)) (fun i => -f i) S K u l w):Flw (Zea f l) S K gs∧Z1L (Zea f l) S gs=Z1L f S gs-1:=by
 have hwS:=Z7E hd hw.to
 have e:∀ X,Z1L (Zea f l) X gs=Z1L f X gs-chi X u+chi X w:=fun X=>by
   have h1:=Z7p X (gs:=gs) (Zeb hw.way h.one hab)
   have h2:=Z7p X (gs:=gs) (f:=f) (f':=fun i => -f i) fun _=>rfl
   rw [Z3j X hw.way hw.nd hab] at h1
   omega
 refine ⟨⟨fun i=>?_,fun v hv h1 h2=>?_,fun i g hg=>?_⟩,?_⟩
 · have:=h.one i
   unfold Zea
   cases l.any fun x=>decide (x.1=i)<;>simp<;>omega
 · rw [e,h.cons v hv h1 h2,Z4E,Z4E,decide_eq_false (fun e=>by rw [e,hw.from_] at h1;cases h1),decide_eq_false (fun e=>by rw [e,hw.to] at h2;cases h2)];rfl
 · have hd0:=h.drc i g hg
   unfold Zea
   cases l.any fun x=>decide (x.1=i) with
   | true=>simp
   | false=>exact hd0
 · rw [e]
   unfold chi
   rw [hw.from_,hwS];simp
theorem and_zero {a b:Nat}:a&&&b=0↔∀ i,a.testBit i=true→b.testBit i=false:=by
 rw [and0_iff]
 constructor
 · intro h i hi;have:=h i;rw [hi] at this;simpa using this
 · intro h i
   cases hi:a.testBit i with
   | false=>rfl
   | true=>rw [h i hi];rfl
inductive Pl (gs:List Gp) (K sp:Nat):Nat→Nat→Nat→Prop where
 | stay {m c l:Nat} (hl:l<2 ^ gs.length) (hc:l&&&c=0) (hs:cnt gs.length l≤sp) (he:spr gs (c|||l) m=m) (hk:m&&&K=0):Pl gs K sp m c (cnt gs.length l)
 | go {m c l n:Nat} (hl:l<2 ^ gs.length) (hc:l&&&c=0) (hs:cnt gs.length l≤sp) (hne:spr gs (c|||l) m≠m) (hk:spr gs (c|||l) m&&&K=0) (h:Pl gs K sp (spr gs (c|||l) m) (c|||l) n):Pl gs K sp m c (cnt gs.length l+n)
def Lst (P:Nat→Prop) (n:Nat):Prop:=P n∧∀ k,P k→n≤k
theorem Lst.unique {P:Nat→Prop} {m n:Nat} (h:Lst P m) (k:Lst P n):m=n:=Nat.le_antisymm (h.2 _ k.1) (k.2 _ h.1)
def Ins (gs:List Gp) (m c c':Nat):Prop:=∀ (i:Nat) (g:Gp),gs[i]?=some g→c.testBit i≠c'.testBit i→m.testBit g.a.toNat=true∧m.testBit g.b.toNat=true
theorem Ins.spr {gs:List Gp} {m c c':Nat} (h:Ins gs m c c'):spr gs c m=spr gs c' m:=by
 have key:∀ {c c':Nat},Ins gs m c c'→∀ v,(Go.Proofs.YthijcgkicjljhaaGreat.Wv.spr gs c m).testBit v=true→(Go.Proofs.YthijcgkicjljhaaGreat.Wv.spr gs c' m).testBit v=true:=by
   intro c c' h v hv
   rcases spr_test.1 hv with h1 | ⟨u,h1,i,g,h2,h3,h4⟩
   · exact Z1E h1
   · by_cases e:c.testBit i=c'.testBit i
     · exact spr_test.2 (.inr ⟨u,h1,i,g,h2,by rw [← e];exact h3,h4⟩)
     · obtain ⟨h5,h6⟩:=h i g h2 e
       refine Z1E ?_
       rcases h4 with ⟨_,rfl⟩ | ⟨_,rfl⟩
       · exact h6
       · exact h5
 refine Z0P fun v=>?_
 rw [Bool.eq_iff_iff]
 exact ⟨key h v,key (fun i g h1 h2=>h i g h1 (Ne.symm h2)) v⟩
theorem Ins.mono {gs:List Gp} {m m' c c':Nat} (h:Ins gs m c c') (hm:∀ v,m.testBit v=true→m'.testBit v=true):Ins gs m' c c':=fun i g h1 h2=>⟨hm _ (h i g h1 h2).1,hm _ (h i g h1 h2).2⟩
theorem Ins.or {gs:List Gp} {m c c' l:Nat} (h:Ins gs m c c'):Ins gs m (c|||l) (c'|||l):=fun i g h1 h2=>h i g h1 fun e=>h2 (by rw [Nat.testBit_or,Nat.testBit_or,e])
theorem Ze7 {n l l':Nat} (h:∀ i,l'.testBit i=true→l.testBit i=true):cnt n l'≤cnt n l:=ZbA fun k _=>h k
theorem Pl.ins {gs:List Gp} {K sp m c n:Nat} (h:Pl gs K sp m c n):∀ {c':Nat},Ins gs m c c'→(∀ i,c'.testBit i=true→c.testBit i=true)→Pl gs K sp m c' n:=by
 induction h with
 | @stay m c l hl hc hs he hk =>
   intro c' hi hsub
   refine .stay hl (and_zero.2 fun i hi2=>?_) hs (by rw [← hi.or.spr];exact he) hk
   cases hb:c'.testBit i with
   | false=>rfl
   | true=>have:=and_zero.1 hc i hi2;rw [hsub i hb] at this;cases this
 | @go m c l n hl hc hs hne hk h ih =>
   intro c' hi hsub
   have e:=hi.or (l:=l) |>.spr
   refine .go hl (and_zero.2 fun i hi2=>?_) hs (by rw [← e];exact hne) (by rw [← e];exact hk) ?_
   · cases hb:c'.testBit i with
     | false=>rfl
     | true=>have:=and_zero.1 hc i hi2;rw [hsub i hb] at this;cases this
   · rw [← e]
     refine ih (hi.or.mono fun v hv=>Z1E hv) fun i h1=>?_
     rw [Nat.testBit_or,Bool.or_eq_true] at h1 ⊢
     exact h1.imp_left (hsub i)
def usf (gs:List Gp) (m c:Nat):Nat→Bool:=fun i=>match gs[i]? with
 | some g=>!c.testBit i&&!(m.testBit g.a.toNat&&m.testBit g.b.toNat)
 | none=>false
def msF (p:Nat→Bool):Nat→Nat
 | 0=>0
 | n+1=>msF p n|||(bif p n then 2 ^ n else 0)
theorem Z7D (p:Nat→Bool) (j:Nat):∀ n,(msF p n).testBit j=(decide (j<n)&&p j)
 | 0=>by simp [msF]
 | n+1=>by
   unfold msF
   rw [Nat.testBit_or,Z7D p j n]
   by_cases e:j=n
   · subst e
     cases p j<;>simp
   · rw [show decide (j<n+1)=decide (j<n) from decide_eq_decide.2 (by omega)]
     cases p n with
     | false=>simp
     | true=>rw [cond_true,Nat.testBit_two_pow,decide_eq_false (show ¬ n=j by omega),Bool.or_false]
def Z6j (gs:List Gp) (m c:Nat):Nat:=msF (usf gs m c) gs.length
theorem usfM_test {gs:List Gp} {m c i:Nat}:(Z6j gs m c).testBit i=true↔∃ g,gs[i]?=some g∧c.testBit i=false∧¬ (m.testBit g.a.toNat=true∧m.testBit g.b.toNat=true):=by
 unfold Z6j
 rw [Z7D,Bool.and_eq_true,decide_eq_true_eq]
 unfold usf
 constructor
 · rintro ⟨h1,h2⟩
   rw [List.getElem?_eq_getElem h1] at h2 ⊢
   dsimp only at h2
   rw [Bool.and_eq_true,Bool.not_eq_true',Bool.not_eq_true',Bool.and_eq_false_iff] at h2
   exact ⟨_,rfl,h2.1,fun h=>by rcases h2.2 with h3 | h3<;>simp_all⟩
 · rintro ⟨g,h1,h2,h3⟩
   refine ⟨(List.getElem?_eq_some_iff.1 h1).1,?_⟩
   rw [h1]
   dsimp only
   rw [h2]
   cases ha:m.testBit g.a.toNat<;>cases hb:m.testBit g.b.toNat<;>simp_all
theorem Pl.cons_inv {gs:List Gp} {K sp m c n:Nat} (h:Pl gs K sp m c n):∃ l,l<2 ^ gs.length∧l&&&c=0∧cnt gs.length l≤sp∧spr gs (c|||l) m&&&K=0∧((spr gs (c|||l) m=m∧n=cnt gs.length l)∨(spr gs (c|||l) m≠m∧∃ k,n=cnt gs.length l+k∧Pl gs K sp (spr gs (c|||l) m) (c|||l) k)):=by
 cases h with
 | @stay _ _ l hl hc hs he hk=>exact ⟨l,hl,hc,hs,by rw [he];exact hk,.inl ⟨he,rfl⟩⟩
 | @go _ _ l n hl hc hs hne hk h=>exact ⟨l,hl,hc,hs,hk,.inr ⟨hne,n,rfl,h⟩⟩
theorem Pl.of {gs:List Gp} {K sp m c l n k:Nat} (hl:l<2 ^ gs.length) (hc:l&&&c=0) (hs:cnt gs.length l≤sp) (hk:spr gs (c|||l) m&&&K=0) (h:(spr gs (c|||l) m=m∧n=cnt gs.length l)∨(spr gs (c|||l) m≠m∧n=cnt gs.length l+k∧Pl gs K sp (spr gs (c|||l) m) (c|||l) k)):Pl gs K sp m c n:=by
 rcases h with ⟨h1,rfl⟩ | ⟨h1,rfl,h2⟩
 · exact .stay hl hc hs h1 (by rw [h1] at hk;exact hk)
 · exact .go hl hc hs h1 hk h2
theorem Pl.first {gs:List Gp} {K sp m c n:Nat} (h:Pl gs K sp m c n):∃ l n',n'≤n∧l<2 ^ gs.length∧(∀ i,l.testBit i=true→(Z6j gs m c).testBit i=true)∧cnt gs.length l≤sp∧spr gs (c|||l) m&&&K=0∧((spr gs (c|||l) m=m∧n'=cnt gs.length l)∨(spr gs (c|||l) m≠m∧∃ k,n'=cnt gs.length l+k∧Pl gs K sp (spr gs (c|||l) m) (c|||l) k)):=by
 obtain ⟨l,hl,hc,hs,hk,h1⟩:=h.cons_inv
 have hsub:∀ i,(l&&&Z6j gs m c).testBit i=true→l.testBit i=true:=fun i hi=>by rw [Nat.testBit_and,Bool.and_eq_true] at hi;exact hi.1
 have hins:Ins gs m (c|||l) (c|||(l&&&Z6j gs m c)):=fun i g hg hne=>by
   rw [Nat.testBit_or,Nat.testBit_or,Nat.testBit_and] at hne
   cases hb:(Z6j gs m c).testBit i with
   | true=>rw [hb] at hne;simp at hne
   | false =>
     rw [hb] at hne
     have hli:l.testBit i=true:=by cases h2:l.testBit i with
       | true=>rfl
       | false=>rw [h2] at hne;simp at hne
     have hci:c.testBit i=false:=and_zero.1 hc i hli
     apply Classical.byContradiction
     intro hnb
     rw [usfM_test.2 ⟨g,hg,hci,hnb⟩] at hb;cases hb
 have e:=hins.spr
 have hcs:=Ze7 (n:=gs.length) hsub
 refine ⟨l&&&Z6j gs m c,?_⟩
 rcases h1 with ⟨h2,rfl⟩ | ⟨h2,k,rfl,h3⟩
 · exact ⟨_,hcs,Nat.lt_of_le_of_lt Nat.and_le_left hl,fun i hi=>by rw [Nat.testBit_and,Bool.and_eq_true] at hi;exact hi.2,Nat.le_trans hcs hs,by rw [← e];exact hk,.inl ⟨by rw [← e];exact h2,rfl⟩⟩
 · refine ⟨cnt gs.length (l&&&Z6j gs m c)+k,by omega,Nat.lt_of_le_of_lt Nat.and_le_left hl,fun i hi=>by rw [Nat.testBit_and,Bool.and_eq_true] at hi;exact hi.2,Nat.le_trans hcs hs,by rw [← e];exact hk,.inr ⟨by rw [← e];exact h2,k,rfl,?_⟩⟩
   rw [← e]
   refine h3.ins (hins.mono fun v hv=>Z1E hv) fun i hi=>?_
   rw [Nat.testBit_or,Bool.or_eq_true] at hi ⊢
   exact hi.imp_right (hsub i)
def Stp (gs:List Gp) (op:Nat→Bool) (f:Nat→Int) (u i v:Nat):Prop:=∃ g,gs[i]?=some g∧op i=true∧((g.a.toNat=u∧g.b.toNat=v∧f i<1)∨(g.b.toNat=u∧g.a.toNat=v ∧ -1<f i))
structure Srch (gs:List Gp) (op:Nat→Bool) (f:Nat→Int) (S K:Nat) (V:List (Nat×Int)):Prop where
 nd:(V.map (·.1)).Nodup
 lt:∀ x∈V,x.1<7
 from_:∀ u,S.testBit u=true→(u,-1)∈V
 par:∀ q x,V[q]?=some x→(x.2=(-1:Int)∧S.testBit x.1=true)∨(S.testBit x.1=false∧∃ (i p:Nat) (y:Nat×Int),x.2=(i:Int)∧p<q∧V[p]?=some y∧K.testBit y.1=false∧Stp gs op f y.1 i x.1)
theorem Srch.few {gs:List Gp} {op:Nat→Bool} {f:Nat→Int} {S K:Nat} {V:List (Nat×Int)} (h:Srch gs op f S K V):V.length≤7:=by
 have h2:=h.nd.length_le_of_subset (l₂:=List.range 7) fun v hv=>by
   obtain ⟨x,hx,rfl⟩:=List.mem_map.1 hv
   exact List.mem_range.2 (h.lt x hx)
 simpa using h2
theorem Srch.start {gs:List Gp} {op:Nat→Bool} {f:Nat→Int} {S K:Nat} {l:List Nat} (hn:l.Nodup) (hl:∀ u∈l,u<7) (hS:∀ u,S.testBit u=true↔u∈l):Srch gs op f S K (l.map fun u=>(u,-1)):=by
 refine ⟨by rw [List.map_map];simpa [Function.comp_def] using hn,fun x hx=>?_,fun u hu=>List.mem_map.2 ⟨u,(hS u).1 hu,rfl⟩,fun q x hx=>?_⟩
 · obtain ⟨u,hu,rfl⟩:=List.mem_map.1 hx;exact hl u hu
 · obtain ⟨u,hu,rfl⟩:=List.mem_map.1 (List.mem_of_getElem? hx)
   exact .inl ⟨rfl,(hS u).2 hu⟩
theorem Srch.more {gs:List Gp} {op:Nat→Bool} {f:Nat→Int} {S K:Nat} {V:List (Nat×Int)} (h:Srch gs op f S K V) {j i v:Nat} {y:Nat×Int} (hj:V[j]?=some y) (hy:K.testBit y.1=false) (hs:Stp gs op f y.1 i v) (hv:v<7) (hn:v∉V.map (·.1)):Srch gs op f S K (V++[(v,(i:Int))]):=by
 have hjl:=(List.getElem?_eq_some_iff.1 hj).1
 refine ⟨?_,fun x hx=>?_,fun u hu=>List.mem_append_left _ (h.from_ u hu),fun q x hx=>?_⟩
 · rw [List.map_append]
   exact List.nodup_append.2 ⟨h.nd,by simp,fun a ha b hb=>by
     obtain rfl:b=v:=by simpa using hb
     intro e;exact hn (e▸ha)⟩
 · rcases List.mem_append.1 hx with h1 | h1
   · exact h.lt x h1
   · rw [List.mem_singleton.1 h1];exact hv
 · rcases Nat.lt_or_ge q V.length with h1 | h1
   · rw [List.getElem?_append_left h1] at hx
     rcases h.par q x hx with h2 | ⟨h2,i',p,z,h3,h4,h5,h6,h7⟩
     · exact .inl h2
     · exact .inr ⟨h2,i',p,z,h3,h4,by rw [List.getElem?_append_left (by omega)];exact h5,h6,h7⟩
   · rw [List.getElem?_append_right h1] at hx
     have hq:q=V.length:=by
       rcases Nat.eq_zero_or_pos (q-V.length) with h2 | h2
       · omega
       · rw [List.getElem?_eq_none (by simp;omega)] at hx;cases hx
     subst hq
     simp only [Nat.sub_self,List.getElem?_cons_zero,Option.some.injEq] at hx
     subst hx
     refine .inr ⟨?_,i,j,y,rfl,hjl,by rw [List.getElem?_append_left hjl];exact hj,hy,hs⟩
     cases hS:S.testBit v with
     | false=>rfl
     | true=>exact absurd (List.mem_map.2 ⟨_,h.from_ v hS,rfl⟩) hn
structure Back (gs:List Gp) (op:Nat→Bool) (f:Nat→Int) (S K:Nat) (V:List (Nat×Int)) (w q u:Nat) (l:List (Nat×Nat)):Prop where
 at_:∃ z,V[q]?=some (u,z)
 way:Way gs op f S K u l w
 nd:(l.map (·.1)).Nodup
 pos:∀ x∈l,∃ q',q<q'∧V[q']?=some (x.2,(x.1:Int))
theorem Back.start {gs:List Gp} {op:Nat→Bool} {f:Nat→Int} {S K:Nat} {V:List (Nat×Int)} {w q:Nat} {z:Int} (h:V[q]?=some (w,z)):Back gs op f S K V w q w []:=⟨⟨z,h⟩,.nil w,by simp,by simp⟩
theorem Z7G {V:List (Nat×Int)} (hn:(V.map (·.1)).Nodup) {q q' v:Nat} {z z':Int} (h:V[q]?=some (v,z)) (h':V[q']?=some (v,z')):q=q':=by
 have h1:(V.map (·.1))[q]?=some v:=by rw [List.getElem?_map,h];rfl
 have h2:(V.map (·.1))[q']?=some v:=by rw [List.getElem?_map,h'];rfl
 obtain ⟨k1,e1⟩:=List.getElem?_eq_some_iff.1 h1
 obtain ⟨k2,e2⟩:=List.getElem?_eq_some_iff.1 h2
 exact (List.getElem_inj hn).1 (e1.trans e2.symm)
theorem Back.more {gs:List Gp} {op:Nat→Bool} {f:Nat→Int} {S K:Nat} {V:List (Nat×Int)} (hs:Srch gs op f S K V) (hab:∀ (i:Nat) (g:Gp),gs[i]?=some g→g.a.toNat≠g.b.toNat) {w q u:Nat} {z:Int} {l:List (Nat×Nat)} (h:Back gs op f S K V w q u l) (hz:V[q]?=some (u,z)) (hne:z ≠ -1):∃ (i p y:Nat) (g:Gp),z=i∧p<q∧gs[i]?=some g∧((g.a.toNat=y∧g.b.toNat=u)∨(g.b.toNat=y∧g.a.toNat=u))∧Back gs op f S K V w p y ((i,u)::l):=by
 rcases hs.par q _ hz with ⟨h1,_⟩ | ⟨h1,i,p,⟨y,zy⟩,h2,h3,h4,h5,g,h6,h7,h8⟩
 · exact absurd h1 hne
 · dsimp only at h1 h2 h5 h8
   refine ⟨i,p,y,g,h2,h3,h6,h8.imp (fun h=>⟨h.1,h.2.1⟩) (fun h=>⟨h.1,h.2.1⟩),⟨⟨zy,h4⟩,.cons h6 h7 h5 h1 h8 h.way,?_,fun x hx=>?_⟩⟩
   · rw [List.map_cons,List.nodup_cons]
     refine ⟨fun hm=>?_,h.nd⟩
     obtain ⟨x,hx,e⟩:=List.mem_map.1 hm
     obtain ⟨q',h9,h10⟩:=h.pos x hx
     rcases hs.par q' _ h10 with ⟨h11,_⟩ | ⟨_,i',p',⟨y',zy'⟩,h12,h13,h14,_,g',h15,_,h16⟩
     · dsimp only at h11;omega
     · dsimp only at h12 h16
       have hi:i'=i:=by omega
       subst hi
       rw [h6] at h15
       obtain rfl:=Option.some.inj h15
       have hne:=hab i' g h6
       have hvu:x.2≠u:=fun e2=>by
         have:=Z7G hs.nd hz (e2▸h10)
         omega
       have hvy:x.2=y:=by
         rcases h8 with ⟨k1,k2,_⟩ | ⟨k1,k2,_⟩<;>rcases h16 with ⟨k3,k4,_⟩ | ⟨k3,k4,_⟩<;>omega
       have:=Z7G hs.nd h4 (hvy▸h10)
       omega
   · rcases List.mem_cons.1 hx with rfl | hx
     · exact ⟨q,h3,by rw [hz,h2]⟩
     · obtain ⟨q',h9,h10⟩:=h.pos x hx
       exact ⟨q',by omega,h10⟩
theorem Back.stop {gs:List Gp} {op:Nat→Bool} {f:Nat→Int} {S K:Nat} {V:List (Nat×Int)} (hs:Srch gs op f S K V) {w q u:Nat} {l:List (Nat×Nat)} (h:Back gs op f S K V w q u l) (hz:V[q]?=some (u,-1)) (hw:K.testBit w=true):WayK gs op f S K u l w:=by
 rcases hs.par q _ hz with ⟨_,h1⟩ | ⟨_,i,p,y,h2,_⟩
 · exact ⟨h.way,h.nd,h1,hw⟩
 · dsimp only at h2;omega
def ZbV (V:List (Nat×Int)):Nat:=V.foldl (fun n x=>n|||2 ^ x.1) 0
theorem Zan (V:List (Nat×Int)) (n v:Nat):(V.foldl (fun n x=>n|||2 ^ x.1) n).testBit v=(n.testBit v||decide (v∈V.map (·.1))):=by
 induction V generalizing n with
 | nil=>simp
 | cons x V ih =>
   rw [List.foldl_cons,ih,Nat.testBit_or,Nat.testBit_two_pow,List.map_cons,Bool.or_assoc]
   congr 1
   rw [Bool.eq_iff_iff]
   simp only [Bool.or_eq_true,decide_eq_true_eq,List.mem_cons]
   exact or_congr ⟨fun h=>h.symm,fun h=>h.symm⟩ Iff.rfl
theorem Z0G (V:List (Nat×Int)) (v:Nat):(ZbV V).testBit v=true↔v∈V.map (·.1):=by
 unfold ZbV;rw [Zan];simp
theorem Srch.met_lt {gs:List Gp} {op:Nat→Bool} {f:Nat→Int} {S K:Nat} {V:List (Nat×Int)} (h:Srch gs op f S K V):ZbV V<2 ^ 7:=Z0B fun v hv=>by
 obtain ⟨x,hx,rfl⟩:=List.mem_map.1 ((Z0G V v).1 hv)
 exact h.lt x hx
structure Shn (gs:List Gp) (op:Nat→Bool) (f:Nat→Int) (S K:Nat) (V:List (Nat×Int)):Prop where
 s:Srch gs op f S K V
 no:∀ x∈V,K.testBit x.1=false
 cl:∀ u v i,u∈V.map (·.1)→Stp gs op f u i v→v∈V.map (·.1)
theorem Shn.sub {gs:List Gp} {op:Nat→Bool} {f:Nat→Int} {S K:Nat} {V:List (Nat×Int)} (h:Shn gs op f S K V):(∀ v,S.testBit v=true→(ZbV V).testBit v=true)∧∀ v,K.testBit v=true→(ZbV V).testBit v=false:=by
 refine ⟨fun v hv=>(Z0G V v).2 (List.mem_map.2 ⟨_,h.s.from_ v hv,rfl⟩),fun v hv=>?_⟩
 cases hm:(ZbV V).testBit v with
 | false=>rfl
 | true =>
   obtain ⟨x,hx,rfl⟩:=List.mem_map.1 ((Z0G V v).1 hm)
   rw [h.no x hx] at hv;cases hv
theorem Shn.full {gs:List Gp} {f:Nat→Int} {S K:Nat} {V:List (Nat×Int)} (h:Shn gs (fun _=>true) f S K V) (hf:Flw f S K gs):Z1L f S gs=(Z5F (ZbV V) gs).length:=by
 obtain ⟨h1,h2⟩:=h.sub
 rw [← Z7q hf.cons h.s.met_lt h1 h2,← Z7i]
 refine Za2 hf.one fun i g hg=>⟨fun h3 h4=>?_,fun h3 h4=>?_⟩
 · rcases Int.lt_or_le (f i) 1 with h5 | h5
   · have:=(Z0G V _).2 (h.cl _ _ i ((Z0G V _).1 h3) ⟨g,hg,rfl,.inl ⟨rfl,rfl,h5⟩⟩)
     rw [h4] at this;cases this
   · exact h5
 · rcases Int.lt_or_le (-1) (f i) with h5 | h5
   · have:=(Z0G V _).2 (h.cl _ _ i ((Z0G V _).1 h3) ⟨g,hg,rfl,.inr ⟨rfl,rfl,h5⟩⟩)
     rw [h4] at this;cases this
   · exact h5
structure Two (gs:List Gp) (S K:Nat):Prop where
 w:Wth gs 7
 ab:∀ (i:Nat) (g:Gp),gs[i]?=some g→g.a.toNat≠g.b.toNat
 s:S<2 ^ 7
 k:K<2 ^ 7
 no:∀ v,S.testBit v=true→K.testBit v=false
theorem Z1J (n m:Nat):((List.range n).filter fun i=>m.testBit i).length=cnt n m:=by unfold cnt;rw [List.countP_eq_length_filter]
def Cut (gs:List Gp) (S K:Nat) (m:Nat):Prop:=Lst (fun n=>∃ C,C<2 ^ gs.length∧Shut gs C S K∧cnt gs.length C=n) m
theorem Ze9 (X:Nat) (gs:List Gp):msk (Z5F X gs)<2 ^ gs.length:=Z2n fun j hj=>by
 obtain ⟨i,g,h1,_,rfl⟩:=cutM_mem.1 hj
 have:=(List.getElem?_eq_some_iff.1 h1).1;omega
theorem ZbB (X:Nat) (gs:List Gp):cnt gs.length (msk (Z5F X gs))=(Z5F X gs).length:=by
 have e:∀ i,(msk (Z5F X gs)).testBit i=match gs[i]? with | some g=>crs X g | none=>false:=fun i=>by
   rw [Bool.eq_iff_iff,Z1c (fun j hj=>by obtain ⟨q,_,_,_,rfl⟩:=cutM_mem.1 hj;omega),cutM_mem]
   constructor
   · rintro ⟨q,g,h1,h2,e⟩
     obtain rfl:i=q:=by omega
     rw [h1];exact h2
   · intro h
     cases hg:gs[i]? with
     | none=>rw [hg] at h;cases h
     | some g=>rw [hg] at h;exact ⟨i,g,hg,h,rfl⟩
 unfold Z5F
 rw [List.length_map,← Z1J]
 congr 1
 refine List.filter_congr fun i _=>?_
 have:=e i
 unfold Z5F at this
 exact this
theorem Shn.cut {gs:List Gp} {f:Nat→Int} {S K:Nat} {V:List (Nat×Int)} (ht:Two gs S K) (h:Shn gs (fun _=>true) f S K V) (hf:Flw f S K gs):Cut gs S K (Z5F (ZbV V) gs).length∧Shut gs (msk (Z5F (ZbV V) gs)) S K:=by
 obtain ⟨h1,h2⟩:=h.sub
 have hs:=ZbC (gs:=gs) h1 h2
 refine ⟨⟨⟨_,Ze9 _ _,hs,ZbB _ _⟩,?_⟩,hs⟩
 rintro n ⟨C,hC,h3,rfl⟩
 have h4:=Zf1 ht.w ht.s hf.one hf.cons h3
 rw [h.full hf,Z1J] at h4
 omega
theorem Shut.mono {gs:List Gp} {C S S' K:Nat} (h:Shut gs C S' K) (hs:∀ v,S.testBit v=true→S'.testBit v=true):Shut gs C S K:=fun t v hv=>h t v (Z6P hs hv)
theorem Z7B (gs:List Gp) (cl m:Nat):∀ t,lv gs cl (spr gs cl m) t=lv gs cl m (t+1)
 | 0=>rfl
 | t+1=>by show spr gs cl (lv gs cl (spr gs cl m) t)=spr gs cl (lv gs cl m (t+1));rw [Z7B gs cl m t]
theorem Shut.next {gs:List Gp} {C S K:Nat} (h:Shut gs C S K):Shut gs C (spr gs C S) K:=fun t v hv=>h (t+1) v (by rw [← Z7B];exact hv)
theorem Z1N {gs:List Gp} {C S K:Nat} (h:Shut gs C S K):S&&&K=0:=and_zero.2 fun v hv=>h 0 v hv
theorem Z1a (n:Nat):cnt n 0=0:=by unfold cnt;simp
theorem Pl.free {gs:List Gp} {K sp:Nat} (hw:Wth gs 7):∀ (d m c:Nat),m<2 ^ 7→7-cnt 7 m≤d→Shut gs c m K→Pl gs K sp m c 0:=by
 intro d
 induction d with
 | zero =>
   intro m c hm hd hs
   have e:spr gs c m=m:=Classical.byContradiction fun hne=>by
     have:=Z58 hw hm hne
     have:=Z9P 7 (spr gs c m)
     omega
   have:=Pl.stay (gs:=gs) (K:=K) (sp:=sp) (m:=m) (c:=c) (l:=0) (Nat.two_pow_pos _) (Nat.zero_and _) (by rw [Z1a];omega) (by rw [Nat.or_zero];exact e) (Z1N hs)
   rwa [Z1a] at this
 | succ d ih =>
   intro m c hm hd hs
   by_cases e:spr gs c m=m
   · have:=Pl.stay (gs:=gs) (K:=K) (sp:=sp) (m:=m) (c:=c) (l:=0) (Nat.two_pow_pos _) (Nat.zero_and _) (by rw [Z1a];omega) (by rw [Nat.or_zero];exact e) (Z1N hs)
     rwa [Z1a] at this
   · have h1:=Z58 hw hm e
     have h2:=ih (spr gs c m) c (Z65 hw hm) (by omega) hs.next
     have:=Pl.go (gs:=gs) (K:=K) (sp:=sp) (m:=m) (c:=c) (l:=0) (n:=0) (Nat.two_pow_pos _) (Nat.zero_and _) (by rw [Z1a];omega) (by rw [Nat.or_zero];exact e) (by rw [Nat.or_zero];exact Z1N hs.next) (by rw [Nat.or_zero];exact h2)
     rwa [Z1a] at this
theorem Pl.once {gs:List Gp} {K sp S C:Nat} (hw:Wth gs 7) (hS:S<2 ^ 7) (hC:C<2 ^ gs.length) (hs:Shut gs C S K) (hn:cnt gs.length C≤sp):Pl gs K sp S 0 (cnt gs.length C):=by
 by_cases e:spr gs C S=S
 · exact .stay hC (Nat.and_zero _) hn (by rw [Nat.zero_or];exact e) (Z1N hs)
 · have h2:=Pl.free (sp:=sp) hw 7 (spr gs C S) C (Z65 hw hS) (by omega) hs.next
   have:=Pl.go (gs:=gs) (K:=K) (sp:=sp) (m:=S) (c:=0) (l:=C) (n:=0) hC (Nat.and_zero _) hn (by rw [Nat.zero_or];exact e) (by rw [Nat.zero_or];exact Z1N hs.next) (by rw [Nat.zero_or];exact h2)
   rwa [Nat.add_zero] at this
theorem Z7h {n a b:Nat} (h:a&&&b=0):cnt n (a|||b)=cnt n a+cnt n b:=by
 unfold cnt
 have h:=and_zero.1 h
 induction (List.range n) with
 | nil=>rfl
 | cons x l ih =>
   simp only [List.countP_cons,ih,Nat.testBit_or]
   have:=h x
   cases ha:a.testBit x<;>cases hb:b.testBit x<;>simp_all<;>omega
theorem Zi5 {a b n:Nat} (ha:a<2 ^ n) (hb:b<2 ^ n):a|||b<2 ^ n:=Nat.or_lt_two_pow ha hb
theorem Pl.shut {gs:List Gp} {K sp m c n:Nat} (h:Pl gs K sp m c n):c<2 ^ gs.length→∃ C,C<2 ^ gs.length∧(∀ i,c.testBit i=true→C.testBit i=true)∧cnt gs.length C=cnt gs.length c+n∧Shut gs C m K:=by
 induction h with
 | @stay m c l hl hc hs he hk =>
   intro hcl
   refine ⟨c|||l,Zi5 hcl hl,fun i hi=>by rw [Nat.testBit_or,hi];rfl,Z7h (by rw [Nat.and_comm];exact hc),fun t v hv=>?_⟩
   have:lv gs (c|||l) m t=m:=by
     have:=Z3E (gs:=gs) (cl:=c|||l) (m:=m) (t:=0) he t
     rwa [Nat.zero_add] at this
   rw [this] at hv
   exact and_zero.1 hk v hv
 | @go m c l n hl hc hs hne hk h ih =>
   intro hcl
   obtain ⟨C,h1,h2,h3,h4⟩:=ih (Zi5 hcl hl)
   refine ⟨C,h1,fun i hi=>h2 i (by rw [Nat.testBit_or,hi];rfl),?_,h4.mono fun v hv=>Z1E hv⟩
   rw [h3,Z7h (by rw [Nat.and_comm];exact hc)];omega
theorem Pl.cut {gs:List Gp} {K sp S n m:Nat} (h:Pl gs K sp S 0 n) (hc:Cut gs S K m):m≤n:=by
 obtain ⟨C,h1,_,h3,h4⟩:=h.shut (Nat.two_pow_pos _)
 rw [Z1a,Nat.zero_add] at h3
 exact hc.2 n ⟨C,h1,h4,h3⟩
theorem Cut.plan {gs:List Gp} {K sp S m:Nat} (hw:Wth gs 7) (hS:S<2 ^ 7) (hc:Cut gs S K m) (hm:m≤sp):Lst (Pl gs K sp S 0) m:=by
 refine ⟨?_,fun n hn=>hn.cut hc⟩
 obtain ⟨⟨C,h1,h2,h3⟩,_⟩:=hc
 have:=Pl.once (sp:=sp) hw hS h1 h2 (by omega)
 rwa [h3] at this
theorem Z8B (a b:Nat):(a&&&b)%2=(a%2)*(b%2):=by
 have h:=Nat.testBit_and a b 0
 rw [Nat.testBit_zero,Nat.testBit_zero,Nat.testBit_zero] at h
 rcases Nat.mod_two_eq_zero_or_one a with ha | ha<;>rcases Nat.mod_two_eq_zero_or_one b with hb | hb<;>rcases Nat.mod_two_eq_zero_or_one (a&&&b) with hc | hc<;>rw [ha,hb,hc] at h<;>simp_all
theorem Z5d:∀ (n:Nat) {all now s:Nat},all<2 ^ n→now&&&all=now→s&&&all=s→s<now→s≤(now-1)&&&all
 | 0,all,now,s,h,h1,_,h3=>by
   obtain rfl:all=0:=by simpa using h
   rw [Nat.and_zero] at h1;omega
 | n+1,all,now,s,h,h1,h2,h3=>by
   have a1:=congrArg (· / 2) h1
   have a2:=congrArg (· / 2) h2
   have b1:=congrArg (· % 2) h1
   have b2:=congrArg (· % 2) h2
   simp only [Nat.and_div_two,Z8B] at a1 a2 b1 b2
   have hA:all / 2<2 ^ n:=by rw [Nat.pow_succ] at h;omega
   have e:(now-1)&&&all=2*(((now-1)&&&all) / 2)+((now-1)&&&all)%2:=by omega
   rw [e,Nat.and_div_two,Z8B]
   rcases Nat.mod_two_eq_zero_or_one now with hn | hn
   · have ih:=Z5d n hA a1 a2 (by omega)
     have e2:(now-1) / 2=now / 2-1:=by omega
     have e3:(now-1)%2=1:=by omega
     rw [e2,e3]
     have:s%2≤all%2:=by rw [← b2];rcases Nat.mod_two_eq_zero_or_one s with h4 | h4<;>rw [h4]<;>omega
     omega
   · have e2:(now-1) / 2=now / 2:=by omega
     have e3:(now-1)%2=0:=by omega
     rw [e2,e3,a1];omega
theorem Pl.few {gs:List Gp} {K sp m c n:Nat} (h:Pl gs K sp m c n):n+cnt gs.length c≤gs.length:=by
 induction h with
 | @stay m c l _ hc _ _ _ =>
   have:=Z7h (n:=gs.length) hc
   have:=Z9P gs.length (l|||c)
   omega
 | @go m c l n _ hc _ _ _ _ ih =>
   have:=Z7h (n:=gs.length) hc
   rw [Nat.or_comm] at this
   omega
theorem Lst.ex {P:Nat→Prop}:∀ {n:Nat},P n→∃ m,Lst P m∧m≤n:=by
 intro n
 induction n using Nat.strongRecOn with
 | ind n ih =>
   intro h
   by_cases hx:∃ k,k<n∧P k
   · obtain ⟨k,h1,h2⟩:=hx
     obtain ⟨m,h3,h4⟩:=ih k h1 h2
     exact ⟨m,h3,by omega⟩
   · exact ⟨n,⟨h,fun k hk=>Nat.le_of_not_lt fun hl=>hx ⟨k,hl,hk⟩⟩,Nat.le_refl _⟩
def Cnd (gs:List Gp) (K sp m c l n:Nat):Prop:=(∀ i,l.testBit i=true→(Z6j gs m c).testBit i=true)∧cnt gs.length l≤sp∧spr gs (c|||l) m&&&K=0∧((spr gs (c|||l) m=m∧n=cnt gs.length l)∨(spr gs (c|||l) m≠m∧∃ k,n=cnt gs.length l+k∧Lst (Pl gs K sp (spr gs (c|||l) m) (c|||l)) k))
theorem Cnd.unique {gs:List Gp} {K sp m c l n n':Nat} (h:Cnd gs K sp m c l n) (h':Cnd gs K sp m c l n'):n=n':=by
 rcases h.2.2.2 with ⟨h1,h2⟩ | ⟨h1,k,h2,h3⟩<;>rcases h'.2.2.2 with ⟨h4,h5⟩ | ⟨h4,k',h5,h6⟩
 · omega
 · exact absurd h1 h4
 · exact absurd h4 h1
 · rw [h2,h5,h3.unique h6]
theorem Cnd.pl {gs:List Gp} {K sp m c l n:Nat} (h:Cnd gs K sp m c l n):Pl gs K sp m c n:=by
 obtain ⟨h1,h2,h3,h4⟩:=h
 have hl:l<2 ^ gs.length:=Z0B fun i hi=>by
   obtain ⟨g,h5,_⟩:=usfM_test.1 (h1 i hi)
   exact (List.getElem?_eq_some_iff.1 h5).1
 have hc:l&&&c=0:=and0_iff.2 fun i=>by
   cases hi:l.testBit i with
   | false=>rfl
   | true =>
     obtain ⟨g,_,h6,_⟩:=usfM_test.1 (h1 i hi)
     rw [h6];rfl
 rcases h4 with ⟨h5,h6⟩ | ⟨h5,k,h6,h7⟩
 · exact Pl.of (k:=0) hl hc h2 h3 (.inl ⟨h5,h6⟩)
 · exact Pl.of hl hc h2 h3 (.inr ⟨h5,h6,h7.1⟩)
theorem Cnd.sub {gs:List Gp} {K sp m c l n:Nat} (h:Cnd gs K sp m c l n):l&&&Z6j gs m c=l:=Z0P fun i=>by
 rw [Nat.testBit_and]
 cases hi:l.testBit i with
 | false=>rfl
 | true=>rw [h.1 i hi];rfl
def ZiB (gs:List Gp) (K sp m c n l:Nat) (lost:Bool):Prop:=(lost=true∧n=11∧l=0∧∀ k,¬ Pl gs K sp m c k)∨(lost=false∧n≤10∧Lst (Pl gs K sp m c) n∧Cnd gs K sp m c l n)
structure BI (gs:List Gp) (K sp m c now n l:Nat) (lost:Bool):Prop where
 min:∀ s n',now<s→Cnd gs K sp m c s n'→n≤n'
 is:(lost=true∧n=11∧l=0)∨(lost=false∧n≤10∧Cnd gs K sp m c l n)
theorem ZaZ (gs:List Gp) (m c:Nat):Z6j gs m c<2 ^ gs.length:=Z0B fun i hi=>by
 obtain ⟨g,h5,_⟩:=usfM_test.1 hi
 exact (List.getElem?_eq_some_iff.1 h5).1
theorem Zir {a b:Nat} (h:a&&&b=a):a≤b:=h▸Nat.and_le_right
theorem BI.start (gs:List Gp) (K sp m c:Nat):BI gs K sp m c (Z6j gs m c) 11 0 true:=⟨fun s n' h1 h2=>absurd (Zir h2.sub) (by omega),.inl ⟨rfl,rfl,rfl⟩⟩
theorem BI.le {gs:List Gp} {K sp m c now n l:Nat} {lost:Bool} (h:BI gs K sp m c now n l lost):n≤11:=by rcases h.is with ⟨_,h1,_⟩ | ⟨_,h1,_⟩<;>omega
theorem BI.no {gs:List Gp} {K sp m c now n l:Nat} {lost:Bool} (h:BI gs K sp m c now n l lost) (hu:now&&&Z6j gs m c=now) (h0:now≠0) (hx:∀ n',Cnd gs K sp m c now n'→n≤n'):BI gs K sp m c ((now-1)&&&Z6j gs m c) n l lost:=⟨fun s n' h1 h2=>by
 rcases Nat.lt_trichotomy s now with h3 | h3 | h3
 · have:=Z5d gs.length (ZaZ gs m c) hu h2.sub h3;omega
 · subst h3;exact hx n' h2
 · exact h.min s n' h3 h2,h.is⟩
theorem BI.take {gs:List Gp} {K sp m c now n l n2:Nat} {lost:Bool} (h:BI gs K sp m c now n l lost) (hu:now&&&Z6j gs m c=now) (h0:now≠0) (hc:Cnd gs K sp m c now n2) (hl:n2<n):BI gs K sp m c ((now-1)&&&Z6j gs m c) n2 now false:=⟨fun s n' h1 h2=>by
 rcases Nat.lt_trichotomy s now with h3 | h3 | h3
 · have:=Z5d gs.length (ZaZ gs m c) hu h2.sub h3;omega
 · subst h3;rw [hc.unique h2];exact Nat.le_refl _
 · have:=h.min s n' h3 h2;omega,.inr ⟨rfl,by have:=h.le;omega,hc⟩⟩
theorem BI.done {gs:List Gp} {K sp m c n l:Nat} {lost:Bool} (hg:gs.length≤10) (hmin:∀ s n',Cnd gs K sp m c s n'→n≤n') (is:(lost=true∧n=11∧l=0)∨(lost=false∧n≤10∧Cnd gs K sp m c l n)):ZiB gs K sp m c n l lost:=by
 have key:∀ k,Pl gs K sp m c k→∃ s n',Cnd gs K sp m c s n'∧n'≤k:=fun k hk=>by
   obtain ⟨s,n',h1,h2,h3,h4,h5,h6⟩:=hk.first
   rcases h6 with ⟨h7,h8⟩ | ⟨h7,k2,h8,h9⟩
   · exact ⟨s,n',⟨h3,h4,h5,.inl ⟨h7,h8⟩⟩,h1⟩
   · obtain ⟨k3,h10,h11⟩:=Lst.ex h9
     exact ⟨s,cnt gs.length s+k3,⟨h3,h4,h5,.inr ⟨h7,k3,rfl,h10⟩⟩,by omega⟩
 rcases is with ⟨h1,h2,h3⟩ | ⟨h1,h2,h3⟩
 · refine .inl ⟨h1,h2,h3,fun k hk=>?_⟩
   obtain ⟨s,n',h4,h5⟩:=key k hk
   have:=hmin s n' h4
   have:=h4.pl.few
   omega
 · refine .inr ⟨h1,h2,⟨h3.pl,fun k hk=>?_⟩,h3⟩
   obtain ⟨s,n',h4,h5⟩:=key k hk
   have:=hmin s n' h4
   omega
def Zkr (gs:List Gp) (K sp m c l:Nat):Prop:=l<2 ^ gs.length∧l&&&c=0∧cnt gs.length l≤sp∧spr gs (c|||l) m&&&K=0
def Seg (gs:List Gp) (K sp:Nat):Nat→Nat→List Nat→Nat→Nat→Prop
 | m,c,[],m',c'=>m'=m∧c'=c
 | m,c,l::ls,m',c'=>Zkr gs K sp m c l∧Seg gs K sp (spr gs (c|||l) m) (c|||l) ls m' c'
theorem Seg.snoc {gs:List Gp} {K sp:Nat}:∀ {ls:List Nat} {m c m' c' l:Nat},Seg gs K sp m c ls m' c'→Zkr gs K sp m' c' l→Seg gs K sp m c (ls++[l]) (spr gs (c'|||l) m') (c'|||l)
 | [],m,c,m',c',l,⟨h1,h2⟩,hw=>by subst h1;subst h2;exact ⟨hw,rfl,rfl⟩
 | x::ls,m,c,m',c',l,⟨h1,h2⟩,hw=>⟨h1,Seg.snoc h2 hw⟩
def RunP (gs:List Gp) (K sp m c:Nat) (ls:List Nat):Prop:=∃ m' c',Seg gs K sp m c ls m' c'∧Shut gs c' m' K
theorem Cnd.wk {gs:List Gp} {K sp m c l n:Nat} (h:Cnd gs K sp m c l n):Zkr gs K sp m c l:=by
 obtain ⟨h1,h2,h3,_⟩:=h
 refine ⟨Z0B fun i hi=>by
   obtain ⟨g,h5,_⟩:=usfM_test.1 (h1 i hi)
   exact (List.getElem?_eq_some_iff.1 h5).1,and0_iff.2 fun i=>?_,h2,h3⟩
 cases hi:l.testBit i with
 | false=>rfl
 | true =>
   obtain ⟨g,_,h6,_⟩:=usfM_test.1 (h1 i hi)
   rw [h6];rfl
theorem RunP.once {gs:List Gp} {K sp S C:Nat} (hs:Shut gs C S K) (hC:C<2 ^ gs.length) (hn:cnt gs.length C≤sp):RunP gs K sp S 0 [C] :=
 ⟨spr gs (0|||C) S,0|||C,⟨⟨hC,Nat.and_zero _,hn,by rw [Nat.zero_or];exact Z1N hs.next⟩,rfl,rfl⟩,by rw [Nat.zero_or];exact hs.next⟩
theorem RunP.stop {gs:List Gp} {K sp S c0 m c l n:Nat} {ls:List Nat} (h:Seg gs K sp S c0 ls m c) (hc:Cnd gs K sp m c l n) (he:spr gs (c|||l) m=m):RunP gs K sp S c0 (ls++[l]):=by
 refine ⟨_,_,h.snoc hc.wk,fun t v hv=>?_⟩
 have h0:=hc.2.2.1
 rw [he] at hv h0
 have hst:=Z3E (gs:=gs) (cl:=c|||l) (m:=m) (t:=0) he t
 rw [Nat.zero_add] at hst
 rw [hst] at hv
 exact and_zero.1 h0 v hv
def lvp (gs:List Gp) (cl:Nat→Nat) (m:Nat):Nat→Nat
 | 0=>m
 | t+1=>spr gs (cl t) (lvp gs cl m t)
theorem Z3e (gs:List Gp) (m:Nat):∀ t,lvp gs (fun _=>0) m t=lv gs 0 m t
 | 0=>rfl
 | t+1=>by show spr gs 0 (lvp gs (fun _=>0) m t)=spr gs 0 (lv gs 0 m t);rw [Z3e gs m t]
theorem Z5T {gs:List Gp} {cl:Nat→Nat} {m:Nat}:∀ {t t':Nat},t≤t'→∀ {v:Nat},(lvp gs cl m t).testBit v=true→(lvp gs cl m t').testBit v=true
 | t, 0, h, v, hv => by obtain rfl : t = 0 := by omega
                        exact hv
 | t,t'+1,h,v,hv=>by
   rcases Nat.lt_or_ge t' t with h1 | h1
   · obtain rfl:t=t'+1:=by omega
     exact hv
   · exact Z1E (Z5T h1 hv)
def fol (gs:List Gp) (cl:Nat→Nat) (m n k:Nat):Int:=match (List.range (n+1)).find? fun t=>(lvp gs cl m t).testBit k with
 | some t=>(t:Int)
 | none=>100
theorem Z5M (gs:List Gp) (cl:Nat→Nat) (m n k:Nat):(∃ t:Nat,t≤n∧fol gs cl m n k=t∧(lvp gs cl m t).testBit k=true∧∀ i:Nat,i<t→(lvp gs cl m i).testBit k=false)∨(fol gs cl m n k=100∧∀ i:Nat,i≤n→(lvp gs cl m i).testBit k=false):=by
 unfold fol
 rcases hf:(List.range (n+1)).find? fun t=>(lvp gs cl m t).testBit k with _ | t
 · refine .inr ⟨rfl,fun i hi=>?_⟩
   have:=List.find?_eq_none.1 hf i (List.mem_range.2 (by omega))
   simpa using this
 · obtain ⟨h1,lp,lq,h2,h3⟩:=List.find?_eq_some_iff_append.1 hf
   have hm:t∈List.range (n+1):=by rw [h2];simp
   refine .inl ⟨t,by have:=List.mem_range.1 hm;omega,rfl,h1,fun i hi=>?_⟩
   have hi7:i∈List.range (n+1):=List.mem_range.2 (by have:=List.mem_range.1 hm;omega)
   have hp:=List.pairwise_lt_range (n:=n+1)
   rw [h2] at hi7 hp
   rw [List.pairwise_append] at hp
   rcases List.mem_append.1 hi7 with h4 | h4
   · have:=h3 i h4;simpa using this
   · rcases List.mem_cons.1 h4 with rfl | h4
     · omega
     · have:=(List.pairwise_cons.1 hp.2.1).1 i h4;omega
theorem Z7v {gs:List Gp} {cl:Nat→Nat} {m n k:Nat} (h:(lvp gs cl m n).testBit k=true):∃ t:Nat,t≤n∧fol gs cl m n k=t∧(lvp gs cl m t).testBit k=true∧∀ i:Nat,i<t→(lvp gs cl m i).testBit k=false:=by
 rcases Z5M gs cl m n k with h1 | ⟨_,h1⟩
 · exact h1
 · rw [h1 n (Nat.le_refl _)] at h;cases h
theorem Z6J {gs:List Gp} {cl:Nat→Nat} {m n k:Nat} (h:(lvp gs cl m n).testBit k=false):fol gs cl m n k=100:=by
 rcases Z5M gs cl m n k with ⟨t,h1,_,h3,_⟩ | ⟨h1,_⟩
 · rw [Z5T h1 h3] at h;cases h
 · exact h1
theorem Z7w {gs:List Gp} {cl:Nat→Nat} {m n k t:Nat} (h1:t≤n) (h2:(lvp gs cl m t).testBit k=true) (h3:∀ i:Nat,i<t→(lvp gs cl m i).testBit k=false):fol gs cl m n k=t:=by
 obtain ⟨t',_,h5,h6,h7⟩:=Z7v (Z5T h1 h2)
 rw [h5]
 rcases Nat.lt_trichotomy t t' with h | h | h
 · rw [h7 t h] at h2;cases h2
 · rw [h]
 · rw [h3 t' h] at h6;cases h6
theorem ZbI {gs:List Gp} {cl:Nat→Nat} {m n k:Nat}:fol gs cl m (n+1) k=bif (lvp gs cl m n).testBit k then fol gs cl m n k else bif (lvp gs cl m (n+1)).testBit k then ((n+1:Nat):Int) else 100:=by
 cases h:(lvp gs cl m n).testBit k with
 | true =>
   obtain ⟨t,h1,h2,h3,h4⟩:=Z7v h
   rw [cond_true,h2]
   exact Z7w (by omega) h3 h4
 | false =>
   rw [cond_false]
   cases h5:(lvp gs cl m (n+1)).testBit k with
   | true =>
     rw [cond_true]
     refine Z7w (Nat.le_refl _) h5 fun i hi=>?_
     cases h6:(lvp gs cl m i).testBit k with
     | false=>rfl
     | true=>rw [Z5T (show i≤n by omega) h6] at h;cases h
   | false=>exact Z6J h5
def Z6k (gs:List Gp) (cl s:Nat):Nat→Nat
 | 0=>s
 | i+1=>match gs[i]? with
   | some g=>bif cl.testBit i then Z6k gs cl s i else Z6k gs cl s i|||gpo s g
   | none=>Z6k gs cl s i
theorem Z5o {gs:List Gp} {cl s v:Nat}:∀ i,(Z6k gs cl s i).testBit v=true↔s.testBit v=true∨∃ j g,j<i∧gs[j]?=some g∧cl.testBit j=false∧(gpo s g).testBit v=true
 | 0=>by
   show s.testBit v=true↔_
   exact ⟨.inl,fun h=>h.elim id fun ⟨j,_,hj,_⟩=>absurd hj (Nat.not_lt_zero _)⟩
 | i+1=>by
   have ih:=Z5o (gs:=gs) (cl:=cl) (s:=s) (v:=v) i
   have up:(Z6k gs cl s i).testBit v=true→(s.testBit v=true∨∃ j g,j<i+1∧gs[j]?=some g∧cl.testBit j=false∧(gpo s g).testBit v=true):=fun h=>(ih.1 h).imp id fun ⟨j,g,h1,h2⟩=>⟨j,g,by omega,h2⟩
   unfold Z6k
   cases hg:gs[i]? with
   | none =>
     refine ⟨up,fun h=>ih.2 (h.imp id fun ⟨j,g,h1,h2,h3⟩=>⟨j,g,?_,h2,h3⟩)⟩
     rcases Nat.lt_or_ge j i with h4 | h4
     · exact h4
     · obtain rfl:j=i:=by omega
       rw [hg] at h2;cases h2
   | some g0 =>
     dsimp only
     cases hc:cl.testBit i with
     | true =>
       rw [cond_true]
       refine ⟨up,fun h=>ih.2 (h.imp id fun ⟨j,g,h1,h2,h3⟩=>⟨j,g,?_,h2,h3⟩)⟩
       rcases Nat.lt_or_ge j i with h4 | h4
       · exact h4
       · obtain rfl:j=i:=by omega
         rw [hc] at h3;cases h3.1
     | false =>
       rw [cond_false,Nat.testBit_or,Bool.or_eq_true]
       refine ⟨fun h=>h.elim up fun h=>.inr ⟨i,g0,by omega,hg,hc,h⟩,fun h=>?_⟩
       rcases h with h | ⟨j,g,h1,h2,h3,h4⟩
       · exact .inl (ih.2 (.inl h))
       · rcases Nat.lt_or_ge j i with h5 | h5
         · exact .inl (ih.2 (.inr ⟨j,g,h5,h2,h3,h4⟩))
         · obtain rfl:j=i:=by omega
           rw [hg] at h2
           obtain rfl:=Option.some.inj h2
           exact .inr h4
theorem Zbc (gs:List Gp) (cl s:Nat):Z6k gs cl s gs.length=spr gs cl s:=Z0P fun v=>by
 rw [Bool.eq_iff_iff,Z5o]
 unfold spr
 rw [Z3O]
 refine or_congr Iff.rfl ⟨fun ⟨j,g,_,h2,h3,h4⟩=>⟨j,g,h2,by rw [Nat.zero_add];exact h3,h4⟩,fun ⟨j,g,h2,h3,h4⟩=>⟨j,g,(List.getElem?_eq_some_iff.1 h2).1,h2,by rw [Nat.zero_add] at h3;exact h3,h4⟩⟩
structure FolI (gs:List Gp) (cl:Nat→Nat) (m n w acc:Nat) (o:List Int):Prop where
 len:o.length=n
 at_:∀ k<n,na o k=bif (lvp gs cl m w).testBit k then fol gs cl m w k else bif acc.testBit k then ((w+1:Nat):Int) else 100
theorem FolI.reached {gs:List Gp} {cl:Nat→Nat} {m n w acc:Nat} {o:List Int} (h:FolI gs cl m n w acc o) (hw:w<99) {k:Nat} (hk:k<n):na o k≤w↔(lvp gs cl m w).testBit k=true:=by
 have h1:=h.at_ k hk
 cases hb:(lvp gs cl m w).testBit k with
 | true =>
   rw [hb,cond_true] at h1
   obtain ⟨t,h2,h3,_⟩:=Z7v hb
   exact ⟨fun _=>rfl,fun _=>by omega⟩
 | false =>
   rw [hb,cond_false] at h1
   refine ⟨fun h2=>?_,fun h2=>by cases h2⟩
   cases ha:acc.testBit k with
   | true=>rw [ha,cond_true] at h1;omega
   | false=>rw [ha,cond_false] at h1;omega
theorem FolI.bd {gs:List Gp} {cl:Nat→Nat} {m n w acc:Nat} {o:List Int} (h:FolI gs cl m n w acc o) (hw:w<99) {k:Nat} (hk:k<n):0≤na o k∧na o k≤100:=by
 have h1:=h.at_ k hk
 cases hb:(lvp gs cl m w).testBit k with
 | true =>
   rw [hb,cond_true] at h1
   obtain ⟨t,h2,h3,_⟩:=Z7v hb
   omega
 | false =>
   rw [hb,cond_false] at h1
   cases ha:acc.testBit k with
   | true=>rw [ha,cond_true] at h1;omega
   | false=>rw [ha,cond_false] at h1;omega
theorem FolI.way {gs:List Gp} {cl:Nat→Nat} {m n w acc:Nat} {o:List Int} (h:FolI gs cl m n w acc o) (hw:w<99) {u v:Nat} (hu:u<n) (hv:v<n) (h1:na o u≤w) (h2:(w:Int)<na o v):FolI gs cl m n w (acc|||(bif (lvp gs cl m w).testBit u then 2 ^ v else 0)) (o.set v (min (na o v) ((w:Int)+1))):=by
 have hl:=h.len
 refine ⟨by rw [List.length_set];exact hl,fun k hk=>?_⟩
 have hub:=(h.reached hw hu).1 h1
 have hvb:(lvp gs cl m w).testBit v=false:=by
   cases hb:(lvp gs cl m w).testBit v with
   | false=>rfl
   | true=>have:=(h.reached hw hv).2 hb;omega
 rw [hub,cond_true,Nat.testBit_or,Nat.testBit_two_pow]
 by_cases e:v=k
 · subst e
   have h3:=h.at_ v hv
   rw [hvb,cond_false] at h3 ⊢
   rw [show decide (v=v)=true from decide_eq_true rfl,Bool.or_true,cond_true]
   have:na (o.set v (min (na o v) ((w:Int)+1))) v=min (na o v) ((w:Int)+1):=by
     unfold na;rw [List.getD_eq_getElem?_getD,List.getElem?_set_self (by omega)];rfl
   rw [this]
   cases ha:acc.testBit v with
   | true=>rw [ha,cond_true] at h3;omega
   | false=>rw [ha,cond_false] at h3;omega
 · have:na (o.set v (min (na o v) ((w:Int)+1))) k=na o k:=by
     unfold na;simp only [List.getD_eq_getElem?_getD,List.getElem?_set_ne e]
   rw [this,show decide (v=k)=false from decide_eq_false e,Bool.or_false]
   exact h.at_ k hk
theorem FolI.shut {gs:List Gp} {cl:Nat→Nat} {m n w i:Nat} {o:List Int} (hc:(cl w).testBit i=true) (h:FolI gs cl m n w (Z6k gs (cl w) (lvp gs cl m w) i) o):FolI gs cl m n w (Z6k gs (cl w) (lvp gs cl m w) (i+1)) o:=by
 have:Z6k gs (cl w) (lvp gs cl m w) (i+1)=Z6k gs (cl w) (lvp gs cl m w) i:=by
   rw [Z6k]
   cases gs[i]? with
   | none=>rfl
   | some g=>dsimp only;rw [hc];rfl
 rw [this];exact h
theorem FolI.week {gs:List Gp} {cl:Nat→Nat} {m n w:Nat} {o:List Int} (h:FolI gs cl m n w (Z6k gs (cl w) (lvp gs cl m w) gs.length) o):FolI gs cl m n (w+1) (Z6k gs (cl (w+1)) (lvp gs cl m (w+1)) 0) o:=by
 rw [Zbc] at h
 refine ⟨h.len,fun k hk=>?_⟩
 rw [h.at_ k hk]
 have hs:=ZbI (gs:=gs) (cl:=cl) (m:=m) (n:=w) (k:=k)
 show _=bif (lvp gs cl m (w+1)).testBit k then fol gs cl m (w+1) k else bif (lvp gs cl m (w+1)).testBit k then _ else 100
 rw [hs,show spr gs (cl w) (lvp gs cl m w)=lvp gs cl m (w+1) from rfl]
 cases h1:(lvp gs cl m (w+1)).testBit k with
 | true=>rw [cond_true,cond_true]
 | false =>
   cases h2:(lvp gs cl m w).testBit k with
   | true=>rw [Z5T (Nat.le_succ w) h2] at h1;cases h1
   | false=>rfl
def Z6h (gs:List Gp) (cl:Nat→Nat) (m n:Nat):List Int:=(List.range n).map (fol gs cl m 20)
theorem ZbG (gs:List Gp) (cl:Nat→Nat) (m n:Nat):(Z6h gs cl m n).length=n:=by simp [Z6h]
theorem Z4P {gs:List Gp} {cl:Nat→Nat} {m n k:Nat} (hk:k<n):na (Z6h gs cl m n) k=fol gs cl m 20 k:=by
 unfold na Z6h;rw [List.getD_eq_getElem?_getD,List.getElem?_map,List.getElem?_range hk];rfl
theorem FolI.done {gs:List Gp} {cl:Nat→Nat} {m n acc:Nat} {o:List Int} (h:FolI gs cl m n 20 acc o) (ha:acc=lvp gs cl m 20):o=Z6h gs cl m n:=by
 subst ha
 apply List.ext_getElem?
 intro k
 rcases Nat.lt_or_ge k n with hk | hk
 · have h1:=h.at_ k hk
   have h2:o[k]?=some (na o k):=by unfold na;rw [List.getD_eq_getElem?_getD,List.getElem?_eq_getElem (by rw [h.len];exact hk)];rfl
   rw [h2,h1]
   unfold Z6h
   rw [List.getElem?_map,List.getElem?_range hk]
   show _=some (fol gs cl m 20 k)
   cases hb:(lvp gs cl m 20).testBit k with
   | true=>rfl
   | false=>rw [Z6J hb];rfl
 · rw [List.getElem?_eq_none (by rw [h.len];exact hk),List.getElem?_eq_none (by rw [ZbG];exact hk)]
theorem Z7x {gs:List Gp} {m k:Nat} (hw:Wth gs 7) (hm:m<2 ^ 7):fol gs (fun _=>0) m 20 k=bif decide (far≤wk gs 0 m k) then 100 else wk gs 0 m k:=by
 rcases Z1m gs 0 m k with ⟨t,h1,h2,h3,h4⟩ | ⟨h1,h2⟩
 · rw [h2,decide_eq_false (by unfold far;omega),cond_false]
   exact Z7w (by omega) (by rw [Z3e];exact h3) fun i hi=>by rw [Z3e];exact h4 i hi
 · rw [h1,decide_eq_true (Int.le_refl _),cond_true]
   refine Z6J ?_
   rw [Z3e,Z6O hw hm (t:=6) (by decide) (by omega)]
   exact h2 6 (by decide)
theorem ZhR {gs:List Gp} {m k:Nat} (hw:Wth gs 7) (hm:m<2 ^ 7) {t:Nat} (ht:t<100):fol gs (fun _=>0) m 20 k≤t↔(lv gs 0 m t).testBit k=true:=by
 rw [Z7x hw hm,← Z8n hw hm (show (t:Int)<far by unfold far;omega)]
 have h3:=Z5i gs 0 m k
 by_cases h:far≤wk gs 0 m k
 · rw [decide_eq_true h,cond_true];unfold far at *;omega
 · rw [decide_eq_false h,cond_false]
def wkN (gs:List Gp) (m k:Nat):Int:=bif decide (far≤wk gs 0 m k) then -1 else wk gs 0 m k
theorem Zdy {h:Hse} (hk:h.ok) {ss:List Sgt} (hs:SOk h ss) (hy:∀ s∈ss,s.seen=true):h.agr ss=true:=by
 refine (Z4u hk hs).2 ⟨2 ^ h.bins.toNat-1,by have:=Nat.two_pow_pos h.bins.toNat;omega,List.all_eq_true.2 fun s h1=>?_⟩
 have h2:=hs s h1
 unfold exS
 rw [hy s h1,Zb4 (by rw [Nat.testBit_two_pow_sub_one];exact decide_eq_true (by omega)),decide_eq_true h2.1.1];rfl
theorem Zfk (gs:List Gp) (k:Nat):wk gs 0 0 k=far:=by
 rcases Z1m gs 0 0 k with ⟨t,_,_,h3,_⟩ | ⟨h1,_⟩
 · rw [Z4U,Nat.zero_testBit] at h3;cases h3
 · exact h1
theorem Zfv {h:Hse} (hk:h.ok) {ss:List Sgt} (hs:SOk h ss) (hn:∀ s∈ss,s.seen=false):h.agr ss=true:=by
 refine (Z4u hk hs).2 ⟨0,Nat.two_pow_pos _,List.all_eq_true.2 fun s h1=>?_⟩
 have h2:=hs s h1
 unfold exS
 rw [hn s h1,Zfk,decide_eq_false (by unfold far;omega)];rfl
def Z4X (ss:List Sgt) (l:List Int):List Sgt:=l.filterMap fun i=>ss[i.toNat]?
theorem Zc5 {ss:List Sgt} {l:List Int} {s:Sgt} (h:s∈Z4X ss l):s∈ss:=by
 obtain ⟨i,_,h2⟩:=List.mem_filterMap.1 h
 exact List.mem_of_getElem? h2
structure Cla (h:Hse) (x:List Int):Prop where
 lt:∀ i∈x,0≤i∧i<h.sights.length
 srt:x.Pairwise (· < ·)
 no:h.agr (Z4X h.sights x)=false
 less:∀ k<x.length,h.agr (Z4X h.sights (x.eraseIdx k))=true
theorem Cla.two {h:Hse} (hk:h.ok) {x:List Int} (hc:Cla h x):(∃ s∈Z4X h.sights x,s.seen=true)∧∃ s∈Z4X h.sights x,s.seen=false:=by
 have hs:SOk h (Z4X h.sights x):=fun s h1=>hk.sights s (Zc5 h1)
 constructor
 · apply Classical.byContradiction
   intro hn
   have:=Zfv hk hs fun s h1=>by
     cases hb:s.seen with
     | false=>rfl
     | true=>exact absurd ⟨s,h1,hb⟩ hn
   rw [hc.no] at this;cases this
 · apply Classical.byContradiction
   intro hn
   have:=Zdy hk hs fun s h1=>by
     cases hb:s.seen with
     | true=>rfl
     | false=>exact absurd ⟨s,h1,hb⟩ hn
   rw [hc.no] at this;cases this
theorem Cla.len {h:Hse} (hk:h.ok) {x:List Int} (hc:Cla h x):2≤x.length:=by
 obtain ⟨⟨s,h1,h2⟩,t,h3,h4⟩:=hc.two hk
 have hle:(Z4X h.sights x).length≤x.length:=List.length_filterMap_le _ _
 rcases Nat.lt_or_ge (Z4X h.sights x).length 2 with h5 | h5
 · match hp:Z4X h.sights x,h5 with
   | [],_=>rw [hp] at h1;simp at h1
   | [a],_ =>
     rw [hp] at h1 h3
     rw [List.mem_singleton] at h1 h3
     rw [h1] at h2;rw [h3] at h4;rw [h2] at h4;cases h4
 · omega
theorem Z3G {h:Hse} (hk:h.ok) {ss:List Sgt} (hl:ss.length≤8) (hs:SOk h ss):Hse.ok { h with sights:=ss }:=⟨hk.bins,hk.gl,hl,hk.gaps,hs⟩
structure Tru (h:Hse) (l:List Int) (ss:List Sgt):Prop where
 ok:SOk h ss
 ex:expl h.gaps (msk l) ss=true
theorem Tru.snoc {h:Hse} {l:List Int} {ss:List Sgt} (ht:Tru h l ss) {s:Sgt} (hs:(0≤s.week∧s.week≤9)∧0≤s.bin∧s.bin<h.bins) (he:exS h.gaps (msk l) s=true):Tru h l (ss++[s]):=by
 refine ⟨fun x hx=>?_,?_⟩
 · rcases List.mem_append.1 hx with h1 | h1
   · exact ht.ok x h1
   · rw [List.mem_singleton.1 h1];exact hs
 · unfold expl
   rw [List.all_append]
   have:=ht.ex
   unfold expl at this
   rw [this,List.all_cons,he];rfl
theorem Tru.agr {h:Hse} {l:List Int} {ss:List Sgt} (hk:h.ok) (hl:∀ x∈l,0≤x∧x<h.bins) (ht:Tru h l ss):h.agr ss=true:=(Z4u hk ht.ok).2 ⟨msk l,Z2n (fun x hx=>by have:=hl x hx;have:=hk.bins;omega),ht.ex⟩
theorem Zeg {h:Hse} (hk:h.ok) {l:List Int} (hl:∀ x∈l,0≤x∧x<h.bins) {s:Sgt} (hw:0≤s.week∧s.week≤9) (he:s.seen=decide (fol h.gaps (fun _=>0) (msk l) 20 s.bin.toNat≤s.week)):exS h.gaps (msk l) s=true:=by
 have hm:msk l<2 ^ 7:=Z2n fun x hx=>by have:=hl x hx;have:=hk.bins;omega
 unfold exS
 rw [he,Z7x hk.wth hm,beq_iff_eq]
 refine decide_eq_decide.2 ?_
 have h3:=Z5i h.gaps 0 (msk l) s.bin.toNat
 by_cases h1:far≤wk h.gaps 0 (msk l) s.bin.toNat
 · rw [decide_eq_true h1,cond_true];unfold far at *;omega
 · rw [decide_eq_false h1,cond_false]
theorem Pl.idle {gs:List Gp} {K m c n:Nat} (h:Pl gs K 0 m c n):n=0:=by
 have key:∀ {sp m c n:Nat},Pl gs K sp m c n→sp=0→n=0:=by
   intro sp m c n h
   induction h with
   | stay hl hc hs he hk=>intro e;omega
   | go hl hc hs hne hk _ ih=>intro e;have:=ih e;omega
 exact key h rfl
def Spd (gs:List Gp) (S K s:Nat):Prop:=(∃ n,Pl gs K s S 0 n)∧∀ s',s'<s→∀ n,¬ Pl gs K s' S 0 n
theorem Spd.cut {gs:List Gp} {S K s m:Nat} (hw:Wth gs 7) (hS:S<2 ^ 7) (h:Spd gs S K s) (hc:Cut gs S K m):s≤m∧(s=0↔m=0):=by
 have h1:s≤m:=Nat.le_of_not_lt fun hlt=>h.2 m hlt m (hc.plan hw hS (Nat.le_refl _)).1
 refine ⟨h1,fun e=>?_,fun e=>by omega⟩
 subst e
 obtain ⟨n,hn⟩:=h.1
 have h2:=hn.idle
 have h3:=hn.cut hc
 omega
theorem ZbS {n:Int} {l:List Int} (h:∀ x∈l,0≤x∧x<n) (hn:l.Nodup):Z1S n l=0:=by
 unfold Z1S
 have h1:(l.all fun k=>inB k 0 (n-1))=true:=List.all_eq_true.2 fun k hk=>by have:=h k hk;simp [inB];omega
 have h2:(List.range l.length).any (Z6v l)=false:=by
   rw [List.any_eq_false]
   intro i hi hd
   have hi:=List.mem_range.1 hi
   unfold Z6v at hd
   rw [hasI_iff] at hd
   have e:na l i=l[i]:=by unfold na;rw [List.getD_eq_getElem?_getD,List.getElem?_eq_getElem hi];rfl
   rw [e] at hd
   obtain ⟨j,hj,he⟩:=List.mem_iff_getElem.1 hd
   rw [List.length_take] at hj
   rw [List.getElem_take] at he
   exact (List.pairwise_iff_getElem.1 (List.nodup_iff_pairwise_ne.1 hn)) j i (by omega) hi (by omega) he
 rw [h1,h2];rfl
open Go
theorem Z7U:Z1r Tryz.prog 130=some 2:=by kernel_rfl
theorem Z0e:Z1r Tryz.prog 62=some 3:=by kernel_rfl
theorem Zdx:Z1r Tryz.prog 74=some 3:=by kernel_rfl
theorem ZfS:cal Tryz.prog 100=true:=by kernel_rfl
theorem Z5y:cal Tryz.prog 110=true:=by kernel_rfl
theorem Zga:cal Tryz.prog 140=true:=by kernel_rfl
theorem Zgb:cal Tryz.prog 141=true:=by kernel_rfl
theorem Zgc:cal Tryz.prog 142=true:=by kernel_rfl
theorem Zgd:cal Tryz.prog 143=true:=by kernel_rfl
theorem Zge:cal Tryz.prog 144=true:=by kernel_rfl
theorem Z5z:cal Tryz.prog 147=true:=by kernel_rfl
theorem Zgp:cal Tryz.prog 171=true:=by kernel_rfl
theorem Zgq:cal Tryz.prog 172=true:=by kernel_rfl
theorem Z4D:cal Tryz.prog 28=true:=by kernel_rfl
theorem Z9F:cal Tryz.prog 53=true:=by kernel_rfl
theorem Z9H:cal Tryz.prog 62=true:=by kernel_rfl
theorem Zjq:cal Tryz.prog 64=true:=by kernel_rfl
theorem Z9I:cal Tryz.prog 94=true:=by kernel_rfl
theorem ZjE:cal Tryz.prog 95=true:=by kernel_rfl
theorem Zhl:cal Tryz.prog 96=true:=by kernel_rfl
theorem ZjF:cal Tryz.prog 97=true:=by kernel_rfl
theorem ZjG:cal Tryz.prog 98=true:=by kernel_rfl
theorem ZjH:cal Tryz.prog 99=true:=by kernel_rfl
theorem Z9M:ZF Tryz.prog 131=some 1:=by kernel_rfl
theorem Z5G:elN Tryz.prog 30=some 1:=by kernel_rfl
theorem ZkD:elN Tryz.prog 59=some 2:=by kernel_rfl
theorem ZkU:elN Tryz.prog 60=some 3:=by kernel_rfl
theorem ZhF:eqB Tryz.prog 10000 130=some (true,2):=by kernel_rfl
theorem ZhI:Tryz.prog.eqGuardType Tryz.prog.depth 130=false:=by kernel_rfl
theorem Z0E:Z00 Tryz.prog 130 0=some 0:=by kernel_rfl
theorem Z0b:Z00 Tryz.prog 130 1=some 1:=by kernel_rfl
theorem Z0r:Z00 Tryz.prog 62 0=some 0:=by kernel_rfl
theorem Z2l:Z00 Tryz.prog 62 1=some 1:=by kernel_rfl
theorem Z10:Z00 Tryz.prog 62 2=some 2:=by kernel_rfl
theorem Zab:Z00 Tryz.prog 74 0=some 0:=by kernel_rfl
theorem Zac:Z00 Tryz.prog 74 1=some 1:=by kernel_rfl
theorem Z0t:Z3a Tryz.prog 30=true:=by kernel_rfl
theorem ZbQ:Z3a Tryz.prog 59=true:=by kernel_rfl
theorem Zaj:Z3a Tryz.prog 60=true:=by kernel_rfl
theorem ZeL:ZM Tryz.prog 130=some [(0,1),(1,1)]:=by kernel_rfl
theorem Z2M:Z0j Tryz.prog 131=true:=by kernel_rfl
theorem Zka:Z0j Tryz.prog 194=true:=by kernel_rfl
theorem Zkb:Z0j Tryz.prog 196=true:=by kernel_rfl
theorem sc3:Z0j Tryz.prog 3=true:=by kernel_rfl
theorem ZaF:Z0j Tryz.prog 59=true:=by kernel_rfl
theorem Z6Z:Z0j Tryz.prog 60=true:=by kernel_rfl
theorem Z36:slE Tryz.prog 30=some (3,1):=by kernel_rfl
theorem Z6e:Zw Tryz.prog 130=some ([.int .i64 0,.int .i64 0]):=by kernel_rfl
theorem Zb6:Zw Tryz.prog 131=some ([.nilFunc]):=by kernel_rfl
abbrev irows (l:List Int):List (List Value):=l.map fun z=>[.int .i64 z]
def Z5n (g:Gp):List Value:=[.int .i64 g.a,.int .i64 g.b]
def Zy (l:List Gp):List (List Value):=l.map Z5n
def Z1s (s:Sgt):List Value:=[.int .i64 s.week,.int .i64 s.bin,.bool s.seen]
def Zs (l:List Sgt):List (List Value):=l.map Z1s
def htl (h:Hse) (sg ss:Value):List Value:=[.int .i64 h.bins,sg,ss]
def Hse.v (h:Hse) (sg ss:Value):Value:=.agg (htl h sg ss).toArray
def Hse.sg (h:Hse) (a:Option Addr) (c:Nat):Value:=.slice a h.gaps.length c
def Hse.ss (h:Hse) (a:Option Addr) (c:Nat):Value:=.slice a h.sights.length c
theorem ZhS {l:List Gp} {k:Nat} {x:Gp} (h:l[k]?=some x):(Zy l)[k]?=some (Z5n x):=by simp [Zy,h]
theorem Z05 (l:List Gp):(Zy l).length=l.length:=by simp [Zy]
theorem ZI (l:List Sgt):(Zs l).length=l.length:=by simp [Zs]
theorem Z59 (l:List Sgt):∀ r∈Zs l,r.length=3:=fun r hr=>by obtain ⟨x,_,rfl⟩:=List.mem_map.1 hr;rfl
theorem Zb (l:List Int):(Zj l).length=l.length:=by simp [Zj]
theorem Z1b {l:List Int} {k:Nat} {v:Int} (h:l[k]?=some v):(Zj l)[k]?=some (.int .i64 v):=by simp [Zj,h]
theorem na_get {l:List Int} {k:Nat} (h:k<l.length):l[k]?=some (na l k):=by
 unfold na;rw [List.getD_eq_getElem?_getD,List.getElem?_eq_getElem h];rfl
theorem na_of {l:List Int} {k:Nat} {x:Int} (h:l[k]?=some x):na l k=x:=by
 unfold na;rw [List.getD_eq_getElem?_getD,h];rfl
theorem _root_.Go.Proofs.YthijcgkicjljhaaGreat.OSl.freezeC {e sz:Nat} {rows:List (List Value)} (o:OSl e sz rows):∃ a c,o.fs = .slice a rows.length c∧rows.length≤c∧∀ {H:Z7} {R:Z5} {w:World},St (o.G++H) R w→St H (RowsA a sz rows::R) w:=by
 obtain ⟨fs,G,hl,his⟩:=o
 rcases his with ⟨rfl,rfl,rfl⟩ | ⟨b,cap,junk,rfl,rfl,_,hc,_⟩
 · exact ⟨none,0,rfl,Nat.le_refl _,fun {H R w} h=>(St.also (H:=H) (R:=R) h (f:=RowsA none sz []) (fun w' _=>fun i row hi=>by simp at hi))⟩
 · exact ⟨_,cap,rfl,hc,fun {H R w} h=>St.rows (rest:=junk) h hl⟩
theorem Zq {α:Type} {xs:List α} {p:α→Bool} {k:Nat} {x:α} (hx:xs[k]?=some x) (hn:∀ y∈xs.take k,p y=false) (h:p x=true):xs.findIdx? p=some k:=by
 induction xs generalizing k with
 | nil=>simp at hx
 | cons y ys ih =>
   cases k with
   | zero=>simp only [List.getElem?_cons_zero,Option.some.injEq] at hx;subst hx;simp [List.findIdx?_cons,h]
   | succ k =>
     have hy:=hn y (by simp)
     have:=ih (by simpa using hx) (fun z hz=>hn z (by simp [hz]))
     simp [List.findIdx?_cons,hy,this]
theorem Zl {α:Type} {xs:List α} {p:α→Bool} (hn:∀ y∈xs,p y=false):xs.findIdx? p=none:=by
 rw [List.findIdx?_eq_none_iff];exact hn
theorem ZC {α:Type} {xs:List α} {p:α→Bool} {k:Nat} {x:α} (hx:xs[k]?=some x) (hn:∀ y∈xs.take k,p y=false) (h:p x=false):∀ y∈xs.take (k+1),p y=false:=by
 intro y hy
 rw [List.take_add_one,hx] at hy
 rcases List.mem_append.1 hy with h1 | h1
 · exact hn y h1
 · simp only [Option.toList_some,List.mem_singleton] at h1;subst h1;exact h
theorem Z03 {α:Type} (xs:List α) (p:α→Bool):Value.bool (decide (0≤(match xs.findIdx? p with | some k=>(k:Int) | none => -1))) = .bool (xs.any p):=by
 congr 1
 cases h:xs.findIdx? p with
 | none =>
   have:=List.findIdx?_eq_none_iff.1 h
   have h2:xs.any p=false:=by simpa using this
   rw [h2];rfl
 | some k =>
   have h2:xs.any p=true:=by
     rw [← Bool.not_eq_false];intro h3
     have:xs.findIdx? p=none:=List.findIdx?_eq_none_iff.2 (by simpa using h3)
     rw [this] at h;cases h
   rw [h2];simp
theorem Zt {α:Type} (xs:List α) (p:α→Bool):Value.bool (!xs.any fun x=>!p x) = .bool (xs.all p):=by
 congr 1
 induction xs with
 | nil=>rfl
 | cons x xs ih=>simp [← ih]
theorem Z7Y (n lo hi:Int) (H:Z7) (R:Z5) :
    FnV Tryz.prog 62 [.int .i64 n,.int .i64 lo,.int .i64 hi] H R (.bool (inB n lo hi)):=by
 refine Z8 Tryz.func62 rfl Tryz.ntmps62 rfl ?_
 refine sqt 1 rfl (pur 1 rfl (sqt 9 rfl (pur 4 rfl ?_)))
 refine Zr 10 rfl ?_ ?_<;>intro g10
 refine pur 5 rfl (Z4 ?_)
 exact rtA rfl rfl rfl ⟨by simp_all only [Z0c,inB,Bool.true_and,Bool.false_and,cond_true,cond_false],rfl,rfl⟩ drp
 refine pur 5 rfl (Z4 ?_)
 exact rtA rfl rfl rfl ⟨by simp_all only [Z0c,inB,Bool.true_and,Bool.false_and,cond_true,cond_false],rfl,rfl⟩ drp
theorem Zbr (n m:Int) (a:Option Addr) (c:Nat) (H:Z7) (R:Z5) [hR:MemRows a 1 [[.int .i64 m]] R] :
    FnV Tryz.prog 103 [.int .i64 n,.slice a 1 c] H R (.int .i64 (min n m)):=by
 refine Z8 Tryz.func103 rfl Tryz.ntmps103 rfl ?_
 refine sqt 1 rfl (pur 1 rfl (Z0 (sqt 3 rfl (pur 1 rfl (sp rfl (PE.lenSl Z0t rfl) rfl (pur 1 rfl (Z2 ?_)))))))
 refine Zp (a:=a) (sz:=1) (rows:=[[.int .i64 m]]) (by simp) (fun b off he=>?_)
 subst he
 refine Zc (ι:={k:Nat // k≤1}) (fun k=>⟨[(0,.int .i64 (bif k.1 == 0 then n else min n m)),(7,.slice (some ⟨b,off,none⟩) 1 c),(8,.int .i64 1),(9,.int .i64 k.1)],H,R⟩) (fun k=>1-k.1) ⟨0,by omega⟩ ?_ (fun k=>?_)
 exact Zi idH
 obtain ⟨k,hk⟩:=k
 dsimp only
 refine sqt 1 rfl (pur 1 rfl (Z0 ?_))
 refine Z1 rfl ?_ ?_<;>intro hc0
 simp only [cS] at hc0
 obtain rfl:k=0:=by omega
 refine Z3 (Z0 (Z2 (sqt 3 rfl (sp rfl (PE.indexAddr Z5G rfl rfl (by omega) (by omega)) rfl (spL rfl rfl (lf0 sc3 (row:=[.int .i64 m]) rfl rfl) rfl (pur 1 rfl (sqr 4 rfl (pur 2 rfl (sp rfl (PE.min rfl rfl) rfl (pur 1 rfl (sqr 2 rfl (sp rfl (PE.add rfl rfl (by omega)) rfl (pur 1 rfl ?_)))))))))))))
 exact ZB ⟨1,by omega⟩ (by simp) idH
 try simp only [cS] at hc0
 refine Z9 (Za (Za (Zn (sqt 2 rfl (pur 2 rfl (Z4 ?_))))))
 obtain rfl:k=1:=by omega
 exact rtA rfl rfl rfl ⟨rfl,rfl,rfl⟩ drp
theorem Z1w (xs:List Int) (a:Option Addr) (c g:Nat) (fst cap:List Value) (p:Int→Bool) (hg:cal Tryz.prog g=true) (hl:xs.length≤9223372036854775807) (H:Z7) (R:Z5) [hR:MemRows a 1 (irows xs) R] (hp:∀ x,x∈xs→FnV Tryz.prog g (fst++[.int .i64 x]++cap) H R (.bool (p x))) :
    FnV Tryz.prog 147 [.slice a xs.length c,.func (.func g) fst.toArray cap.toArray] H R (.int .i64 (match xs.findIdx? p with | some k=>(k:Int) | none => -1)):=by
 refine Z8 Tryz.func147 rfl Tryz.ntmps147 rfl ?_
 refine sqt 1 rfl (pur 1 rfl (Z0 (sqt 3 rfl (pur 1 rfl (sp rfl (PE.lenSl Z0t rfl) rfl (pur 1 rfl (Z2 ?_)))))))
 refine Zc (ι:={k:Nat // k≤xs.length∧∀ x∈xs.take k,p x=false}) (fun k=>⟨[(0,.slice a xs.length c),(1,.func (.func g) fst.toArray cap.toArray),(7,.int .i64 xs.length),(8,.int .i64 k.1)],H,R⟩) (fun k=>xs.length-k.1) ⟨0,by simp⟩ ?_ (fun k=>?_)
 exact Zi idH
 obtain ⟨k,hk,hn⟩:=k
 dsimp only
 refine sqt 1 rfl (pur 1 rfl (Z0 ?_))
 refine Z1 rfl ?_ ?_<;>intro hc0
 simp only [cS] at hc0
 obtain ⟨x,hx⟩:∃ x,xs[k]?=some x:=⟨_,List.getElem?_eq_getElem (by omega)⟩
 have hxm:=List.mem_of_getElem? hx
 refine Zp (a:=a) (sz:=1) (rows:=irows xs) (by cases xs<;>simp_all [irows]) (fun b off he=>?_)
 subst he
 refine Z3 (Z0 (Z2 (sqt 2 rfl (pur 2 rfl (sqt 6 rfl (pur 3 rfl (sp rfl (PE.indexAddr Z5G rfl rfl (by omega) (by omega)) rfl (spL rfl rfl (lf0 sc3 (by simp [irows,hx];rfl) rfl) rfl ?_))))))))
 refine Z1R rfl rfl (hg) rfl rfl (hp x hxm) ?_
 refine Z1 rfl ?_ ?_<;>intro hc1
 refine sqt 2 rfl (pur 2 rfl (Z4 ?_))
 first | (exact rtA rfl rfl rfl ⟨by rw [Zq hx hn hc1];rfl,rfl,rfl⟩ idH) | (exact rtA rfl rfl rfl ⟨by rw [Zl (by simpa using hn)];rfl,rfl,rfl⟩ idH)
 refine Z3 (sqr 2 rfl (sp rfl (PE.add rfl rfl (by omega)) rfl (pur 1 rfl ?_)))
 exact Z6 ⟨k+1,by omega,ZC hx hn hc1⟩ idH
 simp only [cS] at hc0
 obtain rfl:k=xs.length:=by omega
 refine Z9 (Za (Za (Zn (sqt 1 rfl (pur 1 rfl (Z4 ?_))))))
 first | (exact rtA rfl rfl rfl ⟨by rw [Zq hx hn hc1];rfl,rfl,rfl⟩ idH) | (exact rtA rfl rfl rfl ⟨by rw [Zl (by simpa using hn)];rfl,rfl,rfl⟩ idH)
theorem Z1v (xs:List Int) (a:Option Addr) (c g:Nat) (fst cap:List Value) (p:Int→Bool) (hg:cal Tryz.prog g=true) (hl:xs.length≤9223372036854775807) (H:Z7) (R:Z5) [hR:MemRows a 1 (irows xs) R] (hp:∀ x,x∈xs→FnV Tryz.prog g (fst++[.int .i64 x]++cap) H R (.bool (p x))) :
    FnV Tryz.prog 110 [.slice a xs.length c,.func (.func g) fst.toArray cap.toArray] H R (.bool (xs.any p)):=by
 refine Z8 Tryz.func110 rfl Tryz.ntmps110 rfl ?_
 refine sqt 1 rfl (pur 1 rfl (sqt 5 rfl (pur 2 rfl ?_)))
 refine clV rfl Z5z rfl rfl (Z1w xs a c g fst cap p hg hl _ _ hp) ?_
 refine pur 2 rfl (Z4 ?_)
 exact rtA rfl rfl rfl ⟨by simp only [Z0c];exact Z03 _ _,rfl,rfl⟩ drp
theorem Z1u (x:Int) (g bf:Nat) (fst cap:List Value) (p:Bool) (hg:cal Tryz.prog g=true) (H:Z7) (R:Z5) [hM:Mem1 bf (cel 131 [.func (.func g) fst.toArray cap.toArray]) H] (hp:FnV Tryz.prog g (fst++[.int .i64 x]++cap) H R (.bool p)) :
    FnV Tryz.prog 144 [.int .i64 x,.pointer (some ⟨bf,0,none⟩)] H R (.bool !p):=by
 refine Z8 Tryz.func144 rfl Tryz.ntmps144 rfl ?_
 refine sqt 1 rfl (pur 1 rfl (sqt 5 rfl (spL rfl rfl (lh Z2M rfl rfl) rfl (pur 1 rfl ?_))))
 refine Z1R rfl rfl (hg) rfl rfl (hp) ?_
 refine pur 2 rfl (Z4 ?_)
 exact rtA rfl rfl rfl ⟨rfl,rfl,rfl⟩ drp
theorem Z0a (xs:List Int) (a:Option Addr) (c g:Nat) (fst cap:List Value) (p:Int→Bool) (hg:cal Tryz.prog g=true) (hl:xs.length≤9223372036854775807) (H:Z7) (R:Z5) [hR:MemRows a 1 (irows xs) R] (hp:∀ b x,x∈xs→FnV Tryz.prog g (fst++[.int .i64 x]++cap) ((b,cel 131 [.func (.func g) fst.toArray cap.toArray])::H) R (.bool (p x))) :
    FnV Tryz.prog 100 [.slice a xs.length c,.func (.func g) fst.toArray cap.toArray] H R (.bool (xs.all p)):=by
 refine Z8 Tryz.func100 rfl Tryz.ntmps100 rfl ?_
 refine sqt 2 rfl (bx rfl rfl rfl (fun b3=>pur 1 rfl (sqt 5 rfl (pur 1 rfl (sp rfl (PE.makeFunc rfl rfl) rfl ?_)))))
 refine clV rfl Z5y rfl rfl (Z1v xs a c 144 [] [_] (fun x=>!p x) Zge hl _ _ (hp:=fun x hx=>Z1u x g _ fst cap (p x) hg _ _ (hp:=hp _ x hx))) ?_
 refine pur 2 rfl (Z4 ?_)
 exact rtA rfl rfl rfl ⟨by simp only [Z0c];rw [Zt],rfl,rfl⟩ drp
theorem Z9j (xs:List Gp) (a:Option Addr) (c g:Nat) (fst cap:List Value) (p:Gp→Bool) (hg:cal Tryz.prog g=true) (hl:xs.length≤9223372036854775807) (H:Z7) (R:Z5) [hR:MemRows a 2 (Zy xs) R] (hp:∀ x,x∈xs→FnV Tryz.prog g (fst++[.agg (Z5n x).toArray]++cap) H R (.bool (p x))) :
    FnV Tryz.prog 172 [.slice a xs.length c,.func (.func g) fst.toArray cap.toArray] H R (.int .i64 (match xs.findIdx? p with | some k=>(k:Int) | none => -1)):=by
 refine Z8 Tryz.func172 rfl Tryz.ntmps172 rfl ?_
 refine sqt 1 rfl (pur 1 rfl (Z0 (sqt 3 rfl (pur 1 rfl (sp rfl (PE.lenSl ZbQ rfl) rfl (pur 1 rfl (Z2 ?_)))))))
 refine Zc (ι:={k:Nat // k≤xs.length∧∀ x∈xs.take k,p x=false}) (fun k=>⟨[(0,.slice a xs.length c),(1,.func (.func g) fst.toArray cap.toArray),(7,.int .i64 xs.length),(8,.int .i64 k.1)],H,R⟩) (fun k=>xs.length-k.1) ⟨0,by simp⟩ ?_ (fun k=>?_)
 exact Zi idH
 obtain ⟨k,hk,hn⟩:=k
 dsimp only
 refine sqt 1 rfl (pur 1 rfl (Z0 ?_))
 refine Z1 rfl ?_ ?_<;>intro hc0
 simp only [cS] at hc0
 obtain ⟨x,hx⟩:∃ x,xs[k]?=some x:=⟨_,List.getElem?_eq_getElem (by omega)⟩
 have hxm:=List.mem_of_getElem? hx
 refine Zp (a:=a) (sz:=2) (rows:=Zy xs) (by cases xs<;>simp_all [Zy]) (fun b off he=>?_)
 subst he
 refine Z3 (Z0 (Z2 (sqt 2 rfl (pur 2 rfl (sqt 6 rfl (pur 3 rfl (sp rfl (PE.indexAddr ZkD rfl rfl (by omega) (by omega)) rfl (spL rfl rfl (lfA Z7U (row:=Z5n x) (by simp [Zy,hx]) rfl) rfl ?_))))))))
 refine Z1R rfl rfl (hg) rfl rfl (hp x hxm) ?_
 refine Z1 rfl ?_ ?_<;>intro hc1
 refine sqt 2 rfl (pur 2 rfl (Z4 ?_))
 first | (exact rtA rfl rfl rfl ⟨by rw [Zq hx hn hc1];rfl,rfl,rfl⟩ idH) | (exact rtA rfl rfl rfl ⟨by rw [Zl (by simpa using hn)];rfl,rfl,rfl⟩ idH)
 refine Z3 (sqr 2 rfl (sp rfl (PE.add rfl rfl (by omega)) rfl (pur 1 rfl ?_)))
 exact Z6 ⟨k+1,by omega,ZC hx hn hc1⟩ idH
 simp only [cS] at hc0
 obtain rfl:k=xs.length:=by omega
 refine Z9 (Za (Za (Zn (sqt 1 rfl (pur 1 rfl (Z4 ?_))))))
 first | (exact rtA rfl rfl rfl ⟨by rw [Zq hx hn hc1];rfl,rfl,rfl⟩ idH) | (exact rtA rfl rfl rfl ⟨by rw [Zl (by simpa using hn)];rfl,rfl,rfl⟩ idH)
theorem Z9a (xs:List Gp) (a:Option Addr) (c g:Nat) (fst cap:List Value) (p:Gp→Bool) (hg:cal Tryz.prog g=true) (hl:xs.length≤9223372036854775807) (H:Z7) (R:Z5) [hR:MemRows a 2 (Zy xs) R] (hp:∀ x,x∈xs→FnV Tryz.prog g (fst++[.agg (Z5n x).toArray]++cap) H R (.bool (p x))) :
    FnV Tryz.prog 142 [.slice a xs.length c,.func (.func g) fst.toArray cap.toArray] H R (.bool (xs.any p)):=by
 refine Z8 Tryz.func142 rfl Tryz.ntmps142 rfl ?_
 refine sqt 1 rfl (pur 1 rfl (sqt 5 rfl (pur 2 rfl ?_)))
 refine clV rfl Zgq rfl rfl (Z9j xs a c g fst cap p hg hl _ _ hp) ?_
 refine pur 2 rfl (Z4 ?_)
 exact rtA rfl rfl rfl ⟨by simp only [Z0c];exact Z03 _ _,rfl,rfl⟩ drp
theorem Z8Y (x:Gp) (g bf:Nat) (fst cap:List Value) (p:Bool) (hg:cal Tryz.prog g=true) (H:Z7) (R:Z5) [hM:Mem1 bf (cel 196 [.func (.func g) fst.toArray cap.toArray]) H] (hp:∀ b,FnV Tryz.prog g (fst++[.agg (Z5n x).toArray]++cap) ((b,cel 130 (Z5n x))::H) R (.bool p)) :
    FnV Tryz.prog 143 [.agg (Z5n x).toArray,.pointer (some ⟨bf,0,none⟩)] H R (.bool !p):=by
 refine Z8 Tryz.func143 rfl Tryz.ntmps143 rfl ?_
 refine sqt 2 rfl (bx rfl rfl rfl (fun b2=>pur 1 rfl (sqt 5 rfl (spL rfl rfl (lh Zkb rfl rfl) rfl (spL rfl rfl (lhA [_,_] Z7U rfl rfl rfl) rfl ?_)))))
 refine Z1R rfl rfl (hg) rfl rfl (hp _) ?_
 refine pur 2 rfl (Z4 ?_)
 exact rtA rfl rfl rfl ⟨rfl,rfl,rfl⟩ drp
theorem Z3p (xs:List Gp) (a:Option Addr) (c g:Nat) (fst cap:List Value) (p:Gp→Bool) (hg:cal Tryz.prog g=true) (hl:xs.length≤9223372036854775807) (H:Z7) (R:Z5) [hR:MemRows a 2 (Zy xs) R] (hp:∀ b b2 x,x∈xs→FnV Tryz.prog g (fst++[.agg (Z5n x).toArray]++cap) ((b2,cel 130 (Z5n x))::(b,cel 196 [.func (.func g) fst.toArray cap.toArray])::H) R (.bool (p x))) :
    FnV Tryz.prog 96 [.slice a xs.length c,.func (.func g) fst.toArray cap.toArray] H R (.bool (xs.all p)):=by
 refine Z8 Tryz.func96 rfl Tryz.ntmps96 rfl ?_
 refine sqt 2 rfl (bx rfl rfl rfl (fun b3=>pur 1 rfl (sqt 5 rfl (pur 1 rfl (sp rfl (PE.makeFunc rfl rfl) rfl ?_)))))
 refine clV rfl Zgc rfl rfl (Z9a xs a c 143 [] [_] (fun x=>!p x) Zgd hl _ _ (hp:=fun x hx=>Z8Y x g _ fst cap (p x) hg _ _ (hp:=fun b=>hp _ _ x hx))) ?_
 refine pur 2 rfl (Z4 ?_)
 exact rtA rfl rfl rfl ⟨by simp only [Z0c];rw [Zt],rfl,rfl⟩ drp
theorem Z9m (xs:List Sgt) (a:Option Addr) (c g:Nat) (fst cap:List Value) (p:Sgt→Bool) (hg:cal Tryz.prog g=true) (hl:xs.length≤9223372036854775807) (H:Z7) (R:Z5) [hR:MemRows a 3 (Zs xs) R] (hp:∀ x,x∈xs→FnV Tryz.prog g (fst++[.agg (Z1s x).toArray]++cap) H R (.bool (p x))) :
    FnV Tryz.prog 171 [.slice a xs.length c,.func (.func g) fst.toArray cap.toArray] H R (.int .i64 (match xs.findIdx? p with | some k=>(k:Int) | none => -1)):=by
 refine Z8 Tryz.func171 rfl Tryz.ntmps171 rfl ?_
 refine sqt 1 rfl (pur 1 rfl (Z0 (sqt 3 rfl (pur 1 rfl (sp rfl (PE.lenSl Zaj rfl) rfl (pur 1 rfl (Z2 ?_)))))))
 refine Zc (ι:={k:Nat // k≤xs.length∧∀ x∈xs.take k,p x=false}) (fun k=>⟨[(0,.slice a xs.length c),(1,.func (.func g) fst.toArray cap.toArray),(7,.int .i64 xs.length),(8,.int .i64 k.1)],H,R⟩) (fun k=>xs.length-k.1) ⟨0,by simp⟩ ?_ (fun k=>?_)
 exact Zi idH
 obtain ⟨k,hk,hn⟩:=k
 dsimp only
 refine sqt 1 rfl (pur 1 rfl (Z0 ?_))
 refine Z1 rfl ?_ ?_<;>intro hc0
 simp only [cS] at hc0
 obtain ⟨x,hx⟩:∃ x,xs[k]?=some x:=⟨_,List.getElem?_eq_getElem (by omega)⟩
 have hxm:=List.mem_of_getElem? hx
 refine Zp (a:=a) (sz:=3) (rows:=Zs xs) (by cases xs<;>simp_all [Zs]) (fun b off he=>?_)
 subst he
 refine Z3 (Z0 (Z2 (sqt 2 rfl (pur 2 rfl (sqt 6 rfl (pur 3 rfl (sp rfl (PE.indexAddr ZkU rfl rfl (by omega) (by omega)) rfl (spL rfl rfl (lfA Zdx (row:=Z1s x) (by simp [Zs,hx]) rfl) rfl ?_))))))))
 refine Z1R rfl rfl (hg) rfl rfl (hp x hxm) ?_
 refine Z1 rfl ?_ ?_<;>intro hc1
 refine sqt 2 rfl (pur 2 rfl (Z4 ?_))
 first | (exact rtA rfl rfl rfl ⟨by rw [Zq hx hn hc1];rfl,rfl,rfl⟩ idH) | (exact rtA rfl rfl rfl ⟨by rw [Zl (by simpa using hn)];rfl,rfl,rfl⟩ idH)
 refine Z3 (sqr 2 rfl (sp rfl (PE.add rfl rfl (by omega)) rfl (pur 1 rfl ?_)))
 exact Z6 ⟨k+1,by omega,ZC hx hn hc1⟩ idH
 simp only [cS] at hc0
 obtain rfl:k=xs.length:=by omega
 refine Z9 (Za (Za (Zn (sqt 1 rfl (pur 1 rfl (Z4 ?_))))))
 first | (exact rtA rfl rfl rfl ⟨by rw [Zq hx hn hc1];rfl,rfl,rfl⟩ idH) | (exact rtA rfl rfl rfl ⟨by rw [Zl (by simpa using hn)];rfl,rfl,rfl⟩ idH)
theorem Z9d (xs:List Sgt) (a:Option Addr) (c g:Nat) (fst cap:List Value) (p:Sgt→Bool) (hg:cal Tryz.prog g=true) (hl:xs.length≤9223372036854775807) (H:Z7) (R:Z5) [hR:MemRows a 3 (Zs xs) R] (hp:∀ x,x∈xs→FnV Tryz.prog g (fst++[.agg (Z1s x).toArray]++cap) H R (.bool (p x))) :
    FnV Tryz.prog 140 [.slice a xs.length c,.func (.func g) fst.toArray cap.toArray] H R (.bool (xs.any p)):=by
 refine Z8 Tryz.func140 rfl Tryz.ntmps140 rfl ?_
 refine sqt 1 rfl (pur 1 rfl (sqt 5 rfl (pur 2 rfl ?_)))
 refine clV rfl Zgp rfl rfl (Z9m xs a c g fst cap p hg hl _ _ hp) ?_
 refine pur 2 rfl (Z4 ?_)
 exact rtA rfl rfl rfl ⟨by simp only [Z0c];exact Z03 _ _,rfl,rfl⟩ drp
theorem Z91 (x:Sgt) (g bf:Nat) (fst cap:List Value) (p:Bool) (hg:cal Tryz.prog g=true) (H:Z7) (R:Z5) [hM:Mem1 bf (cel 194 [.func (.func g) fst.toArray cap.toArray]) H] (hp:∀ b,FnV Tryz.prog g (fst++[.agg (Z1s x).toArray]++cap) ((b,cel 74 (Z1s x))::H) R (.bool p)) :
    FnV Tryz.prog 141 [.agg (Z1s x).toArray,.pointer (some ⟨bf,0,none⟩)] H R (.bool !p):=by
 refine Z8 Tryz.func141 rfl Tryz.ntmps141 rfl ?_
 refine sqt 2 rfl (bx rfl rfl rfl (fun b2=>pur 1 rfl (sqt 5 rfl (spL rfl rfl (lh Zka rfl rfl) rfl (spL rfl rfl (lhA [_,_,_] Zdx rfl rfl rfl) rfl ?_)))))
 refine Z1R rfl rfl (hg) rfl rfl (hp _) ?_
 refine pur 2 rfl (Z4 ?_)
 exact rtA rfl rfl rfl ⟨rfl,rfl,rfl⟩ drp
theorem Z0D (xs:List Sgt) (a:Option Addr) (c g:Nat) (fst cap:List Value) (p:Sgt→Bool) (hg:cal Tryz.prog g=true) (hl:xs.length≤9223372036854775807) (H:Z7) (R:Z5) [hR:MemRows a 3 (Zs xs) R] (hp:∀ b b2 x,x∈xs→FnV Tryz.prog g (fst++[.agg (Z1s x).toArray]++cap) ((b2,cel 74 (Z1s x))::(b,cel 194 [.func (.func g) fst.toArray cap.toArray])::H) R (.bool (p x))) :
    FnV Tryz.prog 94 [.slice a xs.length c,.func (.func g) fst.toArray cap.toArray] H R (.bool (xs.all p)):=by
 refine Z8 Tryz.func94 rfl Tryz.ntmps94 rfl ?_
 refine sqt 2 rfl (bx rfl rfl rfl (fun b3=>pur 1 rfl (sqt 5 rfl (pur 1 rfl (sp rfl (PE.makeFunc rfl rfl) rfl ?_)))))
 refine clV rfl Zga rfl rfl (Z9d xs a c 141 [] [_] (fun x=>!p x) Zgb hl _ _ (hp:=fun x hx=>Z91 x g _ fst cap (p x) hg _ _ (hp:=fun b=>hp _ _ x hx))) ?_
 refine pur 2 rfl (Z4 ?_)
 exact rtA rfl rfl rfl ⟨by simp only [Z0c];rw [Zt],rfl,rfl⟩ drp
theorem Z8Q (h:Hse) (hb:1≤h.bins∧h.bins≤7) (sg ss:Value) (n:Int) (H:Z7) (R:Z5) :
    FnV Tryz.prog 53 [h.v sg ss,.int .i64 n] H R (.bool (inB n 0 (h.bins-1))):=by
 refine Z8 Tryz.func53 rfl Tryz.ntmps53 rfl ?_
 refine sqt 2 rfl (bx rfl rfl rfl (fun b2=>pur 1 rfl (sqt 6 rfl (pur 1 rfl (sp rfl (PE.fA Z0r rfl) rfl (spL rfl rfl (lh sc3 rfl rfl) rfl (sp rfl (PE.sub rfl rfl (by omega)) rfl ?_)))))))
 refine clV rfl Z9H rfl rfl (Z7Y _ _ _ _ _) ?_
 refine pur 1 rfl (Z4 ?_)
 exact rtA rfl rfl rfl ⟨rfl,rfl,rfl⟩ drp
theorem Z5t (x:Sgt) (H:Z7) (R:Z5) :
    FnV Tryz.prog 95 [.agg (Z1s x).toArray] H R (.bool (inB x.week 0 9)):=by
 refine Z8 Tryz.func95 rfl Tryz.ntmps95 rfl ?_
 refine sqt 2 rfl (bx rfl rfl rfl (fun b1=>pur 1 rfl (sqt 4 rfl (sp rfl (PE.fA Zab rfl) rfl (spL rfl rfl (lh sc3 rfl rfl) rfl ?_)))))
 refine clV rfl Z9H rfl rfl (Z7Y _ _ _ _ _) ?_
 refine pur 1 rfl (Z4 ?_)
 exact rtA rfl rfl rfl ⟨rfl,rfl,rfl⟩ drp
theorem Z5u (h:Hse) (hb:1≤h.bins∧h.bins≤7) (sg ss:Value) (bf:Nat) (x:Gp) (H:Z7) (R:Z5) [hM:Mem1 bf (cel 131 [.func (.func 53) #[h.v sg ss] #[]]) H] :
    FnV Tryz.prog 97 [.agg (Z5n x).toArray,.pointer (some ⟨bf,0,none⟩)] H R (.bool (inB x.a 0 (h.bins-1)&&inB x.b 0 (h.bins-1))):=by
 refine Z8 Tryz.func97 rfl Tryz.ntmps97 rfl ?_
 refine sqt 2 rfl (bx rfl rfl rfl (fun b2=>pur 1 rfl (sqt 11 rfl (spL rfl rfl (lh Z2M rfl rfl) rfl (sp rfl (PE.fA Z0E rfl) rfl (spL rfl rfl (lh sc3 rfl rfl) rfl ?_))))))
 refine Z1R rfl rfl (Z9F) rfl rfl (Z8Q h hb sg ss _ _ _) ?_
 refine pur 1 rfl ?_
 refine Zr 8 rfl ?_ ?_<;>intro g8
 refine Z0L rfl rfl rfl rfl rfl (lh Z2M rfl rfl) rfl ?_
 refine spG rfl rfl rfl rfl (PE.fA Z0b rfl) rfl ?_
 refine Z0L rfl rfl rfl rfl rfl (lh sc3 rfl rfl) rfl ?_
 refine Zho rfl rfl rfl rfl rfl (Z9F) rfl rfl (Z8Q h hb sg ss _ _ _) ?_
 refine pur 2 rfl (Z4 ?_)
 exact rtA rfl rfl rfl ⟨by simp_all only [Z0c,Bool.true_and,Bool.false_and,cond_true,cond_false],rfl,rfl⟩ drp
 refine pur 6 rfl (Z4 ?_)
 exact rtA rfl rfl rfl ⟨by simp_all only [Z0c,Bool.true_and,Bool.false_and,cond_true,cond_false],rfl,rfl⟩ drp
theorem Z8S (h:Hse) (hb:1≤h.bins∧h.bins≤7) (sg ss:Value) (bf:Nat) (x:Sgt) (H:Z7) (R:Z5) [hM:Mem1 bf (cel 131 [.func (.func 53) #[h.v sg ss] #[]]) H] :
    FnV Tryz.prog 98 [.agg (Z1s x).toArray,.pointer (some ⟨bf,0,none⟩)] H R (.bool (inB x.bin 0 (h.bins-1))):=by
 refine Z8 Tryz.func98 rfl Tryz.ntmps98 rfl ?_
 refine sqt 2 rfl (bx rfl rfl rfl (fun b2=>pur 1 rfl (sqt 5 rfl (spL rfl rfl (lh Z2M rfl rfl) rfl (sp rfl (PE.fA Zac rfl) rfl (spL rfl rfl (lh sc3 rfl rfl) rfl ?_))))))
 refine Z1R rfl rfl (Z9F) rfl rfl (Z8Q h hb sg ss _ _ _) ?_
 refine pur 1 rfl (Z4 ?_)
 exact rtA rfl rfl rfl ⟨rfl,rfl,rfl⟩ drp
theorem Z8T (x:Gp) (H:Z7) (R:Z5) :
    FnV Tryz.prog 99 [.agg (Z5n x).toArray] H R (.bool (!decide (x=⟨x.b,x.a⟩))):=by
 refine Z8 Tryz.func99 rfl Tryz.ntmps99 rfl ?_
 refine sqt 2 rfl (bx rfl rfl rfl (fun b1=>pur 1 rfl (sqt 8 rfl (spL rfl rfl (lhA (Z5n x) Z7U rfl rfl rfl) rfl (sp rfl (PE.fA Z0b rfl) rfl (spL rfl rfl (lh sc3 rfl rfl) rfl (sp rfl (PE.fA Z0E rfl) rfl (spL rfl rfl (lh sc3 rfl rfl) rfl (sp rfl (PE.build (out:=[_,_]) ZeL Z6e rfl rfl) rfl (sp rfl (PE.neqAgg [x.a,x.b] [x.b,x.a] (Z1o 10000 130 true 2 ZhF) ZhI rfl rfl rfl rfl) rfl (pur 1 rfl (Z4 ?_))))))))))))
 exact rtA rfl rfl rfl ⟨by simp only [Z0c];cases x;simp [Gp.mk.injEq],rfl,rfl⟩ drp
theorem ZG (h:Hse) (ag as_:Option Addr) (cg cs:Nat) (hlg:h.gaps.length≤9223372036854775807) (hls:h.sights.length≤9223372036854775807) (H:Z7) (R:Z5) [hG:MemRows ag 2 (Zy h.gaps) R] [hS:MemRows as_ 3 (Zs h.sights) R] :
    FnV Tryz.prog 51 [h.v (h.sg ag cg) (h.ss as_ cs)] H R (.int .i64 h.check):=by
 refine Z8 Tryz.func51 rfl Tryz.ntmps51 rfl ?_
 refine sqt 2 rfl (bx rfl rfl rfl (fun b1=>pur 1 rfl (sqt 4 rfl (spL rfl rfl (lhA (htl h (h.sg ag cg) (h.ss as_ cs)) Z0e rfl rfl rfl) rfl (sp rfl (PE.makeFunc rfl rfl) rfl (alc rfl Zb6 rfl (fun b3=>?_)))))))
 refine sto rfl rfl rfl Z9M rfl rfl rfl rfl ?_
 refine Z0 (Z2 (sqt 17 rfl (sp rfl (PE.fA Z0r rfl) rfl (spL rfl rfl (lh sc3 rfl rfl) rfl ?_))))
 refine clV rfl Z9H rfl rfl (Z7Y _ _ _ _ _) ?_
 refine pur 2 rfl ?_
 refine Zr 11 rfl ?_ ?_<;>intro g11
 refine pur 12 rfl ?_
 refine Z08 rfl ?_
 refine sqt 1 rfl (pur 1 rfl (Z4 ?_))
 exact rtA rfl rfl rfl ⟨congrArg (Value.int .i64) (by have e10:decide ((10:Int)<(h.gaps.length:Int))=decide (10<h.gaps.length):=decide_eq_decide.2 (by omega);have e8:decide ((8:Int)<(h.sights.length:Int))=decide (8<h.sights.length):=decide_eq_decide.2 (by omega);simp_all only [Z0c,Hse.check,cond_true,cond_false,Bool.not_true,Bool.not_false,Bool.not_eq_true',Bool.not_eq_false',Bool.true_or,Bool.or_true,Bool.false_or,Bool.or_false]),rfl,rfl⟩ (fun w h=>by first | exact (h.del b3).del b1 | exact h.del b1)
 refine spG rfl rfl rfl rfl (PE.fA Z2l rfl) rfl ?_
 refine Z0L rfl rfl rfl rfl rfl (lh ZaF rfl rfl) rfl ?_
 refine spG rfl rfl rfl rfl (PE.lenSl ZbQ rfl) rfl ?_
 refine pur 3 rfl ?_
 refine Zr 17 rfl ?_ ?_<;>intro g17
 refine pur 6 rfl ?_
 refine Z08 rfl ?_
 refine sqt 1 rfl (pur 1 rfl (Z4 ?_))
 exact rtA rfl rfl rfl ⟨congrArg (Value.int .i64) (by have e10:decide ((10:Int)<(h.gaps.length:Int))=decide (10<h.gaps.length):=decide_eq_decide.2 (by omega);have e8:decide ((8:Int)<(h.sights.length:Int))=decide (8<h.sights.length):=decide_eq_decide.2 (by omega);simp_all only [Z0c,Hse.check,cond_true,cond_false,Bool.not_true,Bool.not_false,Bool.not_eq_true',Bool.not_eq_false',Bool.true_or,Bool.or_true,Bool.false_or,Bool.or_false]),rfl,rfl⟩ (fun w h=>by first | exact (h.del b3).del b1 | exact h.del b1)
 refine spG rfl rfl rfl rfl (PE.fA Z10 rfl) rfl ?_
 refine Z0L rfl rfl rfl rfl rfl (lh Z6Z rfl rfl) rfl ?_
 refine spG rfl rfl rfl rfl (PE.lenSl Zaj rfl) rfl ?_
 refine pur 3 rfl ?_
 refine Z1 rfl ?_ ?_<;>intro hc0
 refine sqt 1 rfl (pur 1 rfl (Z4 ?_))
 exact rtA rfl rfl rfl ⟨congrArg (Value.int .i64) (by have e10:decide ((10:Int)<(h.gaps.length:Int))=decide (10<h.gaps.length):=decide_eq_decide.2 (by omega);have e8:decide ((8:Int)<(h.sights.length:Int))=decide (8<h.sights.length):=decide_eq_decide.2 (by omega);simp_all only [Z0c,Hse.check,cond_true,cond_false,Bool.not_true,Bool.not_false,Bool.not_eq_true',Bool.not_eq_false',Bool.true_or,Bool.or_true,Bool.false_or,Bool.or_false]),rfl,rfl⟩ (fun w h=>by first | exact (h.del b3).del b1 | exact h.del b1)
 refine sqt 5 rfl (sp rfl (PE.fA Z10 rfl) rfl (spL rfl rfl (lh Z6Z rfl rfl) rfl ?_))
 refine clV rfl Z9I rfl rfl (Z0D h.sights as_ cs 95 [] [] (fun s=>inB s.week 0 9) ZjE hls _ _ (fun _ _ x _=>Z5t x _ _)) ?_
 refine pur 2 rfl ?_
 refine Z1 rfl ?_ ?_<;>intro hc1
 refine sqt 1 rfl (pur 1 rfl (Z4 ?_))
 exact rtA rfl rfl rfl ⟨congrArg (Value.int .i64) (by have e10:decide ((10:Int)<(h.gaps.length:Int))=decide (10<h.gaps.length):=decide_eq_decide.2 (by omega);have e8:decide ((8:Int)<(h.sights.length:Int))=decide (8<h.sights.length):=decide_eq_decide.2 (by omega);simp_all only [Z0c,Hse.check,cond_true,cond_false,Bool.not_true,Bool.not_false,Bool.not_eq_true',Bool.not_eq_false',Bool.true_or,Bool.or_true,Bool.false_or,Bool.or_false]),rfl,rfl⟩ (fun w h=>by first | exact (h.del b3).del b1 | exact h.del b1)
 refine sqt 13 rfl ?_
 have hb7:1≤h.bins∧h.bins≤7:=by
   have h9:inB h.bins 1 7=true:=by simp_all
   simp only [inB,Bool.and_eq_true,decide_eq_true_eq] at h9;exact h9
 refine sp rfl (PE.fA Z2l rfl) rfl (spL rfl rfl (lh ZaF rfl rfl) rfl (sp rfl (PE.makeFunc rfl rfl) rfl ?_))
 refine clV rfl Zhl rfl rfl (Z3p h.gaps ag cg 97 [] [_] (fun g=>inB g.a 0 (h.bins-1)&&inB g.b 0 (h.bins-1)) ZjF hlg _ _ (fun _ _ x _=>Z5u h hb7 (h.sg ag cg) (h.ss as_ cs) b3 x _ _)) ?_
 refine pur 2 rfl ?_
 refine Zr 34 rfl ?_ ?_<;>intro g34
 refine pur 7 rfl ?_
 refine Z08 rfl ?_
 refine sqt 1 rfl (pur 1 rfl (Z4 ?_))
 exact rtA rfl rfl rfl ⟨congrArg (Value.int .i64) (by have e10:decide ((10:Int)<(h.gaps.length:Int))=decide (10<h.gaps.length):=decide_eq_decide.2 (by omega);have e8:decide ((8:Int)<(h.sights.length:Int))=decide (8<h.sights.length):=decide_eq_decide.2 (by omega);simp_all only [Z0c,Hse.check,cond_true,cond_false,Bool.not_true,Bool.not_false,Bool.not_eq_true',Bool.not_eq_false',Bool.true_or,Bool.or_true,Bool.false_or,Bool.or_false]),rfl,rfl⟩ (fun w h=>by first | exact (h.del b3).del b1 | exact h.del b1)
 refine spG rfl rfl rfl rfl (PE.fA Z10 rfl) rfl ?_
 refine Z0L rfl rfl rfl rfl rfl (lh Z6Z rfl rfl) rfl ?_
 refine spG rfl rfl rfl rfl (PE.makeFunc rfl rfl) rfl ?_
 refine Z4F rfl rfl rfl rfl Z9I rfl rfl (Z0D h.sights as_ cs 98 [] [_] (fun s=>inB s.bin 0 (h.bins-1)) ZjG hls _ _ (fun _ _ x _=>Z8S h hb7 (h.sg ag cg) (h.ss as_ cs) b3 x _ _)) ?_
 refine pur 3 rfl ?_
 refine Z1 rfl ?_ ?_<;>intro hc2
 refine sqt 1 rfl (pur 1 rfl (Z4 ?_))
 exact rtA rfl rfl rfl ⟨congrArg (Value.int .i64) (by have e10:decide ((10:Int)<(h.gaps.length:Int))=decide (10<h.gaps.length):=decide_eq_decide.2 (by omega);have e8:decide ((8:Int)<(h.sights.length:Int))=decide (8<h.sights.length):=decide_eq_decide.2 (by omega);simp_all only [Z0c,Hse.check,cond_true,cond_false,Bool.not_true,Bool.not_false,Bool.not_eq_true',Bool.not_eq_false',Bool.true_or,Bool.or_true,Bool.false_or,Bool.or_false]),rfl,rfl⟩ (fun w h=>by first | exact (h.del b3).del b1 | exact h.del b1)
 refine sqt 5 rfl (sp rfl (PE.fA Z2l rfl) rfl (spL rfl rfl (lh ZaF rfl rfl) rfl ?_))
 refine clV rfl Zhl rfl rfl (Z3p h.gaps ag cg 99 [] [] (fun g=>!decide (g=⟨g.b,g.a⟩)) ZjH hlg _ _ (fun _ _ x _=>Z8T x _ _)) ?_
 refine pur 2 rfl ?_
 refine Z1 rfl ?_ ?_<;>intro hc3
 refine sqt 1 rfl (pur 1 rfl (Z4 ?_))
 exact rtA rfl rfl rfl ⟨congrArg (Value.int .i64) (by have e10:decide ((10:Int)<(h.gaps.length:Int))=decide (10<h.gaps.length):=decide_eq_decide.2 (by omega);have e8:decide ((8:Int)<(h.sights.length:Int))=decide (8<h.sights.length):=decide_eq_decide.2 (by omega);simp_all only [Z0c,Hse.check,cond_true,cond_false,Bool.not_true,Bool.not_false,Bool.not_eq_true',Bool.not_eq_false',Bool.true_or,Bool.or_true,Bool.false_or,Bool.or_false]),rfl,rfl⟩ (fun w h=>by first | exact (h.del b3).del b1 | exact h.del b1)
 refine Z3 (sqt 1 rfl (pur 1 rfl (Z4 ?_)))
 exact rtA rfl rfl rfl ⟨congrArg (Value.int .i64) (by have e10:decide ((10:Int)<(h.gaps.length:Int))=decide (10<h.gaps.length):=decide_eq_decide.2 (by omega);have e8:decide ((8:Int)<(h.sights.length:Int))=decide (8<h.sights.length):=decide_eq_decide.2 (by omega);simp_all only [Z0c,Hse.check,cond_true,cond_false,Bool.not_true,Bool.not_false,Bool.not_eq_true',Bool.not_eq_false',Bool.true_or,Bool.or_true,Bool.false_or,Bool.or_false]),rfl,rfl⟩ (fun w h=>by first | exact (h.del b3).del b1 | exact h.del b1)
theorem Z1W {l:List Int} {k:Nat} {x:Int} (h:l[k]?=some x):(irows l)[k]?=some [.int .i64 x]:=by simp [h]
theorem Z06 (l:List Int):(irows l).length=l.length:=List.length_map _
theorem Z6t (xs:List Int) (a:Option Addr) (c:Nat) (v:Int) (hl:xs.length≤9223372036854775807) (H:Z7) (R:Z5) [hR:MemRows a 1 (irows xs) R] :
    FnV Tryz.prog 64 [.slice a xs.length c,.int .i64 v] H R (.int .i64 (match xs.findIdx? (fun x=>decide (v=x)) with | some k=>(k:Int) | none => -1)):=by
 refine Z8 Tryz.func64 rfl Tryz.ntmps64 rfl ?_
 refine sqt 1 rfl (pur 1 rfl (Z0 (sqt 3 rfl (pur 1 rfl (sp rfl (PE.lenSl Z0t rfl) rfl (pur 1 rfl (Z2 ?_)))))))
 refine Zc (ι:={k:Nat // k≤xs.length∧∀ x∈xs.take k,decide (v=x)=false}) (fun k=>⟨[(0,.slice a xs.length c),(1,.int .i64 v),(7,.int .i64 xs.length),(8,.int .i64 k.1)],H,R⟩) (fun k=>xs.length-k.1) ⟨0,by simp⟩ ?_ (fun k=>?_)
 exact Zi idH
 obtain ⟨k,hk,hn⟩:=k
 dsimp only
 refine sqt 1 rfl (pur 1 rfl (Z0 ?_))
 refine Z1 rfl ?_ ?_<;>intro hc0<;>try simp only [cS] at hc0
 obtain ⟨x,hx⟩:∃ x,xs[k]?=some x:=⟨_,List.getElem?_eq_getElem (by omega)⟩
 refine Zp (a:=a) (sz:=1) (rows:=irows xs) (by cases xs<;>simp_all) (fun b off he=>?_)
 subst he
 refine Z3 (Z0 (Z2 (sqt 2 rfl (pur 2 rfl (sqt 6 rfl (pur 3 rfl (sp rfl (PE.indexAddr Z5G rfl rfl (by omega) (by omega)) rfl (spL rfl rfl (lf0 sc3 (Z1W hx) rfl) rfl (pur 1 rfl ?_)))))))))
 refine Z1 rfl ?_ ?_<;>intro hc1
 refine sqt 2 rfl (pur 2 rfl (Z4 ?_))
 first | (exact rtA rfl rfl rfl ⟨by rw [Zq hx hn hc1];rfl,rfl,rfl⟩ idH) | (exact rtA rfl rfl rfl ⟨by rw [Zl (by simpa using hn)];rfl,rfl,rfl⟩ idH)
 refine Z3 (sqr 2 rfl (sp rfl (PE.add rfl rfl (by omega)) rfl (pur 1 rfl ?_)))
 exact Z6 ⟨k+1,by omega,ZC hx hn hc1⟩ idH
 obtain rfl:k=xs.length:=by omega
 refine Z9 (Za (Za (Zn (sqt 1 rfl (pur 1 rfl (Z4 ?_))))))
 first | (exact rtA rfl rfl rfl ⟨by rw [Zq hx hn hc1];rfl,rfl,rfl⟩ idH) | (exact rtA rfl rfl rfl ⟨by rw [Zl (by simpa using hn)];rfl,rfl,rfl⟩ idH)
theorem Z1U (xs:List Int) (a:Option Addr) (c:Nat) (v:Int) (hl:xs.length≤9223372036854775807) (H:Z7) (R:Z5) [hR:MemRows a 1 (irows xs) R] :
    FnV Tryz.prog 28 [.slice a xs.length c,.int .i64 v] H R (.bool (xs.any fun x=>decide (v=x))):=by
 refine Z8 Tryz.func28 rfl Tryz.ntmps28 rfl ?_
 refine sqt 1 rfl (pur 1 rfl (sqt 5 rfl (pur 2 rfl ?_)))
 refine clV rfl Zjq rfl rfl (Z6t xs a c v hl _ _) ?_
 refine pur 2 rfl (Z4 ?_)
 exact rtA rfl rfl rfl ⟨by simp only [Z0c];exact Z03 _ _,rfl,rfl⟩ drp
def ZeB (p:Int→Bool) (l:List Int):Int:=bif !(l.all p) then 1 else bif (List.range l.length).any (Z6v l) then 5 else 0
theorem Zhy {l:List Int} {k:Nat} (h:∀ i<k,Z6v l i=false) (hk:k=l.length):(List.range l.length).any (Z6v l)=false:=by
 rw [List.any_eq_false];intro i hi;rw [h i (by have:=List.mem_range.1 hi;omega)];simp
theorem Zed {l:List Int} {k:Nat} (hk:k<l.length) (h:Z6v l k=true):(List.range l.length).any (Z6v l)=true:=List.any_eq_true.2 ⟨k,List.mem_range.2 hk,h⟩
theorem Z4g (l:List Int) (k:Nat):(irows l).take k=irows (l.take k):=(List.map_take).symm
theorem Z09 (xs:List Int) (n:Nat) (hn:xs.length=n) (a:Option Addr) (c:Nat) (v:Int) (hl:xs.length≤9223372036854775807) (H:Z7) (R:Z5) [hR:MemRows a 1 (irows xs) R]:FnV Tryz.prog 28 [.slice a n c,.int .i64 v] H R (.bool (Z4f xs v)):=by subst hn;exact Z1U xs a c v hl H R
set_option maxHeartbeats 400000 in
theorem Z7e (l:List Int) (a:Option Addr) (c g:Nat) (fst cap:List Value) (p:Int→Bool) (hg:cal Tryz.prog g=true) (hl:l.length≤9223372036854775807) (hlc:l.length≤c) (H:Z7) (R:Z5) [hR:MemRows a 1 (irows l) R] (hp:∀ b x,x∈l→FnV Tryz.prog g (fst++[.int .i64 x]++cap) ((b,cel 131 [.func (.func g) fst.toArray cap.toArray])::H) R (.bool (p x))) :
    FnV Tryz.prog 52 [.slice a l.length c,.func (.func g) fst.toArray cap.toArray] H R (.int .i64 (ZeB p l)):=by
 refine Z8 Tryz.func52 rfl Tryz.ntmps52 rfl ?_
 refine sqt 1 rfl (pur 1 rfl (Z0 (sqt 4 rfl (pur 2 rfl ?_))))
 refine clV rfl ZfS rfl rfl (Z0a l a c g fst cap p hg hl _ _ hp) ?_
 refine pur 1 rfl ?_
 refine Z1 rfl ?_ ?_<;>intro hc0<;>try simp only [cS] at hc0
 refine sqt 1 rfl (pur 1 rfl (Z4 ?_))
 exact rtA rfl rfl rfl ⟨by simp only [Z0c];unfold ZeB;rw [hc0];rfl,rfl,rfl⟩ drp
 have hall:l.all p=true:=by simpa using hc0
 refine Z3 (Z0 (sqt 3 rfl (pur 1 rfl (sp rfl (PE.lenSl Z0t rfl) rfl (pur 1 rfl (Z2 ?_))))))
 refine Zc (ι:={k:Nat // k≤l.length∧∀ i<k,Z6v l i=false}) (fun k=>⟨[(0,.slice a l.length c),(11,.slice a l.length c),(12,.int .i64 l.length),(13,.int .i64 k.1)],H,R⟩) (fun k=>l.length-k.1) ⟨0,Nat.zero_le _,fun i hi=>absurd hi (Nat.not_lt_zero _)⟩ ?_ (fun k=>?_)
 exact Zi idH
 obtain ⟨k,hk,hd⟩:=k
 dsimp only at hk hd ⊢
 refine sqt 1 rfl (pur 1 rfl (Z0 ?_))
 refine Z1 rfl ?_ ?_<;>intro hc1<;>try simp only [cS] at hc1
 obtain ⟨x,hx⟩:∃ x,l[k]?=some x:=⟨_,List.getElem?_eq_getElem (by omega)⟩
 refine Zp (a:=a) (sz:=1) (rows:=irows l) (ne0 (by rw [Z06];omega)) (fun ba oa he=>?_)
 subst he
 refine Z3 (Z0 (Z2 (sqt 5 rfl (pur 1 rfl (sp rfl (PE.indexAddr Z5G rfl rfl (by omega) (by omega)) rfl (spL rfl rfl (lf0 sc3 (Z1W hx) rfl) rfl (pur 2 rfl (sqt 5 rfl (pur 2 rfl (sp rfl (PE.slHi (h:=k) Z36 rfl rfl (by omega)) rfl ?_))))))))))
 refine Sy.heap (fun w h=>(Z4g l k▸St.rowsTake (a:=some ⟨ba,oa,none⟩) (sz:=1) (rows:=irows l) h k)) ?_
 refine pur 1 rfl ?_
 refine clV rfl Z4D rfl rfl (Z09 (l.take k) k (by rw [List.length_take];omega) (some ⟨ba,oa,none⟩) c x (by rw [List.length_take];omega) _ _) ?_
 refine Z1 rfl ?_ ?_<;>intro hc2<;>try simp only [cS] at hc2
 have hdk:Z6v l k=true:=by unfold Z6v;rw [na_of hx];exact hc2
 refine sqt 1 rfl (pur 1 rfl (Z4 ?_))
 exact rtA rfl rfl rfl ⟨by simp only [Z0c];unfold ZeB;rw [hall,Zed (by omega) hdk];rfl,rfl,rfl⟩ drp
 have hd2:∀ i<k+1,Z6v l i=false:=fun i hi=>by
   rcases Nat.lt_or_ge i k with h1 | h1
   · exact hd i h1
   · obtain rfl:i=k:=by omega
     unfold Z6v;rw [na_of hx];exact hc2
 refine Z3 (sqr 2 rfl (sp rfl (PE.add rfl rfl (by omega)) rfl (pur 1 rfl ?_)))
 exact Z6 ⟨k+1,by omega,hd2⟩ (fun w h=>h.ftail)
 obtain rfl:k=l.length:=by omega
 refine Z9 (Za (Za (Zn (sqt 1 rfl (pur 1 rfl (Z4 ?_))))))
 exact rtA rfl rfl rfl ⟨by simp only [Z0c];unfold ZeB;rw [hall,Zhy hd rfl];rfl,rfl,rfl⟩ drp
theorem Z8z:Z1r Tryz.prog 135=some 7:=by kernel_rfl
theorem Z4w:arN Tryz.prog 135=some (7,1):=by kernel_rfl
theorem ZfT:cal Tryz.prog 101=true:=by kernel_rfl
theorem ZfU:cal Tryz.prog 102=true:=by kernel_rfl
theorem ZfV:cal Tryz.prog 103=true:=by kernel_rfl
theorem Zgf:cal Tryz.prog 145=true:=by kernel_rfl
theorem Ze4:ZF Tryz.prog 130=some 2:=by kernel_rfl
theorem Z9N:ZF Tryz.prog 135=some 7:=by kernel_rfl
theorem cn3:ZF Tryz.prog 3=some 1:=by kernel_rfl
theorem ZhG:eqB Tryz.prog 10000 135=some (true,7):=by kernel_rfl
theorem ZhJ:Tryz.prog.eqGuardType Tryz.prog.depth 135=false:=by kernel_rfl
theorem Z6I:Z00 Tryz.prog 198 0=some 0:=by kernel_rfl
theorem Zep:Z00 Tryz.prog 198 1=some 3:=by kernel_rfl
theorem Zk4:ZM Tryz.prog 198=some [(0,3),(3,1)]:=by kernel_rfl
theorem ZeY:Z0j Tryz.prog 136=true:=by kernel_rfl
theorem Z8q:Zw Tryz.prog 135=some ([.int .i64 0,.int .i64 0,.int .i64 0,.int .i64 0,.int .i64 0,.int .i64 0,.int .i64 0]):=by kernel_rfl
theorem Zkv:Zw Tryz.prog 198=some ([.int .i64 0,.slice none 0 0,.slice none 0 0,.nilFunc]):=by kernel_rfl
theorem zl3:Zw Tryz.prog 3=some ([.int .i64 0]):=by kernel_rfl
structure Dk where
 h:Hse
 ag:Option Addr
 as_:Option Addr
 cg:Nat
 cs:Nat
 bd:Nat
 fo:Nat
 fst:List Value
 cap:List Value
 cl:Nat
 R0:Z5
def Dk.row (d:Dk):List Value:=[.int .i64 d.h.bins,d.h.sg d.ag d.cg,d.h.ss d.as_ d.cs,.func (.func d.fo) d.fst.toArray d.cap.toArray]
structure Dk.Ok (d:Dk):Prop where
 ok:d.h.ok
 cal:cal Tryz.prog d.fo=true
 op:∀ (i:Nat) (H:Z7) (R:Z5),i<d.h.gaps.length→(∀ g∈d.R0,g∈R)→FnV Tryz.prog d.fo (d.fst++[.int .i64 ((i:Nat):Int)]++d.cap) H R (.bool (!d.cl.testBit i))
structure RchI (gs:List Gp) (cl m:Nat) (w:List Int):Prop where
 len:w.length=7
 at_:∀ k<7,wk gs cl m k≤na w k∧na w k≤far∧(m.testBit k=true→na w k≤0)
theorem Z4j {l:List Int} {i j:Nat} {v:Int} (h:i<l.length):na (l.set i v) j=bif decide (i=j) then v else na l j:=by
 unfold na
 rw [List.getD_eq_getElem?_getD,List.getD_eq_getElem?_getD,List.getElem?_set]
 by_cases e:i=j
 · subst e;rw [if_pos rfl,if_pos h];simp
 · rw [if_neg e,decide_eq_false e];rfl
theorem Z2Q {w:List Int} {i k:Nat} {v:Int} (hk:k<w.length) (e:i=k):spl (Zj w) i [.int .i64 v]=Zj (w.set k v):=by
 subst e
 unfold spl Zj
 apply List.ext_getElem?
 intro j
 rw [List.getElem?_map,List.getElem?_set]
 simp only [List.length_singleton]
 rcases Nat.lt_trichotomy j i with h | h | h
 · rw [List.getElem?_append_left (by simp;omega),List.getElem?_append_left (by simp;omega),List.getElem?_take,if_pos h,if_neg (by omega),List.getElem?_map]
 · subst h
   rw [List.getElem?_append_left (by simp;omega),List.getElem?_append_right (by simp;omega),if_pos rfl,if_pos hk]
   simp [show min j w.length=j by omega]
 · rw [List.getElem?_append_right (by simp;omega),if_neg (by omega),List.getElem?_drop,List.getElem?_map]
   congr 2
   simp;omega
theorem RchI.relax {gs:List Gp} {cl m:Nat} {w:List Int} (h:RchI gs cl m w) (hw:Wth gs 7) (hm:m<2 ^ 7) {u v:Nat} (hu:u<7) (hv:v<7) (ha:Adj gs cl u v):RchI gs cl m (w.set v (min (na w v) (na w u+1)))∧(∀ k<7,na (w.set v (min (na w v) (na w u+1))) k≤na w k)∧na (w.set v (min (na w v) (na w u+1))) v≤na w u+1:=by
 have hl:=h.len
 have h1:=h.at_ u hu
 have h2:=h.at_ v hv
 have h3:=Ziu hw hm ha
 refine ⟨⟨by rw [List.length_set];exact hl,fun k hk=>?_⟩,fun k hk=>?_,?_⟩
 · rw [Z4j (by omega)]
   have h4:=h.at_ k hk
   by_cases e:v=k
   · subst e
     rw [decide_eq_true rfl,cond_true]
     refine ⟨by omega,by omega,fun h5=>by have:=h4.2.2 h5;omega⟩
   · rw [decide_eq_false e];exact h4
 · rw [Z4j (by omega)]
   by_cases e:v=k
   · subst e;rw [decide_eq_true rfl,cond_true];omega
   · rw [decide_eq_false e];exact Int.le_refl _
 · rw [Z4j (by omega),decide_eq_true rfl,cond_true];omega
def Rlx (gs:List Gp) (cl:Nat) (w0 w:List Int) (k i:Nat):Prop:=(∀ j<7,na w j≤na w0 j)∧(∀ u v,u<k→u<7→v<7→Adj gs cl u v→na w v≤na w0 u+1)∧∀ (q:Nat) (g:Gp) (v:Nat),q<i→gs[q]?=some g→cl.testBit q=false→v<7→((g.a.toNat=k∧g.b.toNat=v)∨(g.b.toNat=k∧g.a.toNat=v))→na w v≤na w0 k+1
theorem Rlx.start (gs:List Gp) (cl:Nat) (w:List Int):Rlx gs cl w w 0 0:=⟨fun _ _=>Int.le_refl _,fun u _ h=>absurd h (Nat.not_lt_zero _),fun q _ _ h=>absurd h (Nat.not_lt_zero _)⟩
theorem Rlx.bin {gs:List Gp} {cl:Nat} {w0 w:List Int} {k:Nat} (h:Rlx gs cl w0 w k gs.length):Rlx gs cl w0 w (k+1) 0:=by
 refine ⟨h.1,fun u v hu hu7 hv ha=>?_,fun q _ _ h=>absurd h (Nat.not_lt_zero _)⟩
 rcases Nat.lt_or_ge u k with h1 | h1
 · exact h.2.1 u v h1 hu7 hv ha
 · obtain rfl:u=k:=by omega
   obtain ⟨q,g,h2,h3,h4⟩:=ha
   exact h.2.2 q g v (List.getElem?_eq_some_iff.1 h2).1 h2 h3 hv h4
theorem Rlx.skip {gs:List Gp} {cl:Nat} {w0 w:List Int} {k i:Nat} (h:Rlx gs cl w0 w k i) {g:Gp} (hg:gs[i]?=some g) (hn:cl.testBit i=true∨(g.a.toNat≠k∧g.b.toNat≠k)):Rlx gs cl w0 w k (i+1):=by
 refine ⟨h.1,h.2.1,fun q g' v hq hg' ho hv he=>?_⟩
 rcases Nat.lt_or_ge q i with h1 | h1
 · exact h.2.2 q g' v h1 hg' ho hv he
 · obtain rfl:q=i:=by omega
   rw [hg] at hg'
   obtain rfl:=Option.some.inj hg'
   rcases hn with h2 | h2
   · rw [ho] at h2;cases h2
   · omega
theorem Rlx.step {gs:List Gp} {cl:Nat} {w0 w w':List Int} {k i:Nat} (h:Rlx gs cl w0 w k i) {g:Gp} (hg:gs[i]?=some g) {v:Nat} (hv:∀ v',((g.a.toNat=k∧g.b.toNat=v')∨(g.b.toNat=k∧g.a.toNat=v'))→v'=v) (hle:∀ j<7,na w' j≤na w j) (hk:k<7) (hs:na w' v≤na w k+1):Rlx gs cl w0 w' k (i+1):=by
 refine ⟨fun j hj=>Int.le_trans (hle j hj) (h.1 j hj),fun u v hu hu7 hv' ha=>Int.le_trans (hle v hv') (h.2.1 u v hu hu7 hv' ha),fun q g' v' hq hg' ho hv' he=>?_⟩
 rcases Nat.lt_or_ge q i with h1 | h1
 · exact Int.le_trans (hle v' hv') (h.2.2 q g' v' h1 hg' ho hv' he)
 · obtain rfl:q=i:=by omega
   rw [hg] at hg'
   obtain rfl:=Option.some.inj hg'
   obtain rfl:=hv v' he
   have:=h.1 k hk
   omega
theorem Rlx.done {gs:List Gp} {cl m:Nat} {w:List Int} {n:Nat} (hn:Wth gs n) (hw:Wth gs 7) (hm:m<2 ^ 7) (hr:RchI gs cl m w) (h:Rlx gs cl w w n 0):w=wks gs cl m:=by
 have h1:=Zb5 (gs:=gs) (cl:=cl) (m:=m) (w:=na w) (fun k hk=>(hr.at_ k hk).1) (fun k hk hb=>(hr.at_ k hk).2.2 hb) (fun u v hu hv ha=>h.2.1 u v (ha.lt hn).1 hu hv ha) (fun k hk=>(hr.at_ k hk).2.1) hw hm
 apply List.ext_getElem?
 intro k
 rcases Nat.lt_or_ge k 7 with hk | hk
 · rw [na_get (by rw [hr.len];exact hk),na_get (by rw [ZV];exact hk),Z1n hk,h1 k hk]
 · rw [List.getElem?_eq_none (by rw [hr.len];exact hk),List.getElem?_eq_none (by rw [ZV];exact hk)]
def ZiJ (w:List Int):Nat:=(w.map Int.toNat).foldl (· + ·) 0
theorem Zi0 {w:List Int} (h:w.length=7):w=[na w 0,na w 1,na w 2,na w 3,na w 4,na w 5,na w 6]:=by
 match w,h with
 | [a,b,c,d,e,f,g],_=>rfl
theorem Z3P {a b:Int} (h:b≤a) (q:0≤b):b.toNat≤a.toNat∧(b.toNat=a.toNat→b=a):=by omega
theorem Zf9 {gs:List Gp} {cl m:Nat} {w w':List Int} (h:RchI gs cl m w) (h':RchI gs cl m w') (hle:∀ j<7,na w' j≤na w j) (hne:w'≠w):ZiJ w'<ZiJ w:=by
 have q:∀ k<7,0≤na w' k:=fun k hk=>by have:=(h'.at_ k hk).1;have:=(Z5i gs cl m k).1;omega
 obtain ⟨a0,a1,a2,a3,a4,a5,a6,rfl⟩:∃ a0 a1 a2 a3 a4 a5 a6:Int,w=[a0,a1,a2,a3,a4,a5,a6]:=⟨_,_,_,_,_,_,_,Zi0 h.len⟩
 obtain ⟨b0,b1,b2,b3,b4,b5,b6,rfl⟩:∃ b0 b1 b2 b3 b4 b5 b6:Int,w'=[b0,b1,b2,b3,b4,b5,b6]:=⟨_,_,_,_,_,_,_,Zi0 h'.len⟩
 have h0:b0≤a0:=hle 0 (by decide)
 have h1:b1≤a1:=hle 1 (by decide)
 have h2:b2≤a2:=hle 2 (by decide)
 have h3:b3≤a3:=hle 3 (by decide)
 have h4:b4≤a4:=hle 4 (by decide)
 have h5:b5≤a5:=hle 5 (by decide)
 have h6:b6≤a6:=hle 6 (by decide)
 have q0:0≤b0:=q 0 (by decide)
 have q1:0≤b1:=q 1 (by decide)
 have q2:0≤b2:=q 2 (by decide)
 have q3:0≤b3:=q 3 (by decide)
 have q4:0≤b4:=q 4 (by decide)
 have q5:0≤b5:=q 5 (by decide)
 have q6:0≤b6:=q 6 (by decide)
 clear q hle h h'
 apply Classical.byContradiction
 intro hc
 apply hne
 unfold ZiJ at hc
 simp only [List.map_cons,List.map_nil,List.foldl_cons,List.foldl_nil] at hc
 have s0:=Z3P h0 q0
 have s1:=Z3P h1 q1
 have s2:=Z3P h2 q2
 have s3:=Z3P h3 q3
 have s4:=Z3P h4 q4
 have s5:=Z3P h5 q5
 have s6:=Z3P h6 q6
 clear h0 q0
 clear h1 q1
 clear h2 q2
 clear h3 q3
 clear h4 q4
 clear h5 q5
 clear h6 q6
 have:b0.toNat=a0.toNat∧b1.toNat=a1.toNat∧b2.toNat=a2.toNat∧b3.toNat=a3.toNat∧b4.toNat=a4.toNat∧b5.toNat=a5.toNat∧b6.toNat=a6.toNat:=by
   have u0:=s0.1;have u1:=s1.1;have u2:=s2.1;have u3:=s3.1;have u4:=s4.1;have u5:=s5.1;have u6:=s6.1
   clear s0 s1 s2 s3 s4 s5 s6 hne
   generalize b0.toNat=m0 at *
   generalize a0.toNat=n0 at *
   generalize b1.toNat=m1 at *
   generalize a1.toNat=n1 at *
   generalize b2.toNat=m2 at *
   generalize a2.toNat=n2 at *
   generalize b3.toNat=m3 at *
   generalize a3.toNat=n3 at *
   generalize b4.toNat=m4 at *
   generalize a4.toNat=n4 at *
   generalize b5.toNat=m5 at *
   generalize a5.toNat=n5 at *
   generalize b6.toNat=m6 at *
   generalize a6.toNat=n6 at *
   exact ⟨by omega,by omega,by omega,by omega,by omega,by omega,by omega⟩
 rw [s0.2 this.1,s1.2 this.2.1,s2.2 this.2.2.1,s3.2 this.2.2.2.1,s4.2 this.2.2.2.2.1,s5.2 this.2.2.2.2.2.1,s6.2 this.2.2.2.2.2.2]
def w00 (m k:Nat):List Int:=(List.range 7).map fun j=>bif decide (j<k) then (bif m.testBit j then 0 else far) else 0
theorem Z0X (m k:Nat):(w00 m k).length=7:=by simp [w00]
theorem Zb0 {m k j:Nat} (hj:j<7):na (w00 m k) j=bif decide (j<k) then (bif m.testBit j then 0 else far) else 0:=by
 unfold na w00
 rw [List.getD_eq_getElem?_getD,List.getElem?_map,List.getElem?_range hj];rfl
theorem Zb1 {m k:Nat} (hk:k<7):(w00 m k).set k (bif m.testBit k then 0 else far)=w00 m (k+1):=by
 apply List.ext_getElem?
 intro j
 rcases Nat.lt_or_ge j 7 with hj | hj
 · rw [na_get (l:=(w00 m k).set k _) (by rw [List.length_set,Z0X];exact hj),na_get (by rw [Z0X];exact hj),Z4j (by rw [Z0X];exact hk),Zb0 hj,Zb0 hj]
   by_cases e:k=j
   · subst e;rw [decide_eq_true rfl,decide_eq_true (Nat.lt_succ_self k)];rfl
   · rw [decide_eq_false e,show decide (j<k+1)=decide (j<k) from decide_eq_decide.2 (by omega)];rfl
 · rw [List.getElem?_eq_none (by rw [List.length_set,Z0X];exact hj),List.getElem?_eq_none (by rw [Z0X];exact hj)]
theorem Zck (l:List Int) (k:Nat) (x y:Int):(l.set k x).set k y=l.set k y:=by simp
theorem Zit (gs:List Gp) (cl m:Nat):RchI gs cl m (w00 m 7):=⟨Z0X _ _,fun k hk=>by
 rw [Zb0 hk,decide_eq_true hk,cond_true]
 have:=Z5i gs cl m k
 cases hb:m.testBit k with
 | true=>rw [Zb4 hb];unfold far;simp
 | false=>exact ⟨this.2.1,Int.le_refl _,(fun h=>by cases h)⟩⟩
abbrev dkA (h:Hse) (ag as_:Option Addr) (cg cs:Nat) (bd:Nat):Dk:=⟨h,ag,as_,cg,cs,bd,101,[],[],0,[]⟩
theorem Z7c (n:Int) (H:Z7) (R:Z5) :
    FnV Tryz.prog 101 [.int .i64 n] H R (.bool true):=by
 refine Z8 Tryz.func101 rfl Tryz.ntmps101 rfl ?_
 refine sqt 1 rfl (pur 1 rfl (sqt 1 rfl (pur 1 rfl (Z4 ?_))))
 exact rtA rfl rfl rfl ⟨rfl,rfl,rfl⟩ drp
theorem Z2V (h:Hse) (ag as_:Option Addr) (cg cs:Nat) (hok:h.ok) (bd:Nat):(dkA h ag as_ cg cs bd).Ok:=⟨hok,ZfT,fun i H R _ _=>by
 have e:(!(dkA h ag as_ cg cs bd).cl.testBit i)=true:=by show (!(Nat.testBit 0 i))=true;rw [Nat.zero_testBit];rfl
 rw [e];exact Z7c _ H R⟩
theorem Z3X (h:Hse) (ag as_:Option Addr) (cg cs:Nat) (H:Z7) (R:Z5) :
    Fn Tryz.prog 54 [h.v (h.sg ag cg) (h.ss as_ cs)] H R (fun v H' R'=>∃ bd,v = .pointer (some ⟨bd,0,none⟩)∧H'=H∧R'=RowsA (some ⟨bd,0,none⟩) 4 [(dkA h ag as_ cg cs bd).row]::R):=by
 refine Z8 Tryz.func54 rfl Tryz.ntmps54 rfl ?_
 refine sqt 2 rfl (bx rfl rfl rfl (fun b1=>pur 1 rfl (sqt 4 rfl (spL rfl rfl (lhA (htl h (h.sg ag cg) (h.ss as_ cs)) Z0e rfl rfl rfl) rfl (sp rfl (PE.build (out:=[_,_,_,_]) Zk4 Zkv rfl rfl) rfl (bx rfl rfl rfl (fun b5=>pur 1 rfl (Z4 ?_))))))))
 refine Sy.heap (fun w h9=>St.rows (sz:=4) (rows:=[(dkA h ag as_ cg cs b5).row]) (rest:=[]) (h9.pull b5) (by simp [Dk.row])) ?_
 exact rtA rfl rfl rfl ⟨b5,rfl,rfl,rfl⟩ (fun w h9=>h9.del b1)
theorem ZiX (bd:Nat) (n:Int) (H:Z7) (R:Z5) :
    Fn Tryz.prog 102 [.pointer (some ⟨bd,0,none⟩),.int .i64 n] H R (fun v H' R'=>∃ xd xb,v = .func (.func 145) #[] #[.pointer (some ⟨xd,0,none⟩),.pointer (some ⟨xb,0,none⟩)]∧H'=H∧R'=RowsA (some ⟨xb,0,none⟩) 1 [[.int .i64 n]]::RowsA (some ⟨xd,0,none⟩) 1 [[.pointer (some ⟨bd,0,none⟩)]]::R):=by
 refine Z8 Tryz.func102 rfl Tryz.ntmps102 rfl ?_
 refine sqt 3 rfl (bx rfl rfl rfl (fun b2=>bx rfl rfl rfl (fun b3=>pur 1 rfl (sqt 2 rfl (sp rfl (PE.makeFunc rfl rfl) rfl (pur 1 rfl (Z4 ?_)))))))
 refine Sy.heap (fun w h9=>St.rows (sz:=1) (rows:=[[.pointer (some ⟨bd,0,none⟩)]]) (rest:=[]) (h9.pull b2) (by simp)) ?_
 refine Sy.heap (fun w h9=>St.rows (sz:=1) (rows:=[[.int .i64 n]]) (rest:=[]) (h9.pull b3) (by simp)) ?_
 exact rtA rfl rfl rfl ⟨b2,b3,rfl,rfl,rfl⟩ idH
set_option maxHeartbeats 400000 in
theorem ZfP (d:Dk) (hd:d.Ok) (n:Int) (hn:0≤n∧n<7) (xd xb lp:Nat) (I:Nat→Z7→Z5→Prop) (E:Z7→Z5→Prop) (hI:∀ k H R,I k H R→RowsA (some ⟨d.bd,0,none⟩) 4 [d.row]∈R∧RowsA d.ag 2 (Zy d.h.gaps)∈R∧RowsA (some ⟨xd,0,none⟩) 1 [[.pointer (some ⟨d.bd,0,none⟩)]]∈R∧RowsA (some ⟨xb,0,none⟩) 1 [[.int .i64 n]]∈R∧∀ g∈d.R0,g∈R)
    (hsk:∀ k g H R,d.h.gaps[k]?=some g→(d.cl.testBit k=true∨(g.a≠n∧g.b≠n))→I k H R→I (k+1) H R)
    (hy:∀ k g q o H R,d.h.gaps[k]?=some g→d.cl.testBit k=false→(g.a=n∨g.b=n)→I k H R→Yd Tryz.prog lp [.int .i64 k,.int .i64 (g.a+g.b-n)] ((q,o)::H) R (fun v H' R'=>(v = .bool true∧∃ H2,H'=(q,o)::H2∧I (k+1) H2 R')∨(v = .bool false∧∃ H2,H'=(q,o)::H2∧E H2 R'))) (H:Z7) (R:Z5) (h0:I 0 H R) :
    Fn Tryz.prog 145 [yv lp,.pointer (some ⟨xd,0,none⟩),.pointer (some ⟨xb,0,none⟩)] H R (fun _ H' R'=>I d.h.gaps.length H' R'∨E H' R'):=by
 obtain ⟨h,ag,as_,cg,cs,bd,fo,fst,cap,cl,R0⟩:=d
 obtain ⟨hok,hcal,hop⟩:=hd
 dsimp only at *
 have hgl:=hok.gl
 obtain ⟨hF1,hF2,hF3,hF4,hF5⟩:=hI _ _ _ h0
 haveI:MemRows (some ⟨bd,0,none⟩) 4 [(Dk.mk h ag as_ cg cs bd fo fst cap cl R0).row] R:=⟨hF1⟩
 haveI:MemRows ag 2 (Zy h.gaps) R:=⟨hF2⟩
 haveI:MemRows (some ⟨xd,0,none⟩) 1 [[.pointer (some ⟨bd,0,none⟩)]] R:=⟨hF3⟩
 haveI:MemRows (some ⟨xb,0,none⟩) 1 [[.int .i64 n]] R:=⟨hF4⟩
 refine Z8 Tryz.func145 rfl Tryz.ntmps145 rfl ?_
 refine sqt 7 rfl (spL rfl rfl (lfB (sz:=1) ZeY rfl) rfl (sp rfl (PE.nilCheck rfl) rfl (sp rfl (PE.fA Z6I rfl) rfl (sp rfl (PE.fA Z2l rfl) rfl (spL rfl rfl (lfB (sz:=4) ZaF rfl) rfl (sp rfl (PE.lenSl ZbQ rfl) rfl (pur 1 rfl (Z2 ?_))))))))
 refine Zc (ι:={x:Nat×Z7×Z5 // x.1≤h.gaps.length∧I x.1 x.2.1 x.2.2}) (fun x=>⟨[(0,yv lp),(1,.pointer (some ⟨xd,0,none⟩)),(2,.pointer (some ⟨xb,0,none⟩)),(10,.slice ag h.gaps.length cg),(11,.int .i64 h.gaps.length),(12,.int .i64 x.1.1)],x.1.2.1,x.1.2.2⟩) (fun x=>h.gaps.length-x.1.1) ⟨(0,H,R),Nat.zero_le _,h0⟩ ?_ (fun x=>?_)
 exact Zi idH
 obtain ⟨⟨k,H0,Q0⟩,hk,hI0⟩:=x
 dsimp only at hk hI0 ⊢
 obtain ⟨hF1,hF2,hF3,hF4,hF5⟩:=hI _ _ _ hI0
 haveI:MemRows (some ⟨bd,0,none⟩) 4 [(Dk.mk h ag as_ cg cs bd fo fst cap cl R0).row] Q0:=⟨hF1⟩
 haveI:MemRows ag 2 (Zy h.gaps) Q0:=⟨hF2⟩
 haveI:MemRows (some ⟨xd,0,none⟩) 1 [[.pointer (some ⟨bd,0,none⟩)]] Q0:=⟨hF3⟩
 haveI:MemRows (some ⟨xb,0,none⟩) 1 [[.int .i64 n]] Q0:=⟨hF4⟩
 refine sqt 1 rfl (pur 1 rfl (Z0 ?_))
 refine Z1 rfl ?_ ?_<;>intro hc0<;>try simp only [cS] at hc0
 obtain ⟨g,hg⟩:∃ g,h.gaps[k]?=some g:=⟨_,List.getElem?_eq_getElem (by omega)⟩
 have hgo:=hok.gaps g (List.mem_of_getElem? hg)
 have hbn:=hok.bins
 refine Zp (a:=ag) (sz:=2) (rows:=Zy h.gaps) (ne0 (by rw [Z05];omega)) (fun bg og he=>?_)
 subst he
 refine Z3 (Z0 (Z2 (sqt 6 rfl (pur 1 rfl (sp rfl (PE.indexAddr ZkD rfl rfl (by omega) (by omega)) rfl (spL rfl rfl (lfA Z7U (row:=Z5n g) (ZhS hg) rfl) rfl (alc rfl Z6e rfl (fun b5=>pur 1 rfl ?_))))))))
 refine ZU (l':=Z5n g) rfl rfl rfl Ze4 rfl rfl rfl rfl (nl rfl) ?_
 refine Z0 (sqt 19 rfl (spL rfl rfl (lfB (sz:=1) ZeY rfl) rfl (sp rfl (PE.nilCheck rfl) rfl (sp rfl (PE.fA Zep rfl) rfl (spL rfl rfl (lfB (sz:=4) Z2M rfl) rfl (pur 1 rfl ?_))))))
 refine Z1R rfl rfl (hcal) rfl rfl (hop k _ _ (by omega) hF5) ?_
 refine pur 2 rfl ?_
 refine Zr 24 rfl ?_ ?_<;>intro g24
 refine pur 5 rfl ?_
 repeat refine spU rfl rfl rfl rfl rfl rfl rfl ?_
 refine pur 2 rfl ?_
 refine Z08 rfl ?_
 refine Z9 (Za (Zn (sqr 2 rfl (sp rfl (PE.add rfl rfl (by omega)) rfl (pur 1 rfl ?_)))))
 exact Z6 ⟨(k+1,H0,Q0),by dsimp only;omega,hsk k g _ _ hg (.inl (by simpa using g24)) hI0⟩ (fun w h9=>h9.tail)
 have hop0:cl.testBit k=false:=by simpa using g24
 refine spG rfl rfl rfl rfl (PE.fA Z0E rfl) rfl ?_
 refine Z0L rfl rfl rfl rfl rfl (lh sc3 rfl rfl) rfl (Z0L rfl rfl rfl rfl rfl (lfB (sz:=1) sc3 rfl) rfl (pur 2 rfl ?_))
 refine Zr 29 rfl ?_ ?_<;>intro g29
 try simp only [cS] at g29
 refine spG rfl rfl rfl rfl (PE.fA Z0b rfl) rfl ?_
 refine Z0L rfl rfl rfl rfl rfl (lh sc3 rfl rfl) rfl (Z0L rfl rfl rfl rfl rfl (lfB (sz:=1) sc3 rfl) rfl (pur 3 rfl ?_))
 refine Z1 rfl ?_ ?_<;>intro hc1<;>try simp only [cS] at hc1
 refine Z9 (Za (Zn (sqr 2 rfl (sp rfl (PE.add rfl rfl (by omega)) rfl (pur 1 rfl ?_)))))
 exact Z6 ⟨(k+1,H0,Q0),by dsimp only;omega,hsk k g _ _ hg (.inr ⟨g29,hc1⟩) hI0⟩ (fun w h9=>h9.tail)
 have hinc:g.a=n∨g.b=n:=.inr (by omega)
 refine Z3 (sqt 11 rfl (pur 2 rfl (sp rfl (PE.fA Z0E rfl) rfl (spL rfl rfl (lh sc3 rfl rfl) rfl (sp rfl (PE.fA Z0b rfl) rfl (spL rfl rfl (lh sc3 rfl rfl) rfl (sp rfl (PE.add rfl rfl (by omega)) rfl (spL rfl rfl (lfB (sz:=1) sc3 rfl) rfl (sp rfl (PE.sub rfl rfl (by omega)) rfl ?_)))))))))
 refine clY rfl rfl rfl rfl (hy k g b5 _ _ _ hg hop0 hinc hI0) ?_
 rintro v H3 R3 (⟨rfl,H2,rfl,hI3⟩ | ⟨rfl,H2,rfl,hE3⟩)
 refine pur 1 rfl ?_
 refine ZE rfl ?_
 refine Z3 (sqr 2 rfl (sp rfl (PE.add rfl rfl (by omega)) rfl (pur 1 rfl ?_)))
 exact Z6 ⟨(k+1,H2,R3),by dsimp only;omega,hI3⟩ (fun w h9=>h9.tail)
 refine pur 1 rfl ?_
 refine Z08 rfl ?_
 refine Z4 ?_
 exact Zf (vs:=[]) rfl .nil rfl (.inr hE3) (fun _ h=>h.tail)
 try simp only [cS] at g29
 have hinc:g.a=n∨g.b=n:=.inl (by omega)
 refine pur 6 rfl ?_
 refine ZE rfl ?_
 refine Z3 (sqt 11 rfl (pur 2 rfl (sp rfl (PE.fA Z0E rfl) rfl (spL rfl rfl (lh sc3 rfl rfl) rfl (sp rfl (PE.fA Z0b rfl) rfl (spL rfl rfl (lh sc3 rfl rfl) rfl (sp rfl (PE.add rfl rfl (by omega)) rfl (spL rfl rfl (lfB (sz:=1) sc3 rfl) rfl (sp rfl (PE.sub rfl rfl (by omega)) rfl ?_)))))))))
 refine clY rfl rfl rfl rfl (hy k g b5 _ _ _ hg hop0 hinc hI0) ?_
 rintro v H3 R3 (⟨rfl,H2,rfl,hI3⟩ | ⟨rfl,H2,rfl,hE3⟩)
 refine pur 1 rfl ?_
 refine ZE rfl ?_
 refine Z3 (sqr 2 rfl (sp rfl (PE.add rfl rfl (by omega)) rfl (pur 1 rfl ?_)))
 exact Z6 ⟨(k+1,H2,R3),by dsimp only;omega,hI3⟩ (fun w h9=>h9.tail)
 refine pur 1 rfl ?_
 refine Z08 rfl ?_
 refine Z4 ?_
 exact Zf (vs:=[]) rfl .nil rfl (.inr hE3) (fun _ h=>h.tail)
 obtain rfl:k=h.gaps.length:=by omega
 refine Z9 (Za (Za (Zn ?_)))
 exact Z0W (vs:=[]) rfl .nil rfl (.inl hI0) idH
theorem Z0O {w:List Int} {k i:Nat} (hk:k<w.length) (e:i=k):(Zj w)[i]?=some (.int .i64 (na w k)):=by
 subst e;exact Z1b (na_get hk)
theorem Zei {gs:List Gp} {cl i:Nat} {g:Gp} (hg:gs[i]?=some g) (ho:cl.testBit i=false) {k:Nat} (ha:(0≤g.a∧g.a<7)∧(0≤g.b∧g.b<7)∧g.a≠g.b) (h:g.a=k∨g.b=k):∃ v:Nat,g.a+g.b-k=v∧v<7∧Adj gs cl k v∧(∀ v',((g.a.toNat=k∧g.b.toNat=v')∨(g.b.toNat=k∧g.a.toNat=v'))→v'=v)∧((g.a.toNat=k∧g.b.toNat=v)∨(g.b.toNat=k∧g.a.toNat=v)):=by
 rcases h with h | h
 · exact ⟨g.b.toNat,by omega,by omega,⟨i,g,hg,ho,.inl ⟨by omega,rfl⟩⟩,fun v' hv=>by omega,.inl ⟨by omega,rfl⟩⟩
 · exact ⟨g.a.toNat,by omega,by omega,⟨i,g,hg,ho,.inr ⟨by omega,rfl⟩⟩,fun v' hv=>by omega,.inr ⟨by omega,rfl⟩⟩
set_option maxHeartbeats 1000000 in
theorem Z4B (d:Dk) (hd:d.Ok) (l:List Int) (a:Option Addr) (c:Nat) (hl:l.length≤9223372036854775807) (hx:∀ x∈l,0≤x∧x<7) (H:Z7) (R:Z5) [hD:MemRows (some ⟨d.bd,0,none⟩) 4 [d.row] R] [hG:MemRows d.ag 2 (Zy d.h.gaps) R] [hS:MemRows d.as_ 3 (Zs d.h.sights) R] [sR:SubF d.R0 R] [hR:MemRows a 1 (irows l) R] :
    FnV Tryz.prog 55 [.pointer (some ⟨d.bd,0,none⟩),.slice a l.length c] H R (.agg (Zj (wks d.h.gaps d.cl (msk l))).toArray):=by
 refine Z1V Tryz.func55 rfl Tryz.ntmps55 rfl ?_
 refine sqt 1 rfl (alc rfl Z8q rfl (fun b4=>sqt 1 rfl (alc rfl Z8q rfl (fun b5=>Z0 (sqt 1 rfl (pur 1 rfl (Z2 ?_)))))))
 refine Zc (ι:={k:Nat // k≤7}) (fun k=>⟨[(0,.pointer (some ⟨d.bd,0,none⟩)),(1,.slice a l.length c),(4,.pointer (some ⟨b4,0,none⟩)),(5,.pointer (some ⟨b5,0,none⟩)),(11,.int .i64 k.1)],(b5,cel 135 (Zj (w00 (msk l) k.1)))::(b4,cel 135 [.int .i64 0,.int .i64 0,.int .i64 0,.int .i64 0,.int .i64 0,.int .i64 0,.int .i64 0])::H,R⟩) (fun k=>7-k.1) ⟨0,Nat.zero_le _⟩ ?_ (fun k=>?_)
 exact Zi idH
 ·
  obtain ⟨k,hk⟩:=k
  dsimp only at hk ⊢
  refine sqt 1 rfl (pur 1 rfl (Z0 ?_))
  refine Z1 rfl ?_ ?_<;>intro hc0<;>try simp only [cS] at hc0
  refine Z3 (Z0 (Z2 (sqt 2 rfl (pur 2 rfl (sqt 3 rfl (pur 1 rfl (sp rfl (PE.indexArr Z4w rfl rfl (by omega) (by omega)) rfl ?_)))))))
  refine ZU (l':=Zj ((w00 (msk l) k).set k far)) rfl rfl rfl cn3 rfl rfl rfl (Z2Q (v:=far) (by rw [Z0X];omega) (by show 0+((k:Nat):Int).toNat*1=k;omega)) (by rw [Zb,Z0X];show 0+((k:Nat):Int).toNat*1+1≤7;omega) ?_
  refine sqt 3 rfl (pur 2 rfl ?_)
  refine clV rfl Z4D rfl rfl (Z1U l a c k hl _ _) ?_
  refine Z1 rfl ?_ ?_<;>intro hc1
  have hb:(msk l).testBit k=true:=(Z1c (fun x h9=>(hx x h9).1) k).2 (hasI_iff.1 hc1)
  refine sqr 3 rfl (pur 1 rfl (sp rfl (PE.indexArr Z4w rfl rfl (by omega) (by omega)) rfl ?_))
  refine ZU (l':=Zj (w00 (msk l) (k+1))) rfl rfl rfl cn3 rfl rfl rfl ((Z2Q (k:=k) (v:=0) (by rw [List.length_set,Z0X];omega) (by show 0+((k:Nat):Int).toNat*1=k;omega)).trans (by rw [Zck,← Zb1 (by omega),hb];rfl)) (by rw [Zb,List.length_set,Z0X];show 0+((k:Nat):Int).toNat*1+1≤7;omega) ?_
  refine sqr 2 rfl (sp rfl (PE.add rfl rfl (by omega)) rfl (pur 1 rfl ?_))
  exact Z6 ⟨k+1,by omega⟩ idH
  have hb:(msk l).testBit k=false:=by
    cases hb:(msk l).testBit k with
    | false=>rfl
    | true=>have:=hasI_iff.2 ((Z1c (fun x h9=>(hx x h9).1) k).1 hb);rw [show Z4f l k=false from hc1] at this;cases this
  refine Z3 (sqr 2 rfl (sp rfl (PE.add rfl rfl (by omega)) rfl (pur 1 rfl ?_)))
  exact Z6 ⟨k+1,by omega⟩ (fun w h9=>by dsimp only;rw [← Zb1 (by omega),hb];exact h9)
  ·
   obtain rfl:k=7:=by omega
   refine Z9 (Za (Za (Zn (Z2 ?_))))
   have hok:=hd.ok
   have hbn:=hok.bins
   have hw7:=hok.wth
   have hm7:(msk l)<2 ^ 7:=Z2n hx
   refine Z2v (ι:={y:List Int×List Nat // RchI d.h.gaps d.cl (msk l) y.1}) (fun y=>⟨[(0,.pointer (some ⟨d.bd,0,none⟩)),(1,.slice a l.length c),(4,.pointer (some ⟨b4,0,none⟩)),(5,.pointer (some ⟨b5,0,none⟩))],mks y.1.2,(b5,cel 135 (Zj y.1.1))::(b4,cel 135 [.int .i64 0,.int .i64 0,.int .i64 0,.int .i64 0,.int .i64 0,.int .i64 0,.int .i64 0])::(mkh y.1.2++H),R⟩) (fun y=>ZiJ y.1.1) ⟨(w00 (msk l) 7,[]),Zit _ _ _⟩ ?_ (fun y=>?_)
   exact Z67 sbA rfl idH
   ·
    obtain ⟨⟨w,mk⟩,hri⟩:=y
    dsimp only at hri ⊢
    refine Z2 (sqt 3 rfl (spL rfl rfl (lhI w Z8z rfl rfl (hri.len)) rfl (alc rfl Z8q rfl (fun b7=>?_))))
    refine Zdg rfl rfl rfl Z9N rfl (by rw [Zb];exact hri.len) rfl (Z0f _) ?_
    refine Z0 (sqt 6 rfl (pur 1 rfl (sp rfl (PE.nilCheck rfl) rfl (sp rfl (PE.fA Z6I rfl) rfl (sp rfl (PE.fA Z0r rfl) rfl (spL rfl rfl (lfB (sz:=4) sc3 rfl) rfl (pur 1 rfl (Z2 ?_))))))))
    refine Z2v (ι:={y:Nat×List Int×List Nat // y.1≤d.h.bins.toNat∧RchI d.h.gaps d.cl (msk l) y.2.1∧Rlx d.h.gaps d.cl w y.2.1 y.1 0}) (fun y=>⟨[(0,.pointer (some ⟨d.bd,0,none⟩)),(1,.slice a l.length c),(4,.pointer (some ⟨b4,0,none⟩)),(5,.pointer (some ⟨b5,0,none⟩)),(7,.pointer (some ⟨b7,0,none⟩)),(27,.int .i64 d.h.bins),(28,.int .i64 y.1.1)],mks y.1.2.2,(b7,cel 135 (Zj w))::(b5,cel 135 (Zj y.1.2.1))::(b4,cel 135 [.int .i64 0,.int .i64 0,.int .i64 0,.int .i64 0,.int .i64 0,.int .i64 0,.int .i64 0])::(mkh y.1.2.2++H),R⟩) (fun y=>d.h.bins.toNat-y.1.1) ⟨(0,w,mk),Nat.zero_le _,hri,Rlx.start _ _ _⟩ ?_ (fun y=>?_)
    exact Z67 sbA rfl idH
    ·
     obtain ⟨⟨k,w',mk2⟩,hk,hri2,hrl⟩:=y
     dsimp only at hk hri2 hrl ⊢
     refine sqt 1 rfl (pur 1 rfl (Z0 ?_))
     refine Z1 rfl ?_ ?_<;>intro hc2<;>try simp only [cS] at hc2
     ·
      refine Z3 (Z0 (Z2 (sqt 3 rfl (pur 1 rfl (alc rfl zl3 rfl (fun b8=>?_))))))
      refine sto rfl rfl rfl cn3 rfl rfl rfl rfl ?_
      refine sqt 3 rfl (pur 1 rfl (spL rfl rfl (lh sc3 rfl rfl) rfl ?_))
      refine cl rfl ZfU rfl rfl (ZiX d.bd k _ _) ?_
      rintro _ _ _ ⟨xd,xb,rfl,rfl,rfl⟩
      refine Z2 ?_
      refine Z0q rfl Zgf (fun c0 bl0 bd0 hcp0 hca0 hcb0 hck0=>?_)
      refine ⟨fun st pend T R'=>st = .ready∧pend=none∧∃ w2,(RchI d.h.gaps d.cl (msk l) w2∧Rlx d.h.gaps d.cl w w2 k d.h.gaps.length)∧T=(bd0,.deferred (some []))::(b8,cel 3 [.int .i64 ((k:Nat):Int)])::(b7,cel 135 (Zj w))::(b5,cel 135 (Zj w2))::(b4,cel 135 [.int .i64 0,.int .i64 0,.int .i64 0,.int .i64 0,.int .i64 0,.int .i64 0,.int .i64 0])::(mkh mk2++H)∧R'=RowsA (some ⟨xb,0,none⟩) 1 [[.int .i64 ((k:Nat):Int)]]::RowsA (some ⟨xd,0,none⟩) 1 [[.pointer (some ⟨d.bd,0,none⟩)]]::R,
        Fn.mono (ZfP d hd k ⟨by omega,by omega⟩ xd xb bl0 (fun i H' R'=>∃ w2,(RchI d.h.gaps d.cl (msk l) w2∧Rlx d.h.gaps d.cl w w2 k i)∧H'=(bl0,lob c0 .ready none)::(bd0,.deferred (some []))::(b8,cel 3 [.int .i64 ((k:Nat):Int)])::(b7,cel 135 (Zj w))::(b5,cel 135 (Zj w2))::(b4,cel 135 [.int .i64 0,.int .i64 0,.int .i64 0,.int .i64 0,.int .i64 0,.int .i64 0,.int .i64 0])::(mkh mk2++H)∧R'=RowsA (some ⟨xb,0,none⟩) 1 [[.int .i64 ((k:Nat):Int)]]::RowsA (some ⟨xd,0,none⟩) 1 [[.pointer (some ⟨d.bd,0,none⟩)]]::R) (fun _ _=>False)
          (fun i H' R' h9=>by obtain ⟨_,_,_,_,rfl⟩:=h9;exact ⟨List.mem_cons_of_mem _ (List.mem_cons_of_mem _ hD.mem),List.mem_cons_of_mem _ (List.mem_cons_of_mem _ hG.mem),by simp,by simp,fun g hg=>List.mem_cons_of_mem _ (List.mem_cons_of_mem _ (sR.sub g hg))⟩)
          (fun i g H' R' hg hn h9=>by obtain ⟨w2,⟨h1,h2⟩,rfl,rfl⟩:=h9;exact ⟨w2,⟨h1,h2.skip hg (hn.imp id fun h3=>by have:=hok.gaps g (List.mem_of_getElem? hg);omega)⟩,rfl,rfl⟩)
          (fun i g q oo H' R' hg hop hinc hI=>?_) _ _ ⟨w',⟨hri2,hrl⟩,rfl,rfl⟩) (fun v H' R' h9=>?_),?_⟩
      rotate_left
      · rcases h9 with ⟨w2,h1,rfl,rfl⟩ | h9
        · exact ⟨.ready,none,_,by simp,.refl _,rfl,rfl,w2,h1,rfl,rfl⟩
        · exact h9.elim
      rotate_left
      obtain ⟨w2,⟨h1,h2⟩,rfl,rfl⟩:=hI
      have hgo:=hok.gaps g (List.mem_of_getElem? hg)
      obtain ⟨v,hv,hv7,hadj,huq,_⟩:=Zei hg hop ⟨by omega,by omega,hgo.2.2⟩ hinc
      rw [hv]
      have hk7:k<7:=by omega
      have hrx:=h1.relax hw7 hm7 hk7 hv7 hadj
      have hak:=h1.at_ k hk7
      have hnn:=Z5i d.h.gaps d.cl (msk l) k
      have hfar:far=1048576:=rfl
      have hl7:=h1.len
      refine Z38 hcp0 hca0 hcb0 hck0 rfl rfl ?_
      refine sqr 1 rfl (pur 1 rfl ?_)
      refine ZA ?_
      refine Z2 ?_
      refine Zd [0,0,2,6,0,16,48,112,240,510,1023,2047] (tks 0 3 (.ld 3 (.ld 4 (.tk 5 (.ld 6 (.tk 7 (.big 8 (.big 9 (.tk 10 (.big 11 .done)))))))))) Zu (by kernel_rfl) ?_
      refine Zo 2 rfl (tk rfl (PE.indexArr Z4w rfl rfl (by omega) (by omega)) rfl (ld rfl rfl (lh sc3 rfl (Z0O (w:=w2) (k:=v) (by omega) (by show 0+((v:Nat):Int).toNat*1=v;omega))) rfl (ld rfl rfl (lh sc3 rfl rfl) rfl (tk rfl (PE.indexArr Z4w rfl rfl (by omega) (by omega)) rfl (ld rfl rfl (lh sc3 rfl (Z0O (w:=w2) (k:=k) (by omega) (by show 0+((k:Nat):Int).toNat*1=k;omega))) rfl (tk rfl (PE.add rfl rfl (by omega)) rfl ?_))))))
      refine bsl (out:=[_]) rfl Z36 zl3 rfl rfl rfl rfl rfl rfl (fun b44=>?_)
      refine bg (fun w hs=>⟨trivial,trivial,(lh sc3 rfl (Z0O (w:=w2) (k:=v) (by omega) (by show 0+((v:Nat):Int).toNat*1=v;omega))) w hs,trivial⟩) ?_
      refine Sy.heap (fun w h9=>St.rows (sz:=1) (rows:=[[.int .i64 (na w2 k+1)]]) (rest:=[]) (h9.pull b44) (by simp)) ?_
      refine clV rfl ZfV rfl rfl (Zbr (na w2 v) (na w2 k+1) (some ⟨b44,0,none⟩) 1 _ _) ?_
      refine bgT (tk rfl (PE.indexArr Z4w rfl rfl (by omega) (by omega)) rfl ?_)
      refine ZU (l':=Zj (w2.set v (min (na w2 v) (na w2 k+1)))) rfl rfl rfl cn3 rfl rfl rfl (Z2Q (by omega) (by show 0+((v:Nat):Int).toNat*1=v;omega)) (by rw [Zb,hl7];show 0+((v:Nat):Int).toNat*1+1≤7;omega) ?_
      refine bgT ?_
      exact Ze (.inl ⟨rfl,_,rfl,_,⟨hrx.1,h2.step hg huq hrx.2.1 hk7 hrx.2.2⟩,rfl,rfl⟩) (fun _ h9=>h9.ftail)
      rintro _ _ _ _ ⟨rfl,rfl,w2,⟨h1,h2⟩,rfl,rfl⟩
      refine Z44 ?_
      refine sqr 2 rfl (sp rfl (PE.add rfl rfl (by omega)) rfl (pur 1 rfl ?_))
      exact Z0p ⟨(k+1,w2,bd0::mk2),by dsimp only;omega,h1,h2.bin⟩ (by dsimp only;omega) sbA rfl (fun w h9=>St.sub ((h9.del b8).perm (ZJ [_] [_,_,_] _)))
     obtain rfl:k=d.h.bins.toNat:=by omega
     refine Z9 (Za (Za (Zn (sqt 3 rfl (spL rfl rfl (lhI w' Z8z rfl rfl (hri2.len)) rfl (spL rfl rfl (lhI w Z8z rfl rfl (hri.len)) rfl (sp rfl (PE.eqlAgg w' w (Z1o 10000 135 true 7 ZhG) ZhJ rfl rfl hri2.len hri.len) rfl ?_)))))))
     refine Z1 rfl ?_ ?_<;>intro hc3<;>try simp only [cS] at hc3
     subst hc3
     have hdone:=Rlx.done (n:=d.h.bins.toNat) (fun g hg=>by have:=hok.gaps g hg;omega) hw7 hm7 hri hrl
     refine sqt 2 rfl (spL rfl rfl (lhI w' Z8z rfl rfl (hri2.len)) rfl ?_)
     refine Zdg rfl rfl rfl Z9N rfl (by rw [Zb];exact hri2.len) rfl (Z0f _) ?_
     refine Z4 ?_
     exact ZR mk2 (H:=(b4,cel 135 (Zj w'))::H) (fun w h9=>((h9.del b7).del b5).perm (List.perm_middle (l₁:=mkh mk2)).symm) rfl (.cons (RV.cell rfl (lhI w' Z8z rfl rfl (hri2.len))) .nil) rfl ⟨by rw [← hdone];rfl,rfl,rfl⟩ (fun w h9=>h9.del b4)
     refine Z3 ?_
     exact Z0p ⟨(w',mk2),hri2⟩ (Zf9 hri hri2 hrl.1 hc3) sbA rfl (fun w h9=>h9.del b7)
end Go.Proofs.YthijcgkicjljhaaGreat.Wv
