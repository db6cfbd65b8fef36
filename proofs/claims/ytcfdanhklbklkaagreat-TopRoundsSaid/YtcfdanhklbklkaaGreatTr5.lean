/- Walks of the functions of the program, and the laws that join them: what the last theorem of this claim needs, in order. -/
import Derived.Test.YtcfdanhklbklkaaGreatTr4
namespace Go.Proofs.YtcfdanhklbklkaaGreat.Wv
set_option linter.unusedSimpArgs false
set_option linter.unusedVariables false
theorem and_zero {a b:Nat}:a&&&b=0↔∀ i,a.testBit i=true→b.testBit i=false:=by
 rw [and0_iff]
 constructor
 · intro h i hi;have:=h i;rw [hi] at this;simpa using this
 · intro h i
   cases hi:a.testBit i with
   | false=>rfl
   | true=>rw [h i hi];rfl
inductive Pl (gs:List Gp) (K sp:Nat):Nat→Nat→Nat→Prop where
 | stay {m c l:Nat} (hl:l<2 ^ gs.length) (hc:l&&&c=0) (hs:cnt gs.length l≤sp) (he:spr gs (c|||l) m=m) (hk:m&&&K=0):Pl gs K sp m c (cnt gs.length l)
 | go {m c l n:Nat} (hl:l<2 ^ gs.length) (hc:l&&&c=0) (hs:cnt gs.length l≤sp) (hne:spr gs (c|||l) m≠m) (hk:spr gs (c|||l) m&&&K=0) (h:Pl gs K sp (spr gs (c|||l) m) (c|||l) n):Pl gs K sp m c (cnt gs.length l+n)
def Lst (P:Nat→Prop) (n:Nat):Prop:=P n∧∀ k,P k→n≤k
theorem Lst.unique {P:Nat→Prop} {m n:Nat} (h:Lst P m) (k:Lst P n):m=n:=Nat.le_antisymm (h.2 _ k.1) (k.2 _ h.1)
def Ins (gs:List Gp) (m c c':Nat):Prop:=∀ (i:Nat) (g:Gp),gs[i]?=some g→c.testBit i≠c'.testBit i→m.testBit g.a.toNat=true∧m.testBit g.b.toNat=true
theorem Ins.spr {gs:List Gp} {m c c':Nat} (h:Ins gs m c c'):spr gs c m=spr gs c' m:=by
 have key:∀ {c c':Nat},Ins gs m c c'→∀ v,(Go.Proofs.YtcfdanhklbklkaaGreat.Wv.spr gs c m).testBit v=true→(Go.Proofs.YtcfdanhklbklkaaGreat.Wv.spr gs c' m).testBit v=true:=by
   intro c c' h v hv
   rcases spr_test.1 hv with h1 | ⟨u,h1,i,g,h2,h3,h4⟩
   · exact Z0V h1
   · by_cases e:c.testBit i=c'.testBit i
     · exact spr_test.2 (.inr ⟨u,h1,i,g,h2,by rw [← e];exact h3,h4⟩)
     · obtain ⟨h5,h6⟩:=h i g h2 e
       refine Z0V ?_
       rcases h4 with ⟨_,rfl⟩ | ⟨_,rfl⟩
       · exact h6
       · exact h5
 refine Z0r fun v=>?_
 rw [Bool.eq_iff_iff]
 exact ⟨key h v,key (fun i g h1 h2=>h i g h1 (Ne.symm h2)) v⟩
theorem Ins.mono {gs:List Gp} {m m' c c':Nat} (h:Ins gs m c c') (hm:∀ v,m.testBit v=true→m'.testBit v=true):Ins gs m' c c':=fun i g h1 h2=>⟨hm _ (h i g h1 h2).1,hm _ (h i g h1 h2).2⟩
theorem Ins.or {gs:List Gp} {m c c' l:Nat} (h:Ins gs m c c'):Ins gs m (c|||l) (c'|||l):=fun i g h1 h2=>h i g h1 fun e=>h2 (by rw [Nat.testBit_or,Nat.testBit_or,e])
theorem ZeX {n l l':Nat} (h:∀ i,l'.testBit i=true→l.testBit i=true):cnt n l'≤cnt n l:=Zcw fun k _=>h k
theorem Pl.ins {gs:List Gp} {K sp m c n:Nat} (h:Pl gs K sp m c n):∀ {c':Nat},Ins gs m c c'→(∀ i,c'.testBit i=true→c.testBit i=true)→Pl gs K sp m c' n:=by
 induction h with
 | @stay m c l hl hc hs he hk =>
   intro c' hi hsub
   refine .stay hl (and_zero.2 fun i hi2=>?_) hs (by rw [← hi.or.spr];exact he) hk
   cases hb:c'.testBit i with
   | false=>rfl
   | true=>have:=and_zero.1 hc i hi2;rw [hsub i hb] at this;cases this
 | @go m c l n hl hc hs hne hk h ih =>
   intro c' hi hsub
   have e:=hi.or (l:=l) |>.spr
   refine .go hl (and_zero.2 fun i hi2=>?_) hs (by rw [← e];exact hne) (by rw [← e];exact hk) ?_
   · cases hb:c'.testBit i with
     | false=>rfl
     | true=>have:=and_zero.1 hc i hi2;rw [hsub i hb] at this;cases this
   · rw [← e]
     refine ih (hi.or.mono fun v hv=>Z0V hv) fun i h1=>?_
     rw [Nat.testBit_or,Bool.or_eq_true] at h1 ⊢
     exact h1.imp_left (hsub i)
def usf (gs:List Gp) (m c:Nat):Nat→Bool:=fun i=>match gs[i]? with
 | some g=>!c.testBit i&&!(m.testBit g.a.toNat&&m.testBit g.b.toNat)
 | none=>false
def msF (p:Nat→Bool):Nat→Nat
 | 0=>0
 | n+1=>msF p n|||(bif p n then 2 ^ n else 0)
theorem Z5z (p:Nat→Bool) (j:Nat):∀ n,(msF p n).testBit j=(decide (j<n)&&p j)
 | 0=>by simp [msF]
 | n+1=>by
   unfold msF
   rw [Nat.testBit_or,Z5z p j n]
   by_cases e:j=n
   · subst e
     cases p j<;>simp
   · rw [show decide (j<n+1)=decide (j<n) from decide_eq_decide.2 (by omega)]
     cases p n with
     | false=>simp
     | true=>rw [cond_true,Nat.testBit_two_pow,decide_eq_false (show ¬ n=j by omega),Bool.or_false]
def Z07 (gs:List Gp) (m c:Nat):Nat:=msF (usf gs m c) gs.length
theorem usfM_test {gs:List Gp} {m c i:Nat}:(Z07 gs m c).testBit i=true↔∃ g,gs[i]?=some g∧c.testBit i=false∧¬ (m.testBit g.a.toNat=true∧m.testBit g.b.toNat=true):=by
 unfold Z07
 rw [Z5z,Bool.and_eq_true,decide_eq_true_eq]
 unfold usf
 constructor
 · rintro ⟨h1,h2⟩
   rw [List.getElem?_eq_getElem h1] at h2 ⊢
   dsimp only at h2
   rw [Bool.and_eq_true,Bool.not_eq_true',Bool.not_eq_true',Bool.and_eq_false_iff] at h2
   exact ⟨_,rfl,h2.1,fun h=>by rcases h2.2 with h3 | h3<;>simp_all⟩
 · rintro ⟨g,h1,h2,h3⟩
   refine ⟨(List.getElem?_eq_some_iff.1 h1).1,?_⟩
   rw [h1]
   dsimp only
   rw [h2]
   cases ha:m.testBit g.a.toNat<;>cases hb:m.testBit g.b.toNat<;>simp_all
theorem Pl.cons_inv {gs:List Gp} {K sp m c n:Nat} (h:Pl gs K sp m c n):∃ l,l<2 ^ gs.length∧l&&&c=0∧cnt gs.length l≤sp∧spr gs (c|||l) m&&&K=0∧((spr gs (c|||l) m=m∧n=cnt gs.length l)∨(spr gs (c|||l) m≠m∧∃ k,n=cnt gs.length l+k∧Pl gs K sp (spr gs (c|||l) m) (c|||l) k)):=by
 cases h with
 | @stay _ _ l hl hc hs he hk=>exact ⟨l,hl,hc,hs,by rw [he];exact hk,.inl ⟨he,rfl⟩⟩
 | @go _ _ l n hl hc hs hne hk h=>exact ⟨l,hl,hc,hs,hk,.inr ⟨hne,n,rfl,h⟩⟩
theorem Pl.of {gs:List Gp} {K sp m c l n k:Nat} (hl:l<2 ^ gs.length) (hc:l&&&c=0) (hs:cnt gs.length l≤sp) (hk:spr gs (c|||l) m&&&K=0) (h:(spr gs (c|||l) m=m∧n=cnt gs.length l)∨(spr gs (c|||l) m≠m∧n=cnt gs.length l+k∧Pl gs K sp (spr gs (c|||l) m) (c|||l) k)):Pl gs K sp m c n:=by
 rcases h with ⟨h1,rfl⟩ | ⟨h1,rfl,h2⟩
 · exact .stay hl hc hs h1 (by rw [h1] at hk;exact hk)
 · exact .go hl hc hs h1 hk h2
theorem Pl.first {gs:List Gp} {K sp m c n:Nat} (h:Pl gs K sp m c n):∃ l n',n'≤n∧l<2 ^ gs.length∧(∀ i,l.testBit i=true→(Z07 gs m c).testBit i=true)∧cnt gs.length l≤sp∧spr gs (c|||l) m&&&K=0∧((spr gs (c|||l) m=m∧n'=cnt gs.length l)∨(spr gs (c|||l) m≠m∧∃ k,n'=cnt gs.length l+k∧Pl gs K sp (spr gs (c|||l) m) (c|||l) k)):=by
 obtain ⟨l,hl,hc,hs,hk,h1⟩:=h.cons_inv
 have hsub:∀ i,(l&&&Z07 gs m c).testBit i=true→l.testBit i=true:=fun i hi=>by rw [Nat.testBit_and,Bool.and_eq_true] at hi;exact hi.1
 have hins:Ins gs m (c|||l) (c|||(l&&&Z07 gs m c)):=fun i g hg hne=>by
   rw [Nat.testBit_or,Nat.testBit_or,Nat.testBit_and] at hne
   cases hb:(Z07 gs m c).testBit i with
   | true=>rw [hb] at hne;simp at hne
   | false =>
     rw [hb] at hne
     have hli:l.testBit i=true:=by cases h2:l.testBit i with
       | true=>rfl
       | false=>rw [h2] at hne;simp at hne
     have hci:c.testBit i=false:=and_zero.1 hc i hli
     apply Classical.byContradiction
     intro hnb
     rw [usfM_test.2 ⟨g,hg,hci,hnb⟩] at hb;cases hb
 have e:=hins.spr
 have hcs:=ZeX (n:=gs.length) hsub
 refine ⟨l&&&Z07 gs m c,?_⟩
 rcases h1 with ⟨h2,rfl⟩ | ⟨h2,k,rfl,h3⟩
 · exact ⟨_,hcs,Nat.lt_of_le_of_lt Nat.and_le_left hl,fun i hi=>by rw [Nat.testBit_and,Bool.and_eq_true] at hi;exact hi.2,Nat.le_trans hcs hs,by rw [← e];exact hk,.inl ⟨by rw [← e];exact h2,rfl⟩⟩
 · refine ⟨cnt gs.length (l&&&Z07 gs m c)+k,by omega,Nat.lt_of_le_of_lt Nat.and_le_left hl,fun i hi=>by rw [Nat.testBit_and,Bool.and_eq_true] at hi;exact hi.2,Nat.le_trans hcs hs,by rw [← e];exact hk,.inr ⟨by rw [← e];exact h2,k,rfl,?_⟩⟩
   rw [← e]
   refine h3.ins (hins.mono fun v hv=>Z0V hv) fun i hi=>?_
   rw [Nat.testBit_or,Bool.or_eq_true] at hi ⊢
   exact hi.imp_right (hsub i)
def Stp (gs:List Gp) (op:Nat→Bool) (f:Nat→Int) (u i v:Nat):Prop:=∃ g,gs[i]?=some g∧op i=true∧((g.a.toNat=u∧g.b.toNat=v∧f i<1)∨(g.b.toNat=u∧g.a.toNat=v ∧ -1<f i))
structure Srch (gs:List Gp) (op:Nat→Bool) (f:Nat→Int) (S K:Nat) (V:List (Nat×Int)):Prop where
 nd:(V.map (·.1)).Nodup
 lt:∀ x∈V,x.1<7
 from_:∀ u,S.testBit u=true→(u,-1)∈V
 par:∀ q x,V[q]?=some x→(x.2=(-1:Int)∧S.testBit x.1=true)∨(S.testBit x.1=false∧∃ (i p:Nat) (y:Nat×Int),x.2=(i:Int)∧p<q∧V[p]?=some y∧K.testBit y.1=false∧Stp gs op f y.1 i x.1)
theorem Srch.few {gs:List Gp} {op:Nat→Bool} {f:Nat→Int} {S K:Nat} {V:List (Nat×Int)} (h:Srch gs op f S K V):V.length≤7:=by
 have h2:=h.nd.length_le_of_subset (l₂:=List.range 7) fun v hv=>by
   obtain ⟨x,hx,rfl⟩:=List.mem_map.1 hv
   exact List.mem_range.2 (h.lt x hx)
 simpa using h2
theorem Srch.start {gs:List Gp} {op:Nat→Bool} {f:Nat→Int} {S K:Nat} {l:List Nat} (hn:l.Nodup) (hl:∀ u∈l,u<7) (hS:∀ u,S.testBit u=true↔u∈l):Srch gs op f S K (l.map fun u=>(u,-1)):=by
 refine ⟨by rw [List.map_map];simpa [Function.comp_def] using hn,fun x hx=>?_,fun u hu=>List.mem_map.2 ⟨u,(hS u).1 hu,rfl⟩,fun q x hx=>?_⟩
 · obtain ⟨u,hu,rfl⟩:=List.mem_map.1 hx;exact hl u hu
 · obtain ⟨u,hu,rfl⟩:=List.mem_map.1 (List.mem_of_getElem? hx)
   exact .inl ⟨rfl,(hS u).2 hu⟩
theorem Srch.more {gs:List Gp} {op:Nat→Bool} {f:Nat→Int} {S K:Nat} {V:List (Nat×Int)} (h:Srch gs op f S K V) {j i v:Nat} {y:Nat×Int} (hj:V[j]?=some y) (hy:K.testBit y.1=false) (hs:Stp gs op f y.1 i v) (hv:v<7) (hn:v∉V.map (·.1)):Srch gs op f S K (V++[(v,(i:Int))]):=by
 have hjl:=(List.getElem?_eq_some_iff.1 hj).1
 refine ⟨?_,fun x hx=>?_,fun u hu=>List.mem_append_left _ (h.from_ u hu),fun q x hx=>?_⟩
 · rw [List.map_append]
   exact List.nodup_append.2 ⟨h.nd,by simp,fun a ha b hb=>by
     obtain rfl:b=v:=by simpa using hb
     intro e;exact hn (e▸ha)⟩
 · rcases List.mem_append.1 hx with h1 | h1
   · exact h.lt x h1
   · rw [List.mem_singleton.1 h1];exact hv
 · rcases Nat.lt_or_ge q V.length with h1 | h1
   · rw [List.getElem?_append_left h1] at hx
     rcases h.par q x hx with h2 | ⟨h2,i',p,z,h3,h4,h5,h6,h7⟩
     · exact .inl h2
     · exact .inr ⟨h2,i',p,z,h3,h4,by rw [List.getElem?_append_left (by omega)];exact h5,h6,h7⟩
   · rw [List.getElem?_append_right h1] at hx
     have hq:q=V.length:=by
       rcases Nat.eq_zero_or_pos (q-V.length) with h2 | h2
       · omega
       · rw [List.getElem?_eq_none (by simp;omega)] at hx;cases hx
     subst hq
     simp only [Nat.sub_self,List.getElem?_cons_zero,Option.some.injEq] at hx
     subst hx
     refine .inr ⟨?_,i,j,y,rfl,hjl,by rw [List.getElem?_append_left hjl];exact hj,hy,hs⟩
     cases hS:S.testBit v with
     | false=>rfl
     | true=>exact absurd (List.mem_map.2 ⟨_,h.from_ v hS,rfl⟩) hn
structure Back (gs:List Gp) (op:Nat→Bool) (f:Nat→Int) (S K:Nat) (V:List (Nat×Int)) (w q u:Nat) (l:List (Nat×Nat)):Prop where
 at_:∃ z,V[q]?=some (u,z)
 way:Way gs op f S K u l w
 nd:(l.map (·.1)).Nodup
 pos:∀ x∈l,∃ q',q<q'∧V[q']?=some (x.2,(x.1:Int))
theorem Back.start {gs:List Gp} {op:Nat→Bool} {f:Nat→Int} {S K:Nat} {V:List (Nat×Int)} {w q:Nat} {z:Int} (h:V[q]?=some (w,z)):Back gs op f S K V w q w []:=⟨⟨z,h⟩,.nil w,by simp,by simp⟩
theorem Z8K {V:List (Nat×Int)} (hn:(V.map (·.1)).Nodup) {q q' v:Nat} {z z':Int} (h:V[q]?=some (v,z)) (h':V[q']?=some (v,z')):q=q':=by
 have h1:(V.map (·.1))[q]?=some v:=by rw [List.getElem?_map,h];rfl
 have h2:(V.map (·.1))[q']?=some v:=by rw [List.getElem?_map,h'];rfl
 obtain ⟨k1,e1⟩:=List.getElem?_eq_some_iff.1 h1
 obtain ⟨k2,e2⟩:=List.getElem?_eq_some_iff.1 h2
 exact (List.getElem_inj hn).1 (e1.trans e2.symm)
theorem Back.more {gs:List Gp} {op:Nat→Bool} {f:Nat→Int} {S K:Nat} {V:List (Nat×Int)} (hs:Srch gs op f S K V) (hab:∀ (i:Nat) (g:Gp),gs[i]?=some g→g.a.toNat≠g.b.toNat) {w q u:Nat} {z:Int} {l:List (Nat×Nat)} (h:Back gs op f S K V w q u l) (hz:V[q]?=some (u,z)) (hne:z ≠ -1):∃ (i p y:Nat) (g:Gp),z=i∧p<q∧gs[i]?=some g∧((g.a.toNat=y∧g.b.toNat=u)∨(g.b.toNat=y∧g.a.toNat=u))∧Back gs op f S K V w p y ((i,u)::l):=by
 rcases hs.par q _ hz with ⟨h1,_⟩ | ⟨h1,i,p,⟨y,zy⟩,h2,h3,h4,h5,g,h6,h7,h8⟩
 · exact absurd h1 hne
 · dsimp only at h1 h2 h5 h8
   refine ⟨i,p,y,g,h2,h3,h6,h8.imp (fun h=>⟨h.1,h.2.1⟩) (fun h=>⟨h.1,h.2.1⟩),⟨⟨zy,h4⟩,.cons h6 h7 h5 h1 h8 h.way,?_,fun x hx=>?_⟩⟩
   · rw [List.map_cons,List.nodup_cons]
     refine ⟨fun hm=>?_,h.nd⟩
     obtain ⟨x,hx,e⟩:=List.mem_map.1 hm
     obtain ⟨q',h9,h10⟩:=h.pos x hx
     rcases hs.par q' _ h10 with ⟨h11,_⟩ | ⟨_,i',p',⟨y',zy'⟩,h12,h13,h14,_,g',h15,_,h16⟩
     · dsimp only at h11;omega
     · dsimp only at h12 h16
       have hi:i'=i:=by omega
       subst hi
       rw [h6] at h15
       obtain rfl:=Option.some.inj h15
       have hne:=hab i' g h6
       have hvu:x.2≠u:=fun e2=>by
         have:=Z8K hs.nd hz (e2▸h10)
         omega
       have hvy:x.2=y:=by
         rcases h8 with ⟨k1,k2,_⟩ | ⟨k1,k2,_⟩<;>rcases h16 with ⟨k3,k4,_⟩ | ⟨k3,k4,_⟩<;>omega
       have:=Z8K hs.nd h4 (hvy▸h10)
       omega
   · rcases List.mem_cons.1 hx with rfl | hx
     · exact ⟨q,h3,by rw [hz,h2]⟩
     · obtain ⟨q',h9,h10⟩:=h.pos x hx
       exact ⟨q',by omega,h10⟩
theorem Back.stop {gs:List Gp} {op:Nat→Bool} {f:Nat→Int} {S K:Nat} {V:List (Nat×Int)} (hs:Srch gs op f S K V) {w q u:Nat} {l:List (Nat×Nat)} (h:Back gs op f S K V w q u l) (hz:V[q]?=some (u,-1)) (hw:K.testBit w=true):WayK gs op f S K u l w:=by
 rcases hs.par q _ hz with ⟨_,h1⟩ | ⟨_,i,p,y,h2,_⟩
 · exact ⟨h.way,h.nd,h1,hw⟩
 · dsimp only at h2;omega
def Z22 (V:List (Nat×Int)):Nat:=V.foldl (fun n x=>n|||2 ^ x.1) 0
theorem ZaY (V:List (Nat×Int)) (n v:Nat):(V.foldl (fun n x=>n|||2 ^ x.1) n).testBit v=(n.testBit v||decide (v∈V.map (·.1))):=by
 induction V generalizing n with
 | nil=>simp
 | cons x V ih =>
   rw [List.foldl_cons,ih,Nat.testBit_or,Nat.testBit_two_pow,List.map_cons,Bool.or_assoc]
   congr 1
   rw [Bool.eq_iff_iff]
   simp only [Bool.or_eq_true,decide_eq_true_eq,List.mem_cons]
   exact or_congr ⟨fun h=>h.symm,fun h=>h.symm⟩ Iff.rfl
theorem Z0t (V:List (Nat×Int)) (v:Nat):(Z22 V).testBit v=true↔v∈V.map (·.1):=by
 unfold Z22;rw [ZaY];simp
theorem Srch.met_lt {gs:List Gp} {op:Nat→Bool} {f:Nat→Int} {S K:Nat} {V:List (Nat×Int)} (h:Srch gs op f S K V):Z22 V<2 ^ 7:=Z0a fun v hv=>by
 obtain ⟨x,hx,rfl⟩:=List.mem_map.1 ((Z0t V v).1 hv)
 exact h.lt x hx
structure Shn (gs:List Gp) (op:Nat→Bool) (f:Nat→Int) (S K:Nat) (V:List (Nat×Int)):Prop where
 s:Srch gs op f S K V
 no:∀ x∈V,K.testBit x.1=false
 cl:∀ u v i,u∈V.map (·.1)→Stp gs op f u i v→v∈V.map (·.1)
theorem Shn.sub {gs:List Gp} {op:Nat→Bool} {f:Nat→Int} {S K:Nat} {V:List (Nat×Int)} (h:Shn gs op f S K V):(∀ v,S.testBit v=true→(Z22 V).testBit v=true)∧∀ v,K.testBit v=true→(Z22 V).testBit v=false:=by
 refine ⟨fun v hv=>(Z0t V v).2 (List.mem_map.2 ⟨_,h.s.from_ v hv,rfl⟩),fun v hv=>?_⟩
 cases hm:(Z22 V).testBit v with
 | false=>rfl
 | true =>
   obtain ⟨x,hx,rfl⟩:=List.mem_map.1 ((Z0t V v).1 hm)
   rw [h.no x hx] at hv;cases hv
theorem Shn.full {gs:List Gp} {f:Nat→Int} {S K:Nat} {V:List (Nat×Int)} (h:Shn gs (fun _=>true) f S K V) (hf:Flw f S K gs):Z1l f S gs=(cutM (Z22 V) gs).length:=by
 obtain ⟨h1,h2⟩:=h.sub
 rw [← Z8i hf.cons h.s.met_lt h1 h2,← Z5i]
 refine Zax hf.one fun i g hg=>⟨fun h3 h4=>?_,fun h3 h4=>?_⟩
 · rcases Int.lt_or_le (f i) 1 with h5 | h5
   · have:=(Z0t V _).2 (h.cl _ _ i ((Z0t V _).1 h3) ⟨g,hg,rfl,.inl ⟨rfl,rfl,h5⟩⟩)
     rw [h4] at this;cases this
   · exact h5
 · rcases Int.lt_or_le (-1) (f i) with h5 | h5
   · have:=(Z0t V _).2 (h.cl _ _ i ((Z0t V _).1 h3) ⟨g,hg,rfl,.inr ⟨rfl,rfl,h5⟩⟩)
     rw [h4] at this;cases this
   · exact h5
structure Two (gs:List Gp) (S K:Nat):Prop where
 w:Wth gs 7
 ab:∀ (i:Nat) (g:Gp),gs[i]?=some g→g.a.toNat≠g.b.toNat
 s:S<2 ^ 7
 k:K<2 ^ 7
 no:∀ v,S.testBit v=true→K.testBit v=false
theorem Z4L (n m:Nat):((List.range n).filter fun i=>m.testBit i).length=cnt n m:=by unfold cnt;rw [List.countP_eq_length_filter]
def Cut (gs:List Gp) (S K:Nat) (m:Nat):Prop:=Lst (fun n=>∃ C,C<2 ^ gs.length∧Shut gs C S K∧cnt gs.length C=n) m
theorem Zaj (X:Nat) (gs:List Gp):msk (cutM X gs)<2 ^ gs.length:=Z3n fun j hj=>by
 obtain ⟨i,g,h1,_,rfl⟩:=cutM_mem.1 hj
 have:=(List.getElem?_eq_some_iff.1 h1).1;omega
theorem Z86 (X:Nat) (gs:List Gp):cnt gs.length (msk (cutM X gs))=(cutM X gs).length:=by
 have e:∀ i,(msk (cutM X gs)).testBit i=match gs[i]? with | some g=>crs X g | none=>false:=fun i=>by
   rw [Bool.eq_iff_iff,ZN (fun j hj=>by obtain ⟨q,_,_,_,rfl⟩:=cutM_mem.1 hj;omega),cutM_mem]
   constructor
   · rintro ⟨q,g,h1,h2,e⟩
     obtain rfl:i=q:=by omega
     rw [h1];exact h2
   · intro h
     cases hg:gs[i]? with
     | none=>rw [hg] at h;cases h
     | some g=>rw [hg] at h;exact ⟨i,g,hg,h,rfl⟩
 unfold cutM
 rw [List.length_map,← Z4L]
 congr 1
 refine List.filter_congr fun i _=>?_
 have:=e i
 unfold cutM at this
 exact this
theorem Shn.cut {gs:List Gp} {f:Nat→Int} {S K:Nat} {V:List (Nat×Int)} (ht:Two gs S K) (h:Shn gs (fun _=>true) f S K V) (hf:Flw f S K gs):Cut gs S K (cutM (Z22 V) gs).length∧Shut gs (msk (cutM (Z22 V) gs)) S K:=by
 obtain ⟨h1,h2⟩:=h.sub
 have hs:=Zcy (gs:=gs) h1 h2
 refine ⟨⟨⟨_,Zaj _ _,hs,Z86 _ _⟩,?_⟩,hs⟩
 rintro n ⟨C,hC,h3,rfl⟩
 have h4:=ZfL ht.w ht.s hf.one hf.cons h3
 rw [h.full hf,Z4L] at h4
 omega
theorem Shut.mono {gs:List Gp} {C S S' K:Nat} (h:Shut gs C S' K) (hs:∀ v,S.testBit v=true→S'.testBit v=true):Shut gs C S K:=fun t v hv=>h t v (ZaV hs hv)
theorem Z8x (gs:List Gp) (cl m:Nat):∀ t,lv gs cl (spr gs cl m) t=lv gs cl m (t+1)
 | 0=>rfl
 | t+1=>by show spr gs cl (lv gs cl (spr gs cl m) t)=spr gs cl (lv gs cl m (t+1));rw [Z8x gs cl m t]
theorem Shut.next {gs:List Gp} {C S K:Nat} (h:Shut gs C S K):Shut gs C (spr gs C S) K:=fun t v hv=>h (t+1) v (by rw [← Z8x];exact hv)
theorem Z1X {gs:List Gp} {C S K:Nat} (h:Shut gs C S K):S&&&K=0:=and_zero.2 fun v hv=>h 0 v hv
theorem cnt_zero (n:Nat):cnt n 0=0:=by unfold cnt;simp
theorem Pl.free {gs:List Gp} {K sp:Nat} (hw:Wth gs 7):∀ (d m c:Nat),m<2 ^ 7→7-cnt 7 m≤d→Shut gs c m K→Pl gs K sp m c 0:=by
 intro d
 induction d with
 | zero =>
   intro m c hm hd hs
   have e:spr gs c m=m:=Classical.byContradiction fun hne=>by
     have:=Z5M hw hm hne
     have:=Z6g 7 (spr gs c m)
     omega
   have:=Pl.stay (gs:=gs) (K:=K) (sp:=sp) (m:=m) (c:=c) (l:=0) (Nat.two_pow_pos _) (Nat.zero_and _) (by rw [cnt_zero];omega) (by rw [Nat.or_zero];exact e) (Z1X hs)
   rwa [cnt_zero] at this
 | succ d ih =>
   intro m c hm hd hs
   by_cases e:spr gs c m=m
   · have:=Pl.stay (gs:=gs) (K:=K) (sp:=sp) (m:=m) (c:=c) (l:=0) (Nat.two_pow_pos _) (Nat.zero_and _) (by rw [cnt_zero];omega) (by rw [Nat.or_zero];exact e) (Z1X hs)
     rwa [cnt_zero] at this
   · have h1:=Z5M hw hm e
     have h2:=ih (spr gs c m) c (Z4Y hw hm) (by omega) hs.next
     have:=Pl.go (gs:=gs) (K:=K) (sp:=sp) (m:=m) (c:=c) (l:=0) (n:=0) (Nat.two_pow_pos _) (Nat.zero_and _) (by rw [cnt_zero];omega) (by rw [Nat.or_zero];exact e) (by rw [Nat.or_zero];exact Z1X hs.next) (by rw [Nat.or_zero];exact h2)
     rwa [cnt_zero] at this
theorem Pl.once {gs:List Gp} {K sp S C:Nat} (hw:Wth gs 7) (hS:S<2 ^ 7) (hC:C<2 ^ gs.length) (hs:Shut gs C S K) (hn:cnt gs.length C≤sp):Pl gs K sp S 0 (cnt gs.length C):=by
 by_cases e:spr gs C S=S
 · exact .stay hC (Nat.and_zero _) hn (by rw [Nat.zero_or];exact e) (Z1X hs)
 · have h2:=Pl.free (sp:=sp) hw 7 (spr gs C S) C (Z4Y hw hS) (by omega) hs.next
   have:=Pl.go (gs:=gs) (K:=K) (sp:=sp) (m:=S) (c:=0) (l:=C) (n:=0) hC (Nat.and_zero _) hn (by rw [Nat.zero_or];exact e) (by rw [Nat.zero_or];exact Z1X hs.next) (by rw [Nat.zero_or];exact h2)
   rwa [Nat.add_zero] at this
theorem Z85 {n a b:Nat} (h:a&&&b=0):cnt n (a|||b)=cnt n a+cnt n b:=by
 unfold cnt
 have h:=and_zero.1 h
 induction (List.range n) with
 | nil=>rfl
 | cons x l ih =>
   simp only [List.countP_cons,ih,Nat.testBit_or]
   have:=h x
   cases ha:a.testBit x<;>cases hb:b.testBit x<;>simp_all<;>omega
theorem Zij {a b n:Nat} (ha:a<2 ^ n) (hb:b<2 ^ n):a|||b<2 ^ n:=Nat.or_lt_two_pow ha hb
theorem Pl.shut {gs:List Gp} {K sp m c n:Nat} (h:Pl gs K sp m c n):c<2 ^ gs.length→∃ C,C<2 ^ gs.length∧(∀ i,c.testBit i=true→C.testBit i=true)∧cnt gs.length C=cnt gs.length c+n∧Shut gs C m K:=by
 induction h with
 | @stay m c l hl hc hs he hk =>
   intro hcl
   refine ⟨c|||l,Zij hcl hl,fun i hi=>by rw [Nat.testBit_or,hi];rfl,Z85 (by rw [Nat.and_comm];exact hc),fun t v hv=>?_⟩
   have:lv gs (c|||l) m t=m:=by
     have:=Z4c (gs:=gs) (cl:=c|||l) (m:=m) (t:=0) he t
     rwa [Nat.zero_add] at this
   rw [this] at hv
   exact and_zero.1 hk v hv
 | @go m c l n hl hc hs hne hk h ih =>
   intro hcl
   obtain ⟨C,h1,h2,h3,h4⟩:=ih (Zij hcl hl)
   refine ⟨C,h1,fun i hi=>h2 i (by rw [Nat.testBit_or,hi];rfl),?_,h4.mono fun v hv=>Z0V hv⟩
   rw [h3,Z85 (by rw [Nat.and_comm];exact hc)];omega
theorem Pl.cut {gs:List Gp} {K sp S n m:Nat} (h:Pl gs K sp S 0 n) (hc:Cut gs S K m):m≤n:=by
 obtain ⟨C,h1,_,h3,h4⟩:=h.shut (Nat.two_pow_pos _)
 rw [cnt_zero,Nat.zero_add] at h3
 exact hc.2 n ⟨C,h1,h4,h3⟩
theorem Cut.plan {gs:List Gp} {K sp S m:Nat} (hw:Wth gs 7) (hS:S<2 ^ 7) (hc:Cut gs S K m) (hm:m≤sp):Lst (Pl gs K sp S 0) m:=by
 refine ⟨?_,fun n hn=>hn.cut hc⟩
 obtain ⟨⟨C,h1,h2,h3⟩,_⟩:=hc
 have:=Pl.once (sp:=sp) hw hS h1 h2 (by omega)
 rwa [h3] at this
theorem Z9B (a b:Nat):(a&&&b)%2=(a%2)*(b%2):=by
 have h:=Nat.testBit_and a b 0
 rw [Nat.testBit_zero,Nat.testBit_zero,Nat.testBit_zero] at h
 rcases Nat.mod_two_eq_zero_or_one a with ha | ha<;>rcases Nat.mod_two_eq_zero_or_one b with hb | hb<;>rcases Nat.mod_two_eq_zero_or_one (a&&&b) with hc | hc<;>rw [ha,hb,hc] at h<;>simp_all
theorem Z5P:∀ (n:Nat) {all now s:Nat},all<2 ^ n→now&&&all=now→s&&&all=s→s<now→s≤(now-1)&&&all
 | 0,all,now,s,h,h1,_,h3=>by
   obtain rfl:all=0:=by simpa using h
   rw [Nat.and_zero] at h1;omega
 | n+1,all,now,s,h,h1,h2,h3=>by
   have a1:=congrArg (· / 2) h1
   have a2:=congrArg (· / 2) h2
   have b1:=congrArg (· % 2) h1
   have b2:=congrArg (· % 2) h2
   simp only [Nat.and_div_two,Z9B] at a1 a2 b1 b2
   have hA:all / 2<2 ^ n:=by rw [Nat.pow_succ] at h;omega
   have e:(now-1)&&&all=2*(((now-1)&&&all) / 2)+((now-1)&&&all)%2:=by omega
   rw [e,Nat.and_div_two,Z9B]
   rcases Nat.mod_two_eq_zero_or_one now with hn | hn
   · have ih:=Z5P n hA a1 a2 (by omega)
     have e2:(now-1) / 2=now / 2-1:=by omega
     have e3:(now-1)%2=1:=by omega
     rw [e2,e3]
     have:s%2≤all%2:=by rw [← b2];rcases Nat.mod_two_eq_zero_or_one s with h4 | h4<;>rw [h4]<;>omega
     omega
   · have e2:(now-1) / 2=now / 2:=by omega
     have e3:(now-1)%2=0:=by omega
     rw [e2,e3,a1];omega
theorem Pl.few {gs:List Gp} {K sp m c n:Nat} (h:Pl gs K sp m c n):n+cnt gs.length c≤gs.length:=by
 induction h with
 | @stay m c l _ hc _ _ _ =>
   have:=Z85 (n:=gs.length) hc
   have:=Z6g gs.length (l|||c)
   omega
 | @go m c l n _ hc _ _ _ _ ih =>
   have:=Z85 (n:=gs.length) hc
   rw [Nat.or_comm] at this
   omega
theorem Lst.ex {P:Nat→Prop}:∀ {n:Nat},P n→∃ m,Lst P m∧m≤n:=by
 intro n
 induction n using Nat.strongRecOn with
 | ind n ih =>
   intro h
   by_cases hx:∃ k,k<n∧P k
   · obtain ⟨k,h1,h2⟩:=hx
     obtain ⟨m,h3,h4⟩:=ih k h1 h2
     exact ⟨m,h3,by omega⟩
   · exact ⟨n,⟨h,fun k hk=>Nat.le_of_not_lt fun hl=>hx ⟨k,hl,hk⟩⟩,Nat.le_refl _⟩
def Cnd (gs:List Gp) (K sp m c l n:Nat):Prop:=(∀ i,l.testBit i=true→(Z07 gs m c).testBit i=true)∧cnt gs.length l≤sp∧spr gs (c|||l) m&&&K=0∧((spr gs (c|||l) m=m∧n=cnt gs.length l)∨(spr gs (c|||l) m≠m∧∃ k,n=cnt gs.length l+k∧Lst (Pl gs K sp (spr gs (c|||l) m) (c|||l)) k))
theorem Cnd.unique {gs:List Gp} {K sp m c l n n':Nat} (h:Cnd gs K sp m c l n) (h':Cnd gs K sp m c l n'):n=n':=by
 rcases h.2.2.2 with ⟨h1,h2⟩ | ⟨h1,k,h2,h3⟩<;>rcases h'.2.2.2 with ⟨h4,h5⟩ | ⟨h4,k',h5,h6⟩
 · omega
 · exact absurd h1 h4
 · exact absurd h4 h1
 · rw [h2,h5,h3.unique h6]
theorem Cnd.pl {gs:List Gp} {K sp m c l n:Nat} (h:Cnd gs K sp m c l n):Pl gs K sp m c n:=by
 obtain ⟨h1,h2,h3,h4⟩:=h
 have hl:l<2 ^ gs.length:=Z0a fun i hi=>by
   obtain ⟨g,h5,_⟩:=usfM_test.1 (h1 i hi)
   exact (List.getElem?_eq_some_iff.1 h5).1
 have hc:l&&&c=0:=and0_iff.2 fun i=>by
   cases hi:l.testBit i with
   | false=>rfl
   | true =>
     obtain ⟨g,_,h6,_⟩:=usfM_test.1 (h1 i hi)
     rw [h6];rfl
 rcases h4 with ⟨h5,h6⟩ | ⟨h5,k,h6,h7⟩
 · exact Pl.of (k:=0) hl hc h2 h3 (.inl ⟨h5,h6⟩)
 · exact Pl.of hl hc h2 h3 (.inr ⟨h5,h6,h7.1⟩)
theorem Cnd.sub {gs:List Gp} {K sp m c l n:Nat} (h:Cnd gs K sp m c l n):l&&&Z07 gs m c=l:=Z0r fun i=>by
 rw [Nat.testBit_and]
 cases hi:l.testBit i with
 | false=>rfl
 | true=>rw [h.1 i hi];rfl
def Z4y (gs:List Gp) (K sp m c n l:Nat) (lost:Bool):Prop:=(lost=true∧n=11∧l=0∧∀ k,¬ Pl gs K sp m c k)∨(lost=false∧n≤10∧Lst (Pl gs K sp m c) n∧Cnd gs K sp m c l n)
structure BI (gs:List Gp) (K sp m c now n l:Nat) (lost:Bool):Prop where
 min:∀ s n',now<s→Cnd gs K sp m c s n'→n≤n'
 is:(lost=true∧n=11∧l=0)∨(lost=false∧n≤10∧Cnd gs K sp m c l n)
theorem Z00 (gs:List Gp) (m c:Nat):Z07 gs m c<2 ^ gs.length:=Z0a fun i hi=>by
 obtain ⟨g,h5,_⟩:=usfM_test.1 hi
 exact (List.getElem?_eq_some_iff.1 h5).1
theorem ZbH {a b:Nat} (h:a&&&b=a):a≤b:=h▸Nat.and_le_right
theorem BI.start (gs:List Gp) (K sp m c:Nat):BI gs K sp m c (Z07 gs m c) 11 0 true:=⟨fun s n' h1 h2=>absurd (ZbH h2.sub) (by omega),.inl ⟨rfl,rfl,rfl⟩⟩
theorem BI.le {gs:List Gp} {K sp m c now n l:Nat} {lost:Bool} (h:BI gs K sp m c now n l lost):n≤11:=by rcases h.is with ⟨_,h1,_⟩ | ⟨_,h1,_⟩<;>omega
theorem BI.no {gs:List Gp} {K sp m c now n l:Nat} {lost:Bool} (h:BI gs K sp m c now n l lost) (hu:now&&&Z07 gs m c=now) (h0:now≠0) (hx:∀ n',Cnd gs K sp m c now n'→n≤n'):BI gs K sp m c ((now-1)&&&Z07 gs m c) n l lost:=⟨fun s n' h1 h2=>by
 rcases Nat.lt_trichotomy s now with h3 | h3 | h3
 · have:=Z5P gs.length (Z00 gs m c) hu h2.sub h3;omega
 · subst h3;exact hx n' h2
 · exact h.min s n' h3 h2,h.is⟩
theorem BI.take {gs:List Gp} {K sp m c now n l n2:Nat} {lost:Bool} (h:BI gs K sp m c now n l lost) (hu:now&&&Z07 gs m c=now) (h0:now≠0) (hc:Cnd gs K sp m c now n2) (hl:n2<n):BI gs K sp m c ((now-1)&&&Z07 gs m c) n2 now false:=⟨fun s n' h1 h2=>by
 rcases Nat.lt_trichotomy s now with h3 | h3 | h3
 · have:=Z5P gs.length (Z00 gs m c) hu h2.sub h3;omega
 · subst h3;rw [hc.unique h2];exact Nat.le_refl _
 · have:=h.min s n' h3 h2;omega,.inr ⟨rfl,by have:=h.le;omega,hc⟩⟩
theorem BI.done {gs:List Gp} {K sp m c n l:Nat} {lost:Bool} (hg:gs.length≤10) (hmin:∀ s n',Cnd gs K sp m c s n'→n≤n') (is:(lost=true∧n=11∧l=0)∨(lost=false∧n≤10∧Cnd gs K sp m c l n)):Z4y gs K sp m c n l lost:=by
 have key:∀ k,Pl gs K sp m c k→∃ s n',Cnd gs K sp m c s n'∧n'≤k:=fun k hk=>by
   obtain ⟨s,n',h1,h2,h3,h4,h5,h6⟩:=hk.first
   rcases h6 with ⟨h7,h8⟩ | ⟨h7,k2,h8,h9⟩
   · exact ⟨s,n',⟨h3,h4,h5,.inl ⟨h7,h8⟩⟩,h1⟩
   · obtain ⟨k3,h10,h11⟩:=Lst.ex h9
     exact ⟨s,cnt gs.length s+k3,⟨h3,h4,h5,.inr ⟨h7,k3,rfl,h10⟩⟩,by omega⟩
 rcases is with ⟨h1,h2,h3⟩ | ⟨h1,h2,h3⟩
 · refine .inl ⟨h1,h2,h3,fun k hk=>?_⟩
   obtain ⟨s,n',h4,h5⟩:=key k hk
   have:=hmin s n' h4
   have:=h4.pl.few
   omega
 · refine .inr ⟨h1,h2,⟨h3.pl,fun k hk=>?_⟩,h3⟩
   obtain ⟨s,n',h4,h5⟩:=key k hk
   have:=hmin s n' h4
   omega
theorem BI.endNo {gs:List Gp} {K sp m c n l:Nat} {lost:Bool} (hg:gs.length≤10) (h:BI gs K sp m c 0 n l lost) (hx:∀ n',Cnd gs K sp m c 0 n'→n≤n'):Z4y gs K sp m c n l lost:=BI.done hg (fun s n' h2=>by
 rcases Nat.eq_zero_or_pos s with h3 | h3
 · subst h3;exact hx n' h2
 · exact h.min s n' h3 h2) h.is
theorem BI.endTake {gs:List Gp} {K sp m c n l n2:Nat} {lost:Bool} (hg:gs.length≤10) (h:BI gs K sp m c 0 n l lost) (hc:Cnd gs K sp m c 0 n2) (hl:n2<n):Z4y gs K sp m c n2 0 false:=BI.done hg (fun s n' h2=>by
 rcases Nat.eq_zero_or_pos s with h3 | h3
 · subst h3;rw [hc.unique h2];exact Nat.le_refl _
 · have:=h.min s n' h3 h2;omega) (.inr ⟨rfl,by have:=h.le;omega,hc⟩)
theorem Z3E {gs:List Gp} {cl m:Nat} (h:spr gs cl m≠m):m<spr gs cl m:=by
 have h1:m&&&spr gs cl m=m:=Z0r fun i=>by
   rw [Nat.testBit_and]
   cases hi:m.testBit i with
   | false=>rfl
   | true=>rw [Z0V hi];rfl
 have:=ZbH h1
 omega
def Zke (gs:List Gp) (K sp m c l:Nat):Prop:=l<2 ^ gs.length∧l&&&c=0∧cnt gs.length l≤sp∧spr gs (c|||l) m&&&K=0
def Seg (gs:List Gp) (K sp:Nat):Nat→Nat→List Nat→Nat→Nat→Prop
 | m,c,[],m',c'=>m'=m∧c'=c
 | m,c,l::ls,m',c'=>Zke gs K sp m c l∧Seg gs K sp (spr gs (c|||l) m) (c|||l) ls m' c'
theorem Seg.snoc {gs:List Gp} {K sp:Nat}:∀ {ls:List Nat} {m c m' c' l:Nat},Seg gs K sp m c ls m' c'→Zke gs K sp m' c' l→Seg gs K sp m c (ls++[l]) (spr gs (c'|||l) m') (c'|||l)
 | [],m,c,m',c',l,⟨h1,h2⟩,hw=>by subst h1;subst h2;exact ⟨hw,rfl,rfl⟩
 | x::ls,m,c,m',c',l,⟨h1,h2⟩,hw=>⟨h1,Seg.snoc h2 hw⟩
def Zc1 (gs:List Gp):List Nat→Nat
 | []=>0
 | l::ls=>cnt gs.length l+Zc1 gs ls
theorem Z1K (gs:List Gp) (l:Nat):∀ ls,Zc1 gs (ls++[l])=Zc1 gs ls+cnt gs.length l
 | []=>by simp [Zc1]
 | x::ls=>by
   rw [List.cons_append]
   unfold Zc1
   rw [Z1K gs l ls];omega
def RunP (gs:List Gp) (K sp m c:Nat) (ls:List Nat):Prop:=∃ m' c',Seg gs K sp m c ls m' c'∧Shut gs c' m' K
theorem Cnd.wk {gs:List Gp} {K sp m c l n:Nat} (h:Cnd gs K sp m c l n):Zke gs K sp m c l:=by
 obtain ⟨h1,h2,h3,_⟩:=h
 refine ⟨Z0a fun i hi=>by
   obtain ⟨g,h5,_⟩:=usfM_test.1 (h1 i hi)
   exact (List.getElem?_eq_some_iff.1 h5).1,and0_iff.2 fun i=>?_,h2,h3⟩
 cases hi:l.testBit i with
 | false=>rfl
 | true =>
   obtain ⟨g,_,h6,_⟩:=usfM_test.1 (h1 i hi)
   rw [h6];rfl
theorem RunP.once {gs:List Gp} {K sp S C:Nat} (hs:Shut gs C S K) (hC:C<2 ^ gs.length) (hn:cnt gs.length C≤sp):RunP gs K sp S 0 [C] :=
 ⟨spr gs (0|||C) S,0|||C,⟨⟨hC,Nat.and_zero _,hn,by rw [Nat.zero_or];exact Z1X hs.next⟩,rfl,rfl⟩,by rw [Nat.zero_or];exact hs.next⟩
theorem RunP.stop {gs:List Gp} {K sp S c0 m c l n:Nat} {ls:List Nat} (h:Seg gs K sp S c0 ls m c) (hc:Cnd gs K sp m c l n) (he:spr gs (c|||l) m=m):RunP gs K sp S c0 (ls++[l]):=by
 refine ⟨_,_,h.snoc hc.wk,fun t v hv=>?_⟩
 have h0:=hc.2.2.1
 rw [he] at hv h0
 have hst:=Z4c (gs:=gs) (cl:=c|||l) (m:=m) (t:=0) he t
 rw [Nat.zero_add] at hst
 rw [hst] at hv
 exact and_zero.1 h0 v hv
theorem Zak {gs:List Gp} (hg:gs.length≤10) (X:Nat):Z2E (msk (cutM X gs))=cutM X gs:=by
 obtain ⟨t,h1,h2,_⟩:=Zfw (y:=(List.range gs.length).filter fun i=>match gs[i]? with | some g=>crs X g | none=>false) hg (List.pairwise_lt_range.filter _) (fun j hj=>List.mem_range.1 (List.mem_filter.1 hj).1)
 have h3:Z2E t=cutM X gs:=h2
 rw [← h3,ZcS (Nat.lt_of_lt_of_le h1 (Nat.pow_le_pow_right (by decide) hg))]
def lvp (gs:List Gp) (cl:Nat→Nat) (m:Nat):Nat→Nat
 | 0=>m
 | t+1=>spr gs (cl t) (lvp gs cl m t)
theorem Z6E {gs:List Gp} {cl:Nat→Nat} {m:Nat}:∀ {t t':Nat},t≤t'→∀ {v:Nat},(lvp gs cl m t).testBit v=true→(lvp gs cl m t').testBit v=true
 | t, 0, h, v, hv => by obtain rfl : t = 0 := by omega
                        exact hv
 | t,t'+1,h,v,hv=>by
   rcases Nat.lt_or_ge t' t with h1 | h1
   · obtain rfl:t=t'+1:=by omega
     exact hv
   · exact Z0V (Z6E h1 hv)
def fol (gs:List Gp) (cl:Nat→Nat) (m n k:Nat):Int:=match (List.range (n+1)).find? fun t=>(lvp gs cl m t).testBit k with
 | some t=>(t:Int)
 | none=>100
theorem Z6v (gs:List Gp) (cl:Nat→Nat) (m n k:Nat):(∃ t:Nat,t≤n∧fol gs cl m n k=t∧(lvp gs cl m t).testBit k=true∧∀ i:Nat,i<t→(lvp gs cl m i).testBit k=false)∨(fol gs cl m n k=100∧∀ i:Nat,i≤n→(lvp gs cl m i).testBit k=false):=by
 unfold fol
 rcases hf:(List.range (n+1)).find? fun t=>(lvp gs cl m t).testBit k with _ | t
 · refine .inr ⟨rfl,fun i hi=>?_⟩
   have:=List.find?_eq_none.1 hf i (List.mem_range.2 (by omega))
   simpa using this
 · obtain ⟨h1,lp,lq,h2,h3⟩:=List.find?_eq_some_iff_append.1 hf
   have hm:t∈List.range (n+1):=by rw [h2];simp
   refine .inl ⟨t,by have:=List.mem_range.1 hm;omega,rfl,h1,fun i hi=>?_⟩
   have hi7:i∈List.range (n+1):=List.mem_range.2 (by have:=List.mem_range.1 hm;omega)
   have hp:=List.pairwise_lt_range (n:=n+1)
   rw [h2] at hi7 hp
   rw [List.pairwise_append] at hp
   rcases List.mem_append.1 hi7 with h4 | h4
   · have:=h3 i h4;simpa using this
   · rcases List.mem_cons.1 h4 with rfl | h4
     · omega
     · have:=(List.pairwise_cons.1 hp.2.1).1 i h4;omega
theorem Z8l {gs:List Gp} {cl:Nat→Nat} {m n k:Nat} (h:(lvp gs cl m n).testBit k=true):∃ t:Nat,t≤n∧fol gs cl m n k=t∧(lvp gs cl m t).testBit k=true∧∀ i:Nat,i<t→(lvp gs cl m i).testBit k=false:=by
 rcases Z6v gs cl m n k with h1 | ⟨_,h1⟩
 · exact h1
 · rw [h1 n (Nat.le_refl _)] at h;cases h
theorem ZaG {gs:List Gp} {cl:Nat→Nat} {m n k:Nat} (h:(lvp gs cl m n).testBit k=false):fol gs cl m n k=100:=by
 rcases Z6v gs cl m n k with ⟨t,h1,_,h3,_⟩ | ⟨h1,_⟩
 · rw [Z6E h1 h3] at h;cases h
 · exact h1
theorem ZaF {gs:List Gp} {cl:Nat→Nat} {m n k t:Nat} (h1:t≤n) (h2:(lvp gs cl m t).testBit k=true) (h3:∀ i:Nat,i<t→(lvp gs cl m i).testBit k=false):fol gs cl m n k=t:=by
 obtain ⟨t',_,h5,h6,h7⟩:=Z8l (Z6E h1 h2)
 rw [h5]
 rcases Nat.lt_trichotomy t t' with h | h | h
 · rw [h7 t h] at h2;cases h2
 · rw [h]
 · rw [h3 t' h] at h6;cases h6
theorem ZcG {gs:List Gp} {cl:Nat→Nat} {m n k:Nat}:fol gs cl m (n+1) k=bif (lvp gs cl m n).testBit k then fol gs cl m n k else bif (lvp gs cl m (n+1)).testBit k then ((n+1:Nat):Int) else 100:=by
 cases h:(lvp gs cl m n).testBit k with
 | true =>
   obtain ⟨t,h1,h2,h3,h4⟩:=Z8l h
   rw [cond_true,h2]
   exact ZaF (by omega) h3 h4
 | false =>
   rw [cond_false]
   cases h5:(lvp gs cl m (n+1)).testBit k with
   | true =>
     rw [cond_true]
     refine ZaF (Nat.le_refl _) h5 fun i hi=>?_
     cases h6:(lvp gs cl m i).testBit k with
     | false=>rfl
     | true=>rw [Z6E (show i≤n by omega) h6] at h;cases h
   | false=>exact ZaG h5
def Z72 (gs:List Gp) (cl s:Nat):Nat→Nat
 | 0=>s
 | i+1=>match gs[i]? with
   | some g=>bif cl.testBit i then Z72 gs cl s i else Z72 gs cl s i|||gpo s g
   | none=>Z72 gs cl s i
theorem Z64 {gs:List Gp} {cl s v:Nat}:∀ i,(Z72 gs cl s i).testBit v=true↔s.testBit v=true∨∃ j g,j<i∧gs[j]?=some g∧cl.testBit j=false∧(gpo s g).testBit v=true
 | 0=>by
   show s.testBit v=true↔_
   exact ⟨.inl,fun h=>h.elim id fun ⟨j,_,hj,_⟩=>absurd hj (Nat.not_lt_zero _)⟩
 | i+1=>by
   have ih:=Z64 (gs:=gs) (cl:=cl) (s:=s) (v:=v) i
   have up:(Z72 gs cl s i).testBit v=true→(s.testBit v=true∨∃ j g,j<i+1∧gs[j]?=some g∧cl.testBit j=false∧(gpo s g).testBit v=true):=fun h=>(ih.1 h).imp id fun ⟨j,g,h1,h2⟩=>⟨j,g,by omega,h2⟩
   unfold Z72
   cases hg:gs[i]? with
   | none =>
     refine ⟨up,fun h=>ih.2 (h.imp id fun ⟨j,g,h1,h2,h3⟩=>⟨j,g,?_,h2,h3⟩)⟩
     rcases Nat.lt_or_ge j i with h4 | h4
     · exact h4
     · obtain rfl:j=i:=by omega
       rw [hg] at h2;cases h2
   | some g0 =>
     dsimp only
     cases hc:cl.testBit i with
     | true =>
       rw [cond_true]
       refine ⟨up,fun h=>ih.2 (h.imp id fun ⟨j,g,h1,h2,h3⟩=>⟨j,g,?_,h2,h3⟩)⟩
       rcases Nat.lt_or_ge j i with h4 | h4
       · exact h4
       · obtain rfl:j=i:=by omega
         rw [hc] at h3;cases h3.1
     | false =>
       rw [cond_false,Nat.testBit_or,Bool.or_eq_true]
       refine ⟨fun h=>h.elim up fun h=>.inr ⟨i,g0,by omega,hg,hc,h⟩,fun h=>?_⟩
       rcases h with h | ⟨j,g,h1,h2,h3,h4⟩
       · exact .inl (ih.2 (.inl h))
       · rcases Nat.lt_or_ge j i with h5 | h5
         · exact .inl (ih.2 (.inr ⟨j,g,h5,h2,h3,h4⟩))
         · obtain rfl:j=i:=by omega
           rw [hg] at h2
           obtain rfl:=Option.some.inj h2
           exact .inr h4
theorem Zc2 (gs:List Gp) (cl s:Nat):Z72 gs cl s gs.length=spr gs cl s:=Z0r fun v=>by
 rw [Bool.eq_iff_iff,Z64]
 unfold spr
 rw [Z2P]
 refine or_congr Iff.rfl ⟨fun ⟨j,g,_,h2,h3,h4⟩=>⟨j,g,h2,by rw [Nat.zero_add];exact h3,h4⟩,fun ⟨j,g,h2,h3,h4⟩=>⟨j,g,(List.getElem?_eq_some_iff.1 h2).1,h2,by rw [Nat.zero_add] at h3;exact h3,h4⟩⟩
structure FolI (gs:List Gp) (cl:Nat→Nat) (m n w acc:Nat) (o:List Int):Prop where
 len:o.length=n
 at_:∀ k<n,na o k=bif (lvp gs cl m w).testBit k then fol gs cl m w k else bif acc.testBit k then ((w+1:Nat):Int) else 100
theorem FolI.reached {gs:List Gp} {cl:Nat→Nat} {m n w acc:Nat} {o:List Int} (h:FolI gs cl m n w acc o) (hw:w<99) {k:Nat} (hk:k<n):na o k≤w↔(lvp gs cl m w).testBit k=true:=by
 have h1:=h.at_ k hk
 cases hb:(lvp gs cl m w).testBit k with
 | true =>
   rw [hb,cond_true] at h1
   obtain ⟨t,h2,h3,_⟩:=Z8l hb
   exact ⟨fun _=>rfl,fun _=>by omega⟩
 | false =>
   rw [hb,cond_false] at h1
   refine ⟨fun h2=>?_,fun h2=>by cases h2⟩
   cases ha:acc.testBit k with
   | true=>rw [ha,cond_true] at h1;omega
   | false=>rw [ha,cond_false] at h1;omega
theorem FolI.bd {gs:List Gp} {cl:Nat→Nat} {m n w acc:Nat} {o:List Int} (h:FolI gs cl m n w acc o) (hw:w<99) {k:Nat} (hk:k<n):0≤na o k∧na o k≤100:=by
 have h1:=h.at_ k hk
 cases hb:(lvp gs cl m w).testBit k with
 | true =>
   rw [hb,cond_true] at h1
   obtain ⟨t,h2,h3,_⟩:=Z8l hb
   omega
 | false =>
   rw [hb,cond_false] at h1
   cases ha:acc.testBit k with
   | true=>rw [ha,cond_true] at h1;omega
   | false=>rw [ha,cond_false] at h1;omega
theorem FolI.way {gs:List Gp} {cl:Nat→Nat} {m n w acc:Nat} {o:List Int} (h:FolI gs cl m n w acc o) (hw:w<99) {u v:Nat} (hu:u<n) (hv:v<n) (h1:na o u≤w) (h2:(w:Int)<na o v):FolI gs cl m n w (acc|||(bif (lvp gs cl m w).testBit u then 2 ^ v else 0)) (o.set v (min (na o v) ((w:Int)+1))):=by
 have hl:=h.len
 refine ⟨by rw [List.length_set];exact hl,fun k hk=>?_⟩
 have hub:=(h.reached hw hu).1 h1
 have hvb:(lvp gs cl m w).testBit v=false:=by
   cases hb:(lvp gs cl m w).testBit v with
   | false=>rfl
   | true=>have:=(h.reached hw hv).2 hb;omega
 rw [hub,cond_true,Nat.testBit_or,Nat.testBit_two_pow]
 by_cases e:v=k
 · subst e
   have h3:=h.at_ v hv
   rw [hvb,cond_false] at h3 ⊢
   rw [show decide (v=v)=true from decide_eq_true rfl,Bool.or_true,cond_true]
   have:na (o.set v (min (na o v) ((w:Int)+1))) v=min (na o v) ((w:Int)+1):=by
     unfold na;rw [List.getD_eq_getElem?_getD,List.getElem?_set_self (by omega)];rfl
   rw [this]
   cases ha:acc.testBit v with
   | true=>rw [ha,cond_true] at h3;omega
   | false=>rw [ha,cond_false] at h3;omega
 · have:na (o.set v (min (na o v) ((w:Int)+1))) k=na o k:=by
     unfold na;simp only [List.getD_eq_getElem?_getD,List.getElem?_set_ne e]
   rw [this,show decide (v=k)=false from decide_eq_false e,Bool.or_false]
   exact h.at_ k hk
theorem FolI.shut {gs:List Gp} {cl:Nat→Nat} {m n w i:Nat} {o:List Int} (hc:(cl w).testBit i=true) (h:FolI gs cl m n w (Z72 gs (cl w) (lvp gs cl m w) i) o):FolI gs cl m n w (Z72 gs (cl w) (lvp gs cl m w) (i+1)) o:=by
 have:Z72 gs (cl w) (lvp gs cl m w) (i+1)=Z72 gs (cl w) (lvp gs cl m w) i:=by
   rw [Z72]
   cases gs[i]? with
   | none=>rfl
   | some g=>dsimp only;rw [hc];rfl
 rw [this];exact h
theorem FolI.week {gs:List Gp} {cl:Nat→Nat} {m n w:Nat} {o:List Int} (h:FolI gs cl m n w (Z72 gs (cl w) (lvp gs cl m w) gs.length) o):FolI gs cl m n (w+1) (Z72 gs (cl (w+1)) (lvp gs cl m (w+1)) 0) o:=by
 rw [Zc2] at h
 refine ⟨h.len,fun k hk=>?_⟩
 rw [h.at_ k hk]
 have hs:=ZcG (gs:=gs) (cl:=cl) (m:=m) (n:=w) (k:=k)
 show _=bif (lvp gs cl m (w+1)).testBit k then fol gs cl m (w+1) k else bif (lvp gs cl m (w+1)).testBit k then _ else 100
 rw [hs,show spr gs (cl w) (lvp gs cl m w)=lvp gs cl m (w+1) from rfl]
 cases h1:(lvp gs cl m (w+1)).testBit k with
 | true=>rw [cond_true,cond_true]
 | false =>
   cases h2:(lvp gs cl m w).testBit k with
   | true=>rw [Z6E (Nat.le_succ w) h2] at h1;cases h1
   | false=>rfl
def ZiU (gs:List Gp) (cl:Nat→Nat) (m n:Nat):List Int:=(List.range n).map (fol gs cl m 20)
theorem ZcF (gs:List Gp) (cl:Nat→Nat) (m n:Nat):(ZiU gs cl m n).length=n:=by simp [ZiU]
theorem FolI.done {gs:List Gp} {cl:Nat→Nat} {m n acc:Nat} {o:List Int} (h:FolI gs cl m n 20 acc o) (ha:acc=lvp gs cl m 20):o=ZiU gs cl m n:=by
 subst ha
 apply List.ext_getElem?
 intro k
 rcases Nat.lt_or_ge k n with hk | hk
 · have h1:=h.at_ k hk
   have h2:o[k]?=some (na o k):=by unfold na;rw [List.getD_eq_getElem?_getD,List.getElem?_eq_getElem (by rw [h.len];exact hk)];rfl
   rw [h2,h1]
   unfold ZiU
   rw [List.getElem?_map,List.getElem?_range hk]
   show _=some (fol gs cl m 20 k)
   cases hb:(lvp gs cl m 20).testBit k with
   | true=>rfl
   | false=>rw [ZaG hb];rfl
 · rw [List.getElem?_eq_none (by rw [h.len];exact hk),List.getElem?_eq_none (by rw [ZcF];exact hk)]
theorem Zes {h:Hse} (hk:h.ok) {ss:List Sgt} (hs:SOk h ss) (hy:∀ s∈ss,s.seen=true):h.agr ss=true:=by
 refine (Z73 hk hs).2 ⟨2 ^ h.bins.toNat-1,by have:=Nat.two_pow_pos h.bins.toNat;omega,List.all_eq_true.2 fun s h1=>?_⟩
 have h2:=hs s h1
 unfold exS
 rw [hy s h1,ZfW (by rw [Nat.testBit_two_pow_sub_one];exact decide_eq_true (by omega)),decide_eq_true h2.1.1];rfl
theorem ZfY (gs:List Gp) (k:Nat):wk gs 0 0 k=far:=by
 rcases Z2V gs 0 0 k with ⟨t,_,_,h3,_⟩ | ⟨h1,_⟩
 · rw [Z5y,Nat.zero_testBit] at h3;cases h3
 · exact h1
theorem Zgf {h:Hse} (hk:h.ok) {ss:List Sgt} (hs:SOk h ss) (hn:∀ s∈ss,s.seen=false):h.agr ss=true:=by
 refine (Z73 hk hs).2 ⟨0,Nat.two_pow_pos _,List.all_eq_true.2 fun s h1=>?_⟩
 have h2:=hs s h1
 unfold exS
 rw [hn s h1,ZfY,decide_eq_false (by unfold far;omega)];rfl
def Z5B (ss:List Sgt) (l:List Int):List Sgt:=l.filterMap fun i=>ss[i.toNat]?
theorem ZcY {ss:List Sgt} {l:List Int} {s:Sgt} (h:s∈Z5B ss l):s∈ss:=by
 obtain ⟨i,_,h2⟩:=List.mem_filterMap.1 h
 exact List.mem_of_getElem? h2
structure Cla (h:Hse) (x:List Int):Prop where
 lt:∀ i∈x,0≤i∧i<h.sights.length
 srt:x.Pairwise (· < ·)
 no:h.agr (Z5B h.sights x)=false
 less:∀ k<x.length,h.agr (Z5B h.sights (x.eraseIdx k))=true
theorem Cla.two {h:Hse} (hk:h.ok) {x:List Int} (hc:Cla h x):(∃ s∈Z5B h.sights x,s.seen=true)∧∃ s∈Z5B h.sights x,s.seen=false:=by
 have hs:SOk h (Z5B h.sights x):=fun s h1=>hk.sights s (ZcY h1)
 constructor
 · apply Classical.byContradiction
   intro hn
   have:=Zgf hk hs fun s h1=>by
     cases hb:s.seen with
     | false=>rfl
     | true=>exact absurd ⟨s,h1,hb⟩ hn
   rw [hc.no] at this;cases this
 · apply Classical.byContradiction
   intro hn
   have:=Zes hk hs fun s h1=>by
     cases hb:s.seen with
     | true=>rfl
     | false=>exact absurd ⟨s,h1,hb⟩ hn
   rw [hc.no] at this;cases this
theorem Cla.len {h:Hse} (hk:h.ok) {x:List Int} (hc:Cla h x):2≤x.length:=by
 obtain ⟨⟨s,h1,h2⟩,t,h3,h4⟩:=hc.two hk
 have hle:(Z5B h.sights x).length≤x.length:=List.length_filterMap_le _ _
 rcases Nat.lt_or_ge (Z5B h.sights x).length 2 with h5 | h5
 · match hp:Z5B h.sights x,h5 with
   | [],_=>rw [hp] at h1;simp at h1
   | [a],_ =>
     rw [hp] at h1 h3
     rw [List.mem_singleton] at h1 h3
     rw [h1] at h2;rw [h3] at h4;rw [h2] at h4;cases h4
 · omega
structure Tru (h:Hse) (l:List Int) (ss:List Sgt):Prop where
 ok:SOk h ss
 ex:Zc0 h.gaps (msk l) ss=true
theorem Tru.snoc {h:Hse} {l:List Int} {ss:List Sgt} (ht:Tru h l ss) {s:Sgt} (hs:(0≤s.week∧s.week≤9)∧0≤s.bin∧s.bin<h.bins) (he:exS h.gaps (msk l) s=true):Tru h l (ss++[s]):=by
 refine ⟨fun x hx=>?_,?_⟩
 · rcases List.mem_append.1 hx with h1 | h1
   · exact ht.ok x h1
   · rw [List.mem_singleton.1 h1];exact hs
 · unfold Zc0
   rw [List.all_append]
   have:=ht.ex
   unfold Zc0 at this
   rw [this,List.all_cons,he];rfl
theorem Tru.agr {h:Hse} {l:List Int} {ss:List Sgt} (hk:h.ok) (hl:∀ x∈l,0≤x∧x<h.bins) (ht:Tru h l ss):h.agr ss=true:=(Z73 hk ht.ok).2 ⟨msk l,Z3n (fun x hx=>by have:=hl x hx;have:=hk.bins;omega),ht.ex⟩
theorem Pl.idle {gs:List Gp} {K m c n:Nat} (h:Pl gs K 0 m c n):n=0:=by
 have key:∀ {sp m c n:Nat},Pl gs K sp m c n→sp=0→n=0:=by
   intro sp m c n h
   induction h with
   | stay hl hc hs he hk=>intro e;omega
   | go hl hc hs hne hk _ ih=>intro e;have:=ih e;omega
 exact key h rfl
def Spd (gs:List Gp) (S K s:Nat):Prop:=(∃ n,Pl gs K s S 0 n)∧∀ s',s'<s→∀ n,¬ Pl gs K s' S 0 n
theorem Spd.cut {gs:List Gp} {S K s m:Nat} (hw:Wth gs 7) (hS:S<2 ^ 7) (h:Spd gs S K s) (hc:Cut gs S K m):s≤m∧(s=0↔m=0):=by
 have h1:s≤m:=Nat.le_of_not_lt fun hlt=>h.2 m hlt m (hc.plan hw hS (Nat.le_refl _)).1
 refine ⟨h1,fun e=>?_,fun e=>by omega⟩
 subst e
 obtain ⟨n,hn⟩:=h.1
 have h2:=hn.idle
 have h3:=hn.cut hc
 omega
open Go
theorem Zge:Z2a Tryz.prog 242=some 3:=by kernel_rfl
theorem ZbY:Z2a Tryz.prog 95=some 3:=by kernel_rfl
theorem Zc6:Z2a Tryz.prog 97=some 2:=by kernel_rfl
theorem Z80:cal Tryz.prog 119=true:=by kernel_rfl
theorem Zdr:cal Tryz.prog 120=true:=by kernel_rfl
theorem ZgB:cal Tryz.prog 121=true:=by kernel_rfl
theorem Zds:cal Tryz.prog 122=true:=by kernel_rfl
theorem ZgC:cal Tryz.prog 123=true:=by kernel_rfl
theorem ZgD:cal Tryz.prog 124=true:=by kernel_rfl
theorem ZgE:cal Tryz.prog 125=true:=by kernel_rfl
theorem ZgF:cal Tryz.prog 126=true:=by kernel_rfl
theorem Z7d:cal Tryz.prog 13=true:=by kernel_rfl
theorem Z4K:cal Tryz.prog 148=true:=by kernel_rfl
theorem ZgV:cal Tryz.prog 204=true:=by kernel_rfl
theorem ZgW:cal Tryz.prog 205=true:=by kernel_rfl
theorem ZgX:cal Tryz.prog 206=true:=by kernel_rfl
theorem ZgY:cal Tryz.prog 207=true:=by kernel_rfl
theorem ZgZ:cal Tryz.prog 208=true:=by kernel_rfl
theorem Z6b:cal Tryz.prog 224=true:=by kernel_rfl
theorem Zhg:cal Tryz.prog 260=true:=by kernel_rfl
theorem Zhh:cal Tryz.prog 261=true:=by kernel_rfl
theorem ZeQ:cal Tryz.prog 45=true:=by kernel_rfl
theorem Zcs:cal Tryz.prog 63=true:=by kernel_rfl
theorem ZjN:ZF Tryz.prog 100=some 1:=by kernel_rfl
theorem Z1q:elN Tryz.prog 23=some 1:=by kernel_rfl
theorem ZcC:elN Tryz.prog 92=some 2:=by kernel_rfl
theorem ZkQ:elN Tryz.prog 93=some 3:=by kernel_rfl
theorem ZjU:eqB Tryz.prog 10000 97=some (true,2):=by kernel_rfl
theorem ZjW:Tryz.prog.eqGuardType Tryz.prog.depth 97=false:=by kernel_rfl
theorem Zff:ZY Tryz.prog 242 0=some 0:=by kernel_rfl
theorem Zfg:ZY Tryz.prog 242 1=some 1:=by kernel_rfl
theorem ZdX:ZY Tryz.prog 95 0=some 0:=by kernel_rfl
theorem Z1A:ZY Tryz.prog 95 1=some 1:=by kernel_rfl
theorem ZaE:ZY Tryz.prog 95 2=some 2:=by kernel_rfl
theorem Z0S:ZY Tryz.prog 97 0=some 0:=by kernel_rfl
theorem Z0T:ZY Tryz.prog 97 1=some 1:=by kernel_rfl
theorem ZD:Z2y Tryz.prog 23=true:=by kernel_rfl
theorem Z98:Z2y Tryz.prog 92=true:=by kernel_rfl
theorem Zi5:Z2y Tryz.prog 93=true:=by kernel_rfl
theorem Zim:ZP Tryz.prog 97=some [(0,1),(1,1)]:=by kernel_rfl
theorem Z4C:Z0h Tryz.prog 100=true:=by kernel_rfl
theorem Zk8:Z0h Tryz.prog 243=true:=by kernel_rfl
theorem Zk9:Z0h Tryz.prog 245=true:=by kernel_rfl
theorem sc3:Z0h Tryz.prog 3=true:=by kernel_rfl
theorem Z9v:Z0h Tryz.prog 92=true:=by kernel_rfl
theorem Zkc:Z0h Tryz.prog 93=true:=by kernel_rfl
theorem Z18:slE Tryz.prog 23=some (3,1):=by kernel_rfl
theorem Zkg:Zr Tryz.prog 100=some ([.nilFunc]):=by kernel_rfl
theorem ZbW:Zr Tryz.prog 97=some ([.int .i64 0,.int .i64 0]):=by kernel_rfl
abbrev irows (l:List Int):List (List Value):=l.map fun z=>[.int .i64 z]
def grow (g:Gp):List Value:=[.int .i64 g.a,.int .i64 g.b]
def grows (l:List Gp):List (List Value):=l.map grow
def ZbG (s:Sgt):List Value:=[.int .i64 s.week,.int .i64 s.bin,.bool s.seen]
def srows (l:List Sgt):List (List Value):=l.map ZbG
def htl (h:Hse) (sg ss:Value):List Value:=[.int .i64 h.bins,sg,ss]
def Hse.v (h:Hse) (sg ss:Value):Value:=.agg (htl h sg ss).toArray
def Hse.sg (h:Hse) (a:Option Addr) (c:Nat):Value:=.slice a h.gaps.length c
def Hse.ss (h:Hse) (a:Option Addr) (c:Nat):Value:=.slice a h.sights.length c
theorem Z2w {l:List Gp} {k:Nat} {x:Gp} (h:l[k]?=some x):(grows l)[k]?=some (grow x):=by simp [grows,h]
theorem Z48 (l:List Gp):(grows l).length=l.length:=by simp [grows]
theorem Z6 (l:List Int):(Za l).length=l.length:=by simp [Za]
theorem Z0z {l:List Int} {k:Nat} {v:Int} (h:l[k]?=some v):(Za l)[k]?=some (.int .i64 v):=by simp [Za,h]
theorem na_get {l:List Int} {k:Nat} (h:k<l.length):l[k]?=some (na l k):=by
 unfold na;rw [List.getD_eq_getElem?_getD,List.getElem?_eq_getElem h];rfl
theorem Zb4 {l:List Int} {k:Nat} {x:Int} (h:l[k]?=some x):na l k=x:=by
 unfold na;rw [List.getD_eq_getElem?_getD,h];rfl
theorem Zy {α:Type} {xs:List α} {p:α→Bool} {k:Nat} {x:α} (hx:xs[k]?=some x) (hn:∀ y∈xs.take k,p y=false) (h:p x=true):xs.findIdx? p=some k:=by
 induction xs generalizing k with
 | nil=>simp at hx
 | cons y ys ih =>
   cases k with
   | zero=>simp only [List.getElem?_cons_zero,Option.some.injEq] at hx;subst hx;simp [List.findIdx?_cons,h]
   | succ k =>
     have hy:=hn y (by simp)
     have:=ih (by simpa using hx) (fun z hz=>hn z (by simp [hz]))
     simp [List.findIdx?_cons,hy,this]
theorem Zs {α:Type} {xs:List α} {p:α→Bool} (hn:∀ y∈xs,p y=false):xs.findIdx? p=none:=by
 rw [List.findIdx?_eq_none_iff];exact hn
theorem ZT {α:Type} {xs:List α} {p:α→Bool} {k:Nat} {x:α} (hx:xs[k]?=some x) (hn:∀ y∈xs.take k,p y=false) (h:p x=false):∀ y∈xs.take (k+1),p y=false:=by
 intro y hy
 rw [List.take_add_one,hx] at hy
 rcases List.mem_append.1 hy with h1 | h1
 · exact hn y h1
 · simp only [Option.toList_some,List.mem_singleton] at h1;subst h1;exact h
theorem Z0v {α:Type} (xs:List α) (p:α→Bool):Value.bool (decide (0≤(match xs.findIdx? p with | some k=>(k:Int) | none => -1))) = .bool (xs.any p):=by
 congr 1
 cases h:xs.findIdx? p with
 | none =>
   have:=List.findIdx?_eq_none_iff.1 h
   have h2:xs.any p=false:=by simpa using this
   rw [h2];rfl
 | some k =>
   have h2:xs.any p=true:=by
     rw [← Bool.not_eq_false];intro h3
     have:xs.findIdx? p=none:=List.findIdx?_eq_none_iff.2 (by simpa using h3)
     rw [this] at h;cases h
   rw [h2];simp
theorem ZQ {α:Type} (xs:List α) (p:α→Bool):Value.bool (!xs.any fun x=>!p x) = .bool (xs.all p):=by
 congr 1
 induction xs with
 | nil=>rfl
 | cons x xs ih=>simp [← ih]
theorem Z71 (n lo hi:Int) (H:Z8) (R:Z5) :
    FnV Tryz.prog 119 [.int .i64 n,.int .i64 lo,.int .i64 hi] H R (.bool (inB n lo hi)):=by
 refine Ze Tryz.func119 rfl Tryz.ntmps119 rfl ?_
 refine sqt 1 rfl (pur 1 rfl (sqt 9 rfl (pur 4 rfl ?_)))
 refine Zv 10 rfl ?_ ?_<;>intro g10
 refine pur 5 rfl (Z4 ?_)
 exact rtA rfl rfl rfl ⟨by simp_all only [ZR,inB,Bool.true_and,Bool.false_and,cond_true,cond_false],rfl,rfl⟩ drp
 refine pur 5 rfl (Z4 ?_)
 exact rtA rfl rfl rfl ⟨by simp_all only [ZR,inB,Bool.true_and,Bool.false_and,cond_true,cond_false],rfl,rfl⟩ drp
theorem Z1u (xs:List Int) (a:Option Addr) (c g:Nat) (fst cap:List Value) (p:Int→Bool) (hg:cal Tryz.prog g=true) (hl:xs.length≤9223372036854775807) (H:Z8) (R:Z5) [hR:MemRows a 1 (irows xs) R] (hp:∀ x,x∈xs→FnV Tryz.prog g (fst++[.int .i64 x]++cap) H R (.bool (p x))) :
    FnV Tryz.prog 224 [.slice a xs.length c,.func (.func g) fst.toArray cap.toArray] H R (.int .i64 (match xs.findIdx? p with | some k=>(k:Int) | none => -1)):=by
 refine Ze Tryz.func224 rfl Tryz.ntmps224 rfl ?_
 refine sqt 1 rfl (pur 1 rfl (Z0 (sqt 3 rfl (pur 1 rfl (sp rfl (PE.lenSl ZD rfl) rfl (pur 1 rfl (Z3 ?_)))))))
 refine Zd (ι:={k:Nat // k≤xs.length∧∀ x∈xs.take k,p x=false}) (fun k=>⟨[(0,.slice a xs.length c),(1,.func (.func g) fst.toArray cap.toArray),(7,.int .i64 xs.length),(8,.int .i64 k.1)],H,R⟩) (fun k=>xs.length-k.1) ⟨0,by simp⟩ ?_ (fun k=>?_)
 exact Zj idH
 obtain ⟨k,hk,hn⟩:=k
 dsimp only
 refine sqt 1 rfl (pur 1 rfl (Z0 ?_))
 refine Z2 rfl ?_ ?_<;>intro hc0
 simp only [cS] at hc0
 obtain ⟨x,hx⟩:∃ x,xs[k]?=some x:=⟨_,List.getElem?_eq_getElem (by omega)⟩
 have hxm:=List.mem_of_getElem? hx
 refine Zi (a:=a) (sz:=1) (rows:=irows xs) (by cases xs<;>simp_all [irows]) (fun b off he=>?_)
 subst he
 refine Z1 (Z0 (Z3 (sqt 2 rfl (pur 2 rfl (sqt 6 rfl (pur 3 rfl (sp rfl (PE.indexAddr Z1q rfl rfl (by omega) (by omega)) rfl (spL rfl rfl (lf0 sc3 (by simp [irows,hx];rfl) rfl) rfl ?_))))))))
 refine Z5f rfl rfl (hg) rfl rfl (hp x hxm) ?_
 refine Z2 rfl ?_ ?_<;>intro hc1
 refine sqt 2 rfl (pur 2 rfl (Z4 ?_))
 first | (exact rtA rfl rfl rfl ⟨by rw [Zy hx hn hc1];rfl,rfl,rfl⟩ idH) | (exact rtA rfl rfl rfl ⟨by rw [Zs (by simpa using hn)];rfl,rfl,rfl⟩ idH)
 refine Z1 (sqr 2 rfl (sp rfl (PE.add rfl rfl (by omega)) rfl (pur 1 rfl ?_)))
 exact Zc ⟨k+1,by omega,ZT hx hn hc1⟩ idH
 simp only [cS] at hc0
 obtain rfl:k=xs.length:=by omega
 refine Z7 (Z9 (Z9 (Zk (sqt 1 rfl (pur 1 rfl (Z4 ?_))))))
 first | (exact rtA rfl rfl rfl ⟨by rw [Zy hx hn hc1];rfl,rfl,rfl⟩ idH) | (exact rtA rfl rfl rfl ⟨by rw [Zs (by simpa using hn)];rfl,rfl,rfl⟩ idH)
theorem Z10 (xs:List Int) (a:Option Addr) (c g:Nat) (fst cap:List Value) (p:Int→Bool) (hg:cal Tryz.prog g=true) (hl:xs.length≤9223372036854775807) (H:Z8) (R:Z5) [hR:MemRows a 1 (irows xs) R] (hp:∀ x,x∈xs→FnV Tryz.prog g (fst++[.int .i64 x]++cap) H R (.bool (p x))) :
    FnV Tryz.prog 148 [.slice a xs.length c,.func (.func g) fst.toArray cap.toArray] H R (.bool (xs.any p)):=by
 refine Ze Tryz.func148 rfl Tryz.ntmps148 rfl ?_
 refine sqt 1 rfl (pur 1 rfl (sqt 5 rfl (pur 2 rfl ?_)))
 refine clV rfl Z6b rfl rfl (Z1u xs a c g fst cap p hg hl _ _ hp) ?_
 refine pur 2 rfl (Z4 ?_)
 exact rtA rfl rfl rfl ⟨by simp only [ZR];exact Z0v _ _,rfl,rfl⟩ drp
theorem Z1t (x:Int) (g bf:Nat) (fst cap:List Value) (p:Bool) (hg:cal Tryz.prog g=true) (H:Z8) (R:Z5) [hM:Mem1 bf (cel 100 [.func (.func g) fst.toArray cap.toArray]) H] (hp:FnV Tryz.prog g (fst++[.int .i64 x]++cap) H R (.bool p)) :
    FnV Tryz.prog 208 [.int .i64 x,.pointer (some ⟨bf,0,none⟩)] H R (.bool !p):=by
 refine Ze Tryz.func208 rfl Tryz.ntmps208 rfl ?_
 refine sqt 1 rfl (pur 1 rfl (sqt 5 rfl (spL rfl rfl (lh Z4C rfl rfl) rfl (pur 1 rfl ?_))))
 refine Z5f rfl rfl (hg) rfl rfl (hp) ?_
 refine pur 2 rfl (Z4 ?_)
 exact rtA rfl rfl rfl ⟨rfl,rfl,rfl⟩ drp
theorem Z0l (xs:List Int) (a:Option Addr) (c g:Nat) (fst cap:List Value) (p:Int→Bool) (hg:cal Tryz.prog g=true) (hl:xs.length≤9223372036854775807) (H:Z8) (R:Z5) [hR:MemRows a 1 (irows xs) R] (hp:∀ b x,x∈xs→FnV Tryz.prog g (fst++[.int .i64 x]++cap) ((b,cel 100 [.func (.func g) fst.toArray cap.toArray])::H) R (.bool (p x))) :
    FnV Tryz.prog 126 [.slice a xs.length c,.func (.func g) fst.toArray cap.toArray] H R (.bool (xs.all p)):=by
 refine Ze Tryz.func126 rfl Tryz.ntmps126 rfl ?_
 refine sqt 2 rfl (bx rfl rfl rfl (fun b3=>pur 1 rfl (sqt 5 rfl (pur 1 rfl (sp rfl (PE.makeFunc rfl rfl) rfl ?_)))))
 refine clV rfl Z4K rfl rfl (Z10 xs a c 208 [] [_] (fun x=>!p x) ZgZ hl _ _ (hp:=fun x hx=>Z1t x g _ fst cap (p x) hg _ _ (hp:=hp _ x hx))) ?_
 refine pur 2 rfl (Z4 ?_)
 exact rtA rfl rfl rfl ⟨by simp only [ZR];rw [ZQ],rfl,rfl⟩ drp
theorem Za1 (xs:List Gp) (a:Option Addr) (c g:Nat) (fst cap:List Value) (p:Gp→Bool) (hg:cal Tryz.prog g=true) (hl:xs.length≤9223372036854775807) (H:Z8) (R:Z5) [hR:MemRows a 2 (grows xs) R] (hp:∀ x,x∈xs→FnV Tryz.prog g (fst++[.agg (grow x).toArray]++cap) H R (.bool (p x))) :
    FnV Tryz.prog 261 [.slice a xs.length c,.func (.func g) fst.toArray cap.toArray] H R (.int .i64 (match xs.findIdx? p with | some k=>(k:Int) | none => -1)):=by
 refine Ze Tryz.func261 rfl Tryz.ntmps261 rfl ?_
 refine sqt 1 rfl (pur 1 rfl (Z0 (sqt 3 rfl (pur 1 rfl (sp rfl (PE.lenSl Z98 rfl) rfl (pur 1 rfl (Z3 ?_)))))))
 refine Zd (ι:={k:Nat // k≤xs.length∧∀ x∈xs.take k,p x=false}) (fun k=>⟨[(0,.slice a xs.length c),(1,.func (.func g) fst.toArray cap.toArray),(7,.int .i64 xs.length),(8,.int .i64 k.1)],H,R⟩) (fun k=>xs.length-k.1) ⟨0,by simp⟩ ?_ (fun k=>?_)
 exact Zj idH
 obtain ⟨k,hk,hn⟩:=k
 dsimp only
 refine sqt 1 rfl (pur 1 rfl (Z0 ?_))
 refine Z2 rfl ?_ ?_<;>intro hc0
 simp only [cS] at hc0
 obtain ⟨x,hx⟩:∃ x,xs[k]?=some x:=⟨_,List.getElem?_eq_getElem (by omega)⟩
 have hxm:=List.mem_of_getElem? hx
 refine Zi (a:=a) (sz:=2) (rows:=grows xs) (by cases xs<;>simp_all [grows]) (fun b off he=>?_)
 subst he
 refine Z1 (Z0 (Z3 (sqt 2 rfl (pur 2 rfl (sqt 6 rfl (pur 3 rfl (sp rfl (PE.indexAddr ZcC rfl rfl (by omega) (by omega)) rfl (spL rfl rfl (lfA Zc6 (row:=grow x) (by simp [grows,hx]) rfl) rfl ?_))))))))
 refine Z5f rfl rfl (hg) rfl rfl (hp x hxm) ?_
 refine Z2 rfl ?_ ?_<;>intro hc1
 refine sqt 2 rfl (pur 2 rfl (Z4 ?_))
 first | (exact rtA rfl rfl rfl ⟨by rw [Zy hx hn hc1];rfl,rfl,rfl⟩ idH) | (exact rtA rfl rfl rfl ⟨by rw [Zs (by simpa using hn)];rfl,rfl,rfl⟩ idH)
 refine Z1 (sqr 2 rfl (sp rfl (PE.add rfl rfl (by omega)) rfl (pur 1 rfl ?_)))
 exact Zc ⟨k+1,by omega,ZT hx hn hc1⟩ idH
 simp only [cS] at hc0
 obtain rfl:k=xs.length:=by omega
 refine Z7 (Z9 (Z9 (Zk (sqt 1 rfl (pur 1 rfl (Z4 ?_))))))
 first | (exact rtA rfl rfl rfl ⟨by rw [Zy hx hn hc1];rfl,rfl,rfl⟩ idH) | (exact rtA rfl rfl rfl ⟨by rw [Zs (by simpa using hn)];rfl,rfl,rfl⟩ idH)
theorem Z9W (xs:List Gp) (a:Option Addr) (c g:Nat) (fst cap:List Value) (p:Gp→Bool) (hg:cal Tryz.prog g=true) (hl:xs.length≤9223372036854775807) (H:Z8) (R:Z5) [hR:MemRows a 2 (grows xs) R] (hp:∀ x,x∈xs→FnV Tryz.prog g (fst++[.agg (grow x).toArray]++cap) H R (.bool (p x))) :
    FnV Tryz.prog 206 [.slice a xs.length c,.func (.func g) fst.toArray cap.toArray] H R (.bool (xs.any p)):=by
 refine Ze Tryz.func206 rfl Tryz.ntmps206 rfl ?_
 refine sqt 1 rfl (pur 1 rfl (sqt 5 rfl (pur 2 rfl ?_)))
 refine clV rfl Zhh rfl rfl (Za1 xs a c g fst cap p hg hl _ _ hp) ?_
 refine pur 2 rfl (Z4 ?_)
 exact rtA rfl rfl rfl ⟨by simp only [ZR];exact Z0v _ _,rfl,rfl⟩ drp
theorem Z9S (x:Gp) (g bf:Nat) (fst cap:List Value) (p:Bool) (hg:cal Tryz.prog g=true) (H:Z8) (R:Z5) [hM:Mem1 bf (cel 245 [.func (.func g) fst.toArray cap.toArray]) H] (hp:∀ b,FnV Tryz.prog g (fst++[.agg (grow x).toArray]++cap) ((b,cel 97 (grow x))::H) R (.bool p)) :
    FnV Tryz.prog 207 [.agg (grow x).toArray,.pointer (some ⟨bf,0,none⟩)] H R (.bool !p):=by
 refine Ze Tryz.func207 rfl Tryz.ntmps207 rfl ?_
 refine sqt 2 rfl (bx rfl rfl rfl (fun b2=>pur 1 rfl (sqt 5 rfl (spL rfl rfl (lh Zk9 rfl rfl) rfl (spL rfl rfl (lhA [_,_] Zc6 rfl rfl rfl) rfl ?_)))))
 refine Z5f rfl rfl (hg) rfl rfl (hp _) ?_
 refine pur 2 rfl (Z4 ?_)
 exact rtA rfl rfl rfl ⟨rfl,rfl,rfl⟩ drp
theorem Z3Q (xs:List Gp) (a:Option Addr) (c g:Nat) (fst cap:List Value) (p:Gp→Bool) (hg:cal Tryz.prog g=true) (hl:xs.length≤9223372036854775807) (H:Z8) (R:Z5) [hR:MemRows a 2 (grows xs) R] (hp:∀ b b2 x,x∈xs→FnV Tryz.prog g (fst++[.agg (grow x).toArray]++cap) ((b2,cel 97 (grow x))::(b,cel 245 [.func (.func g) fst.toArray cap.toArray])::H) R (.bool (p x))) :
    FnV Tryz.prog 122 [.slice a xs.length c,.func (.func g) fst.toArray cap.toArray] H R (.bool (xs.all p)):=by
 refine Ze Tryz.func122 rfl Tryz.ntmps122 rfl ?_
 refine sqt 2 rfl (bx rfl rfl rfl (fun b3=>pur 1 rfl (sqt 5 rfl (pur 1 rfl (sp rfl (PE.makeFunc rfl rfl) rfl ?_)))))
 refine clV rfl ZgX rfl rfl (Z9W xs a c 207 [] [_] (fun x=>!p x) ZgY hl _ _ (hp:=fun x hx=>Z9S x g _ fst cap (p x) hg _ _ (hp:=fun b=>hp _ _ x hx))) ?_
 refine pur 2 rfl (Z4 ?_)
 exact rtA rfl rfl rfl ⟨by simp only [ZR];rw [ZQ],rfl,rfl⟩ drp
theorem Za3 (xs:List Sgt) (a:Option Addr) (c g:Nat) (fst cap:List Value) (p:Sgt→Bool) (hg:cal Tryz.prog g=true) (hl:xs.length≤9223372036854775807) (H:Z8) (R:Z5) [hR:MemRows a 3 (srows xs) R] (hp:∀ x,x∈xs→FnV Tryz.prog g (fst++[.agg (ZbG x).toArray]++cap) H R (.bool (p x))) :
    FnV Tryz.prog 260 [.slice a xs.length c,.func (.func g) fst.toArray cap.toArray] H R (.int .i64 (match xs.findIdx? p with | some k=>(k:Int) | none => -1)):=by
 refine Ze Tryz.func260 rfl Tryz.ntmps260 rfl ?_
 refine sqt 1 rfl (pur 1 rfl (Z0 (sqt 3 rfl (pur 1 rfl (sp rfl (PE.lenSl Zi5 rfl) rfl (pur 1 rfl (Z3 ?_)))))))
 refine Zd (ι:={k:Nat // k≤xs.length∧∀ x∈xs.take k,p x=false}) (fun k=>⟨[(0,.slice a xs.length c),(1,.func (.func g) fst.toArray cap.toArray),(7,.int .i64 xs.length),(8,.int .i64 k.1)],H,R⟩) (fun k=>xs.length-k.1) ⟨0,by simp⟩ ?_ (fun k=>?_)
 exact Zj idH
 obtain ⟨k,hk,hn⟩:=k
 dsimp only
 refine sqt 1 rfl (pur 1 rfl (Z0 ?_))
 refine Z2 rfl ?_ ?_<;>intro hc0
 simp only [cS] at hc0
 obtain ⟨x,hx⟩:∃ x,xs[k]?=some x:=⟨_,List.getElem?_eq_getElem (by omega)⟩
 have hxm:=List.mem_of_getElem? hx
 refine Zi (a:=a) (sz:=3) (rows:=srows xs) (by cases xs<;>simp_all [srows]) (fun b off he=>?_)
 subst he
 refine Z1 (Z0 (Z3 (sqt 2 rfl (pur 2 rfl (sqt 6 rfl (pur 3 rfl (sp rfl (PE.indexAddr ZkQ rfl rfl (by omega) (by omega)) rfl (spL rfl rfl (lfA Zge (row:=ZbG x) (by simp [srows,hx]) rfl) rfl ?_))))))))
 refine Z5f rfl rfl (hg) rfl rfl (hp x hxm) ?_
 refine Z2 rfl ?_ ?_<;>intro hc1
 refine sqt 2 rfl (pur 2 rfl (Z4 ?_))
 first | (exact rtA rfl rfl rfl ⟨by rw [Zy hx hn hc1];rfl,rfl,rfl⟩ idH) | (exact rtA rfl rfl rfl ⟨by rw [Zs (by simpa using hn)];rfl,rfl,rfl⟩ idH)
 refine Z1 (sqr 2 rfl (sp rfl (PE.add rfl rfl (by omega)) rfl (pur 1 rfl ?_)))
 exact Zc ⟨k+1,by omega,ZT hx hn hc1⟩ idH
 simp only [cS] at hc0
 obtain rfl:k=xs.length:=by omega
 refine Z7 (Z9 (Z9 (Zk (sqt 1 rfl (pur 1 rfl (Z4 ?_))))))
 first | (exact rtA rfl rfl rfl ⟨by rw [Zy hx hn hc1];rfl,rfl,rfl⟩ idH) | (exact rtA rfl rfl rfl ⟨by rw [Zs (by simpa using hn)];rfl,rfl,rfl⟩ idH)
theorem Z9Y (xs:List Sgt) (a:Option Addr) (c g:Nat) (fst cap:List Value) (p:Sgt→Bool) (hg:cal Tryz.prog g=true) (hl:xs.length≤9223372036854775807) (H:Z8) (R:Z5) [hR:MemRows a 3 (srows xs) R] (hp:∀ x,x∈xs→FnV Tryz.prog g (fst++[.agg (ZbG x).toArray]++cap) H R (.bool (p x))) :
    FnV Tryz.prog 204 [.slice a xs.length c,.func (.func g) fst.toArray cap.toArray] H R (.bool (xs.any p)):=by
 refine Ze Tryz.func204 rfl Tryz.ntmps204 rfl ?_
 refine sqt 1 rfl (pur 1 rfl (sqt 5 rfl (pur 2 rfl ?_)))
 refine clV rfl Zhg rfl rfl (Za3 xs a c g fst cap p hg hl _ _ hp) ?_
 refine pur 2 rfl (Z4 ?_)
 exact rtA rfl rfl rfl ⟨by simp only [ZR];exact Z0v _ _,rfl,rfl⟩ drp
theorem Z9U (x:Sgt) (g bf:Nat) (fst cap:List Value) (p:Bool) (hg:cal Tryz.prog g=true) (H:Z8) (R:Z5) [hM:Mem1 bf (cel 243 [.func (.func g) fst.toArray cap.toArray]) H] (hp:∀ b,FnV Tryz.prog g (fst++[.agg (ZbG x).toArray]++cap) ((b,cel 242 (ZbG x))::H) R (.bool p)) :
    FnV Tryz.prog 205 [.agg (ZbG x).toArray,.pointer (some ⟨bf,0,none⟩)] H R (.bool !p):=by
 refine Ze Tryz.func205 rfl Tryz.ntmps205 rfl ?_
 refine sqt 2 rfl (bx rfl rfl rfl (fun b2=>pur 1 rfl (sqt 5 rfl (spL rfl rfl (lh Zk8 rfl rfl) rfl (spL rfl rfl (lhA [_,_,_] Zge rfl rfl rfl) rfl ?_)))))
 refine Z5f rfl rfl (hg) rfl rfl (hp _) ?_
 refine pur 2 rfl (Z4 ?_)
 exact rtA rfl rfl rfl ⟨rfl,rfl,rfl⟩ drp
theorem Z3S (xs:List Sgt) (a:Option Addr) (c g:Nat) (fst cap:List Value) (p:Sgt→Bool) (hg:cal Tryz.prog g=true) (hl:xs.length≤9223372036854775807) (H:Z8) (R:Z5) [hR:MemRows a 3 (srows xs) R] (hp:∀ b b2 x,x∈xs→FnV Tryz.prog g (fst++[.agg (ZbG x).toArray]++cap) ((b2,cel 242 (ZbG x))::(b,cel 243 [.func (.func g) fst.toArray cap.toArray])::H) R (.bool (p x))) :
    FnV Tryz.prog 120 [.slice a xs.length c,.func (.func g) fst.toArray cap.toArray] H R (.bool (xs.all p)):=by
 refine Ze Tryz.func120 rfl Tryz.ntmps120 rfl ?_
 refine sqt 2 rfl (bx rfl rfl rfl (fun b3=>pur 1 rfl (sqt 5 rfl (pur 1 rfl (sp rfl (PE.makeFunc rfl rfl) rfl ?_)))))
 refine clV rfl ZgV rfl rfl (Z9Y xs a c 205 [] [_] (fun x=>!p x) ZgW hl _ _ (hp:=fun x hx=>Z9U x g _ fst cap (p x) hg _ _ (hp:=fun b=>hp _ _ x hx))) ?_
 refine pur 2 rfl (Z4 ?_)
 exact rtA rfl rfl rfl ⟨by simp only [ZR];rw [ZQ],rfl,rfl⟩ drp
theorem Z58 (h:Hse) (hb:1≤h.bins∧h.bins≤7) (sg ss:Value) (n:Int) (H:Z8) (R:Z5) :
    FnV Tryz.prog 63 [h.v sg ss,.int .i64 n] H R (.bool (inB n 0 (h.bins-1))):=by
 refine Ze Tryz.func63 rfl Tryz.ntmps63 rfl ?_
 refine sqt 2 rfl (bx rfl rfl rfl (fun b2=>pur 1 rfl (sqt 6 rfl (pur 1 rfl (sp rfl (PE.fA ZdX rfl) rfl (spL rfl rfl (lh sc3 rfl rfl) rfl (sp rfl (PE.sub rfl rfl (by omega)) rfl ?_)))))))
 refine clV rfl Z80 rfl rfl (Z71 _ _ _ _ _) ?_
 refine pur 1 rfl (Z4 ?_)
 exact rtA rfl rfl rfl ⟨rfl,rfl,rfl⟩ drp
theorem Z9N (x:Sgt) (H:Z8) (R:Z5) :
    FnV Tryz.prog 121 [.agg (ZbG x).toArray] H R (.bool (inB x.week 0 9)):=by
 refine Ze Tryz.func121 rfl Tryz.ntmps121 rfl ?_
 refine sqt 2 rfl (bx rfl rfl rfl (fun b1=>pur 1 rfl (sqt 4 rfl (sp rfl (PE.fA Zff rfl) rfl (spL rfl rfl (lh sc3 rfl rfl) rfl ?_)))))
 refine clV rfl Z80 rfl rfl (Z71 _ _ _ _ _) ?_
 refine pur 1 rfl (Z4 ?_)
 exact rtA rfl rfl rfl ⟨rfl,rfl,rfl⟩ drp
theorem Z9O (h:Hse) (hb:1≤h.bins∧h.bins≤7) (sg ss:Value) (bf:Nat) (x:Gp) (H:Z8) (R:Z5) [hM:Mem1 bf (cel 100 [.func (.func 63) #[h.v sg ss] #[]]) H] :
    FnV Tryz.prog 123 [.agg (grow x).toArray,.pointer (some ⟨bf,0,none⟩)] H R (.bool (inB x.a 0 (h.bins-1)&&inB x.b 0 (h.bins-1))):=by
 refine Ze Tryz.func123 rfl Tryz.ntmps123 rfl ?_
 refine sqt 2 rfl (bx rfl rfl rfl (fun b2=>pur 1 rfl (sqt 11 rfl (spL rfl rfl (lh Z4C rfl rfl) rfl (sp rfl (PE.fA Z0S rfl) rfl (spL rfl rfl (lh sc3 rfl rfl) rfl ?_))))))
 refine Z5f rfl rfl (Zcs) rfl rfl (Z58 h hb sg ss _ _ _) ?_
 refine pur 1 rfl ?_
 refine Zv 8 rfl ?_ ?_<;>intro g8
 refine Z0E rfl rfl rfl rfl rfl (lh Z4C rfl rfl) rfl ?_
 refine spG rfl rfl rfl rfl (PE.fA Z0T rfl) rfl ?_
 refine Z0E rfl rfl rfl rfl rfl (lh sc3 rfl rfl) rfl ?_
 refine ZhG rfl rfl rfl rfl rfl (Zcs) rfl rfl (Z58 h hb sg ss _ _ _) ?_
 refine pur 2 rfl (Z4 ?_)
 exact rtA rfl rfl rfl ⟨by simp_all only [ZR,Bool.true_and,Bool.false_and,cond_true,cond_false],rfl,rfl⟩ drp
 refine pur 6 rfl (Z4 ?_)
 exact rtA rfl rfl rfl ⟨by simp_all only [ZR,Bool.true_and,Bool.false_and,cond_true,cond_false],rfl,rfl⟩ drp
theorem Z9P (h:Hse) (hb:1≤h.bins∧h.bins≤7) (sg ss:Value) (bf:Nat) (x:Sgt) (H:Z8) (R:Z5) [hM:Mem1 bf (cel 100 [.func (.func 63) #[h.v sg ss] #[]]) H] :
    FnV Tryz.prog 124 [.agg (ZbG x).toArray,.pointer (some ⟨bf,0,none⟩)] H R (.bool (inB x.bin 0 (h.bins-1))):=by
 refine Ze Tryz.func124 rfl Tryz.ntmps124 rfl ?_
 refine sqt 2 rfl (bx rfl rfl rfl (fun b2=>pur 1 rfl (sqt 5 rfl (spL rfl rfl (lh Z4C rfl rfl) rfl (sp rfl (PE.fA Zfg rfl) rfl (spL rfl rfl (lh sc3 rfl rfl) rfl ?_))))))
 refine Z5f rfl rfl (Zcs) rfl rfl (Z58 h hb sg ss _ _ _) ?_
 refine pur 1 rfl (Z4 ?_)
 exact rtA rfl rfl rfl ⟨rfl,rfl,rfl⟩ drp
theorem Zgr (x:Gp) (H:Z8) (R:Z5) :
    FnV Tryz.prog 125 [.agg (grow x).toArray] H R (.bool (!decide (x=⟨x.b,x.a⟩))):=by
 refine Ze Tryz.func125 rfl Tryz.ntmps125 rfl ?_
 refine sqt 2 rfl (bx rfl rfl rfl (fun b1=>pur 1 rfl (sqt 8 rfl (spL rfl rfl (lhA (grow x) Zc6 rfl rfl rfl) rfl (sp rfl (PE.fA Z0T rfl) rfl (spL rfl rfl (lh sc3 rfl rfl) rfl (sp rfl (PE.fA Z0S rfl) rfl (spL rfl rfl (lh sc3 rfl rfl) rfl (sp rfl (PE.build (out:=[_,_]) Zim ZbW rfl rfl) rfl (sp rfl (PE.neqAgg [x.a,x.b] [x.b,x.a] (Z1v 10000 97 true 2 ZjU) ZjW rfl rfl rfl rfl) rfl (pur 1 rfl (Z4 ?_))))))))))))
 exact rtA rfl rfl rfl ⟨by simp only [ZR];cases x;simp [Gp.mk.injEq],rfl,rfl⟩ drp
theorem Z2Z (h:Hse) (ag as_:Option Addr) (cg cs:Nat) (hlg:h.gaps.length≤9223372036854775807) (hls:h.sights.length≤9223372036854775807) (H:Z8) (R:Z5) [hG:MemRows ag 2 (grows h.gaps) R] [hS:MemRows as_ 3 (srows h.sights) R] :
    FnV Tryz.prog 61 [h.v (h.sg ag cg) (h.ss as_ cs)] H R (.int .i64 h.check):=by
 refine Ze Tryz.func61 rfl Tryz.ntmps61 rfl ?_
 refine sqt 2 rfl (bx rfl rfl rfl (fun b1=>pur 1 rfl (sqt 4 rfl (spL rfl rfl (lhA (htl h (h.sg ag cg) (h.ss as_ cs)) ZbY rfl rfl rfl) rfl (sp rfl (PE.makeFunc rfl rfl) rfl (alc rfl Zkg rfl (fun b3=>?_)))))))
 refine sto rfl rfl rfl ZjN rfl rfl rfl rfl ?_
 refine Z0 (Z3 (sqt 17 rfl (sp rfl (PE.fA ZdX rfl) rfl (spL rfl rfl (lh sc3 rfl rfl) rfl ?_))))
 refine clV rfl Z80 rfl rfl (Z71 _ _ _ _ _) ?_
 refine pur 2 rfl ?_
 refine Zv 11 rfl ?_ ?_<;>intro g11
 refine pur 12 rfl ?_
 refine Zt rfl ?_
 refine sqt 1 rfl (pur 1 rfl (Z4 ?_))
 exact rtA rfl rfl rfl ⟨congrArg (Value.int .i64) (by have e10:decide ((10:Int)<(h.gaps.length:Int))=decide (10<h.gaps.length):=decide_eq_decide.2 (by omega);have e8:decide ((8:Int)<(h.sights.length:Int))=decide (8<h.sights.length):=decide_eq_decide.2 (by omega);simp_all only [ZR,Hse.check,cond_true,cond_false,Bool.not_true,Bool.not_false,Bool.not_eq_true',Bool.not_eq_false',Bool.true_or,Bool.or_true,Bool.false_or,Bool.or_false]),rfl,rfl⟩ (fun w h=>by first | exact (h.del b3).del b1 | exact h.del b1)
 refine spG rfl rfl rfl rfl (PE.fA Z1A rfl) rfl ?_
 refine Z0E rfl rfl rfl rfl rfl (lh Z9v rfl rfl) rfl ?_
 refine spG rfl rfl rfl rfl (PE.lenSl Z98 rfl) rfl ?_
 refine pur 3 rfl ?_
 refine Zv 17 rfl ?_ ?_<;>intro g17
 refine pur 6 rfl ?_
 refine Zt rfl ?_
 refine sqt 1 rfl (pur 1 rfl (Z4 ?_))
 exact rtA rfl rfl rfl ⟨congrArg (Value.int .i64) (by have e10:decide ((10:Int)<(h.gaps.length:Int))=decide (10<h.gaps.length):=decide_eq_decide.2 (by omega);have e8:decide ((8:Int)<(h.sights.length:Int))=decide (8<h.sights.length):=decide_eq_decide.2 (by omega);simp_all only [ZR,Hse.check,cond_true,cond_false,Bool.not_true,Bool.not_false,Bool.not_eq_true',Bool.not_eq_false',Bool.true_or,Bool.or_true,Bool.false_or,Bool.or_false]),rfl,rfl⟩ (fun w h=>by first | exact (h.del b3).del b1 | exact h.del b1)
 refine spG rfl rfl rfl rfl (PE.fA ZaE rfl) rfl ?_
 refine Z0E rfl rfl rfl rfl rfl (lh Zkc rfl rfl) rfl ?_
 refine spG rfl rfl rfl rfl (PE.lenSl Zi5 rfl) rfl ?_
 refine pur 3 rfl ?_
 refine Z2 rfl ?_ ?_<;>intro hc0
 refine sqt 1 rfl (pur 1 rfl (Z4 ?_))
 exact rtA rfl rfl rfl ⟨congrArg (Value.int .i64) (by have e10:decide ((10:Int)<(h.gaps.length:Int))=decide (10<h.gaps.length):=decide_eq_decide.2 (by omega);have e8:decide ((8:Int)<(h.sights.length:Int))=decide (8<h.sights.length):=decide_eq_decide.2 (by omega);simp_all only [ZR,Hse.check,cond_true,cond_false,Bool.not_true,Bool.not_false,Bool.not_eq_true',Bool.not_eq_false',Bool.true_or,Bool.or_true,Bool.false_or,Bool.or_false]),rfl,rfl⟩ (fun w h=>by first | exact (h.del b3).del b1 | exact h.del b1)
 refine sqt 5 rfl (sp rfl (PE.fA ZaE rfl) rfl (spL rfl rfl (lh Zkc rfl rfl) rfl ?_))
 refine clV rfl Zdr rfl rfl (Z3S h.sights as_ cs 121 [] [] (fun s=>inB s.week 0 9) ZgB hls _ _ (fun _ _ x _=>Z9N x _ _)) ?_
 refine pur 2 rfl ?_
 refine Z2 rfl ?_ ?_<;>intro hc1
 refine sqt 1 rfl (pur 1 rfl (Z4 ?_))
 exact rtA rfl rfl rfl ⟨congrArg (Value.int .i64) (by have e10:decide ((10:Int)<(h.gaps.length:Int))=decide (10<h.gaps.length):=decide_eq_decide.2 (by omega);have e8:decide ((8:Int)<(h.sights.length:Int))=decide (8<h.sights.length):=decide_eq_decide.2 (by omega);simp_all only [ZR,Hse.check,cond_true,cond_false,Bool.not_true,Bool.not_false,Bool.not_eq_true',Bool.not_eq_false',Bool.true_or,Bool.or_true,Bool.false_or,Bool.or_false]),rfl,rfl⟩ (fun w h=>by first | exact (h.del b3).del b1 | exact h.del b1)
 refine sqt 13 rfl ?_
 have hb7:1≤h.bins∧h.bins≤7:=by
   have h9:inB h.bins 1 7=true:=by simp_all
   simp only [inB,Bool.and_eq_true,decide_eq_true_eq] at h9;exact h9
 refine sp rfl (PE.fA Z1A rfl) rfl (spL rfl rfl (lh Z9v rfl rfl) rfl (sp rfl (PE.makeFunc rfl rfl) rfl ?_))
 refine clV rfl Zds rfl rfl (Z3Q h.gaps ag cg 123 [] [_] (fun g=>inB g.a 0 (h.bins-1)&&inB g.b 0 (h.bins-1)) ZgC hlg _ _ (fun _ _ x _=>Z9O h hb7 (h.sg ag cg) (h.ss as_ cs) b3 x _ _)) ?_
 refine pur 2 rfl ?_
 refine Zv 34 rfl ?_ ?_<;>intro g34
 refine pur 7 rfl ?_
 refine Zt rfl ?_
 refine sqt 1 rfl (pur 1 rfl (Z4 ?_))
 exact rtA rfl rfl rfl ⟨congrArg (Value.int .i64) (by have e10:decide ((10:Int)<(h.gaps.length:Int))=decide (10<h.gaps.length):=decide_eq_decide.2 (by omega);have e8:decide ((8:Int)<(h.sights.length:Int))=decide (8<h.sights.length):=decide_eq_decide.2 (by omega);simp_all only [ZR,Hse.check,cond_true,cond_false,Bool.not_true,Bool.not_false,Bool.not_eq_true',Bool.not_eq_false',Bool.true_or,Bool.or_true,Bool.false_or,Bool.or_false]),rfl,rfl⟩ (fun w h=>by first | exact (h.del b3).del b1 | exact h.del b1)
 refine spG rfl rfl rfl rfl (PE.fA ZaE rfl) rfl ?_
 refine Z0E rfl rfl rfl rfl rfl (lh Zkc rfl rfl) rfl ?_
 refine spG rfl rfl rfl rfl (PE.makeFunc rfl rfl) rfl ?_
 refine Z6e rfl rfl rfl rfl Zdr rfl rfl (Z3S h.sights as_ cs 124 [] [_] (fun s=>inB s.bin 0 (h.bins-1)) ZgD hls _ _ (fun _ _ x _=>Z9P h hb7 (h.sg ag cg) (h.ss as_ cs) b3 x _ _)) ?_
 refine pur 3 rfl ?_
 refine Z2 rfl ?_ ?_<;>intro hc2
 refine sqt 1 rfl (pur 1 rfl (Z4 ?_))
 exact rtA rfl rfl rfl ⟨congrArg (Value.int .i64) (by have e10:decide ((10:Int)<(h.gaps.length:Int))=decide (10<h.gaps.length):=decide_eq_decide.2 (by omega);have e8:decide ((8:Int)<(h.sights.length:Int))=decide (8<h.sights.length):=decide_eq_decide.2 (by omega);simp_all only [ZR,Hse.check,cond_true,cond_false,Bool.not_true,Bool.not_false,Bool.not_eq_true',Bool.not_eq_false',Bool.true_or,Bool.or_true,Bool.false_or,Bool.or_false]),rfl,rfl⟩ (fun w h=>by first | exact (h.del b3).del b1 | exact h.del b1)
 refine sqt 5 rfl (sp rfl (PE.fA Z1A rfl) rfl (spL rfl rfl (lh Z9v rfl rfl) rfl ?_))
 refine clV rfl Zds rfl rfl (Z3Q h.gaps ag cg 125 [] [] (fun g=>!decide (g=⟨g.b,g.a⟩)) ZgE hlg _ _ (fun _ _ x _=>Zgr x _ _)) ?_
 refine pur 2 rfl ?_
 refine Z2 rfl ?_ ?_<;>intro hc3
 refine sqt 1 rfl (pur 1 rfl (Z4 ?_))
 exact rtA rfl rfl rfl ⟨congrArg (Value.int .i64) (by have e10:decide ((10:Int)<(h.gaps.length:Int))=decide (10<h.gaps.length):=decide_eq_decide.2 (by omega);have e8:decide ((8:Int)<(h.sights.length:Int))=decide (8<h.sights.length):=decide_eq_decide.2 (by omega);simp_all only [ZR,Hse.check,cond_true,cond_false,Bool.not_true,Bool.not_false,Bool.not_eq_true',Bool.not_eq_false',Bool.true_or,Bool.or_true,Bool.false_or,Bool.or_false]),rfl,rfl⟩ (fun w h=>by first | exact (h.del b3).del b1 | exact h.del b1)
 refine Z1 (sqt 1 rfl (pur 1 rfl (Z4 ?_)))
 exact rtA rfl rfl rfl ⟨congrArg (Value.int .i64) (by have e10:decide ((10:Int)<(h.gaps.length:Int))=decide (10<h.gaps.length):=decide_eq_decide.2 (by omega);have e8:decide ((8:Int)<(h.sights.length:Int))=decide (8<h.sights.length):=decide_eq_decide.2 (by omega);simp_all only [ZR,Hse.check,cond_true,cond_false,Bool.not_true,Bool.not_false,Bool.not_eq_true',Bool.not_eq_false',Bool.true_or,Bool.or_true,Bool.false_or,Bool.or_false]),rfl,rfl⟩ (fun w h=>by first | exact (h.del b3).del b1 | exact h.del b1)
theorem ir_get {l:List Int} {k:Nat} {x:Int} (h:l[k]?=some x):(irows l)[k]?=some [.int .i64 x]:=by simp [h]
theorem Zu (l:List Int):(irows l).length=l.length:=List.length_map _
theorem Z2c (xs:List Int) (a:Option Addr) (c:Nat) (v:Int) (hl:xs.length≤9223372036854775807) (H:Z8) (R:Z5) [hR:MemRows a 1 (irows xs) R] :
    FnV Tryz.prog 45 [.slice a xs.length c,.int .i64 v] H R (.int .i64 (match xs.findIdx? (fun x=>decide (v=x)) with | some k=>(k:Int) | none => -1)):=by
 refine Ze Tryz.func45 rfl Tryz.ntmps45 rfl ?_
 refine sqt 1 rfl (pur 1 rfl (Z0 (sqt 3 rfl (pur 1 rfl (sp rfl (PE.lenSl ZD rfl) rfl (pur 1 rfl (Z3 ?_)))))))
 refine Zd (ι:={k:Nat // k≤xs.length∧∀ x∈xs.take k,decide (v=x)=false}) (fun k=>⟨[(0,.slice a xs.length c),(1,.int .i64 v),(7,.int .i64 xs.length),(8,.int .i64 k.1)],H,R⟩) (fun k=>xs.length-k.1) ⟨0,by simp⟩ ?_ (fun k=>?_)
 exact Zj idH
 obtain ⟨k,hk,hn⟩:=k
 dsimp only
 refine sqt 1 rfl (pur 1 rfl (Z0 ?_))
 refine Z2 rfl ?_ ?_<;>intro hc0<;>try simp only [cS] at hc0
 obtain ⟨x,hx⟩:∃ x,xs[k]?=some x:=⟨_,List.getElem?_eq_getElem (by omega)⟩
 refine Zi (a:=a) (sz:=1) (rows:=irows xs) (by cases xs<;>simp_all) (fun b off he=>?_)
 subst he
 refine Z1 (Z0 (Z3 (sqt 2 rfl (pur 2 rfl (sqt 6 rfl (pur 3 rfl (sp rfl (PE.indexAddr Z1q rfl rfl (by omega) (by omega)) rfl (spL rfl rfl (lf0 sc3 (ir_get hx) rfl) rfl (pur 1 rfl ?_)))))))))
 refine Z2 rfl ?_ ?_<;>intro hc1
 refine sqt 2 rfl (pur 2 rfl (Z4 ?_))
 first | (exact rtA rfl rfl rfl ⟨by rw [Zy hx hn hc1];rfl,rfl,rfl⟩ idH) | (exact rtA rfl rfl rfl ⟨by rw [Zs (by simpa using hn)];rfl,rfl,rfl⟩ idH)
 refine Z1 (sqr 2 rfl (sp rfl (PE.add rfl rfl (by omega)) rfl (pur 1 rfl ?_)))
 exact Zc ⟨k+1,by omega,ZT hx hn hc1⟩ idH
 obtain rfl:k=xs.length:=by omega
 refine Z7 (Z9 (Z9 (Zk (sqt 1 rfl (pur 1 rfl (Z4 ?_))))))
 first | (exact rtA rfl rfl rfl ⟨by rw [Zy hx hn hc1];rfl,rfl,rfl⟩ idH) | (exact rtA rfl rfl rfl ⟨by rw [Zs (by simpa using hn)];rfl,rfl,rfl⟩ idH)
theorem c_contains_int (xs:List Int) (a:Option Addr) (c:Nat) (v:Int) (hl:xs.length≤9223372036854775807) (H:Z8) (R:Z5) [hR:MemRows a 1 (irows xs) R] :
    FnV Tryz.prog 13 [.slice a xs.length c,.int .i64 v] H R (.bool (xs.any fun x=>decide (v=x))):=by
 refine Ze Tryz.func13 rfl Tryz.ntmps13 rfl ?_
 refine sqt 1 rfl (pur 1 rfl (sqt 5 rfl (pur 2 rfl ?_)))
 refine clV rfl ZeQ rfl rfl (Z2c xs a c v hl _ _) ?_
 refine pur 2 rfl (Z4 ?_)
 exact rtA rfl rfl rfl ⟨by simp only [ZR];exact Z0v _ _,rfl,rfl⟩ drp
def Zia (p:Int→Bool) (l:List Int):Int:=bif !(l.all p) then 1 else bif (List.range l.length).any (Z93 l) then 5 else 0
theorem ZhR {l:List Int} {k:Nat} (h:∀ i<k,Z93 l i=false) (hk:k=l.length):(List.range l.length).any (Z93 l)=false:=by
 rw [List.any_eq_false];intro i hi;rw [h i (by have:=List.mem_range.1 hi;omega)];simp
theorem Zf5 {l:List Int} {k:Nat} (hk:k<l.length) (h:Z93 l k=true):(List.range l.length).any (Z93 l)=true:=List.any_eq_true.2 ⟨k,List.mem_range.2 hk,h⟩
theorem Z96 (l:List Int) (k:Nat):(irows l).take k=irows (l.take k):=(List.map_take).symm
theorem Z7b (xs:List Int) (n:Nat) (hn:xs.length=n) (a:Option Addr) (c:Nat) (v:Int) (hl:xs.length≤9223372036854775807) (H:Z8) (R:Z5) [hR:MemRows a 1 (irows xs) R]:FnV Tryz.prog 13 [.slice a n c,.int .i64 v] H R (.bool (hasI xs v)):=by subst hn;exact c_contains_int xs a c v hl H R
set_option maxHeartbeats 400000 in
theorem Zcl (l:List Int) (a:Option Addr) (c g:Nat) (fst cap:List Value) (p:Int→Bool) (hg:cal Tryz.prog g=true) (hl:l.length≤9223372036854775807) (hlc:l.length≤c) (H:Z8) (R:Z5) [hR:MemRows a 1 (irows l) R] (hp:∀ b x,x∈l→FnV Tryz.prog g (fst++[.int .i64 x]++cap) ((b,cel 100 [.func (.func g) fst.toArray cap.toArray])::H) R (.bool (p x))) :
    FnV Tryz.prog 62 [.slice a l.length c,.func (.func g) fst.toArray cap.toArray] H R (.int .i64 (Zia p l)):=by
 refine Ze Tryz.func62 rfl Tryz.ntmps62 rfl ?_
 refine sqt 1 rfl (pur 1 rfl (Z0 (sqt 4 rfl (pur 2 rfl ?_))))
 refine clV rfl ZgF rfl rfl (Z0l l a c g fst cap p hg hl _ _ hp) ?_
 refine pur 1 rfl ?_
 refine Z2 rfl ?_ ?_<;>intro hc0<;>try simp only [cS] at hc0
 refine sqt 1 rfl (pur 1 rfl (Z4 ?_))
 exact rtA rfl rfl rfl ⟨by simp only [ZR];unfold Zia;rw [hc0];rfl,rfl,rfl⟩ drp
 have hall:l.all p=true:=by simpa using hc0
 refine Z1 (Z0 (sqt 3 rfl (pur 1 rfl (sp rfl (PE.lenSl ZD rfl) rfl (pur 1 rfl (Z3 ?_))))))
 refine Zd (ι:={k:Nat // k≤l.length∧∀ i<k,Z93 l i=false}) (fun k=>⟨[(0,.slice a l.length c),(11,.slice a l.length c),(12,.int .i64 l.length),(13,.int .i64 k.1)],H,R⟩) (fun k=>l.length-k.1) ⟨0,Nat.zero_le _,fun i hi=>absurd hi (Nat.not_lt_zero _)⟩ ?_ (fun k=>?_)
 exact Zj idH
 obtain ⟨k,hk,hd⟩:=k
 dsimp only at hk hd ⊢
 refine sqt 1 rfl (pur 1 rfl (Z0 ?_))
 refine Z2 rfl ?_ ?_<;>intro hc1<;>try simp only [cS] at hc1
 obtain ⟨x,hx⟩:∃ x,l[k]?=some x:=⟨_,List.getElem?_eq_getElem (by omega)⟩
 refine Zi (a:=a) (sz:=1) (rows:=irows l) (ne0 (by rw [Zu];omega)) (fun ba oa he=>?_)
 subst he
 refine Z1 (Z0 (Z3 (sqt 5 rfl (pur 1 rfl (sp rfl (PE.indexAddr Z1q rfl rfl (by omega) (by omega)) rfl (spL rfl rfl (lf0 sc3 (ir_get hx) rfl) rfl (pur 2 rfl (sqt 5 rfl (pur 2 rfl (sp rfl (PE.slHi (h:=k) Z18 rfl rfl (by omega)) rfl ?_))))))))))
 refine Sy.heap (fun w h=>(Z96 l k▸St.rowsTake (a:=some ⟨ba,oa,none⟩) (sz:=1) (rows:=irows l) h k)) ?_
 refine pur 1 rfl ?_
 refine clV rfl Z7d rfl rfl (Z7b (l.take k) k (by rw [List.length_take];omega) (some ⟨ba,oa,none⟩) c x (by rw [List.length_take];omega) _ _) ?_
 refine Z2 rfl ?_ ?_<;>intro hc2<;>try simp only [cS] at hc2
 have hdk:Z93 l k=true:=by unfold Z93;rw [Zb4 hx];exact hc2
 refine sqt 1 rfl (pur 1 rfl (Z4 ?_))
 exact rtA rfl rfl rfl ⟨by simp only [ZR];unfold Zia;rw [hall,Zf5 (by omega) hdk];rfl,rfl,rfl⟩ drp
 have hd2:∀ i<k+1,Z93 l i=false:=fun i hi=>by
   rcases Nat.lt_or_ge i k with h1 | h1
   · exact hd i h1
   · obtain rfl:i=k:=by omega
     unfold Z93;rw [Zb4 hx];exact hc2
 refine Z1 (sqr 2 rfl (sp rfl (PE.add rfl rfl (by omega)) rfl (pur 1 rfl ?_)))
 exact Zc ⟨k+1,by omega,hd2⟩ (fun w h=>h.ftail)
 obtain rfl:k=l.length:=by omega
 refine Z7 (Z9 (Z9 (Zk (sqt 1 rfl (pur 1 rfl (Z4 ?_))))))
 exact rtA rfl rfl rfl ⟨by simp only [ZR];unfold Zia;rw [hall,ZhR hd rfl];rfl,rfl,rfl⟩ drp
theorem ZgG:cal Tryz.prog 127=true:=by kernel_rfl
theorem ZgH:cal Tryz.prog 128=true:=by kernel_rfl
theorem Zh0:cal Tryz.prog 209=true:=by kernel_rfl
theorem cn3:ZF Tryz.prog 3=some 1:=by kernel_rfl
theorem ZhN:ZF Tryz.prog 97=some 2:=by kernel_rfl
theorem Z1y:ZY Tryz.prog 247 0=some 0:=by kernel_rfl
theorem ZaA:ZY Tryz.prog 247 1=some 3:=by kernel_rfl
theorem Zk3:ZP Tryz.prog 247=some [(0,3),(3,1)]:=by kernel_rfl
theorem Z5H:Z0h Tryz.prog 173=true:=by kernel_rfl
theorem Zkm:Zr Tryz.prog 247=some ([.int .i64 0,.slice none 0 0,.slice none 0 0,.nilFunc]):=by kernel_rfl
theorem zl3:Zr Tryz.prog 3=some ([.int .i64 0]):=by kernel_rfl
structure Dk where
 h:Hse
 ag:Option Addr
 as_:Option Addr
 cg:Nat
 cs:Nat
 bd:Nat
 fo:Nat
 fst:List Value
 cap:List Value
 cl:Nat
 R0:Z5
def Dk.row (d:Dk):List Value:=[.int .i64 d.h.bins,d.h.sg d.ag d.cg,d.h.ss d.as_ d.cs,.func (.func d.fo) d.fst.toArray d.cap.toArray]
structure Dk.Ok (d:Dk):Prop where
 ok:d.h.ok
 cal:cal Tryz.prog d.fo=true
 op:∀ (i:Nat) (H:Z8) (R:Z5),i<d.h.gaps.length→(∀ g∈d.R0,g∈R)→FnV Tryz.prog d.fo (d.fst++[.int .i64 ((i:Nat):Int)]++d.cap) H R (.bool (!d.cl.testBit i))
structure RchI (gs:List Gp) (cl m:Nat) (w:List Int):Prop where
 len:w.length=7
 at_:∀ k<7,wk gs cl m k≤na w k∧na w k≤far∧(m.testBit k=true→na w k≤0)
theorem Z12 {l:List Int} {i j:Nat} {v:Int} (h:i<l.length):na (l.set i v) j=bif decide (i=j) then v else na l j:=by
 unfold na
 rw [List.getD_eq_getElem?_getD,List.getD_eq_getElem?_getD,List.getElem?_set]
 by_cases e:i=j
 · subst e;rw [if_pos rfl,if_pos h];simp
 · rw [if_neg e,decide_eq_false e];rfl
theorem ZbA {w:List Int} {i k:Nat} {v:Int} (hk:k<w.length) (e:i=k):spl (Za w) i [.int .i64 v]=Za (w.set k v):=by
 subst e
 unfold spl Za
 apply List.ext_getElem?
 intro j
 rw [List.getElem?_map,List.getElem?_set]
 simp only [List.length_singleton]
 rcases Nat.lt_trichotomy j i with h | h | h
 · rw [List.getElem?_append_left (by simp;omega),List.getElem?_append_left (by simp;omega),List.getElem?_take,if_pos h,if_neg (by omega),List.getElem?_map]
 · subst h
   rw [List.getElem?_append_left (by simp;omega),List.getElem?_append_right (by simp;omega),if_pos rfl,if_pos hk]
   simp [show min j w.length=j by omega]
 · rw [List.getElem?_append_right (by simp;omega),if_neg (by omega),List.getElem?_drop,List.getElem?_map]
   congr 2
   simp;omega
def Rlx (gs:List Gp) (cl:Nat) (w0 w:List Int) (k i:Nat):Prop:=(∀ j<7,na w j≤na w0 j)∧(∀ u v,u<k→u<7→v<7→Adj gs cl u v→na w v≤na w0 u+1)∧∀ (q:Nat) (g:Gp) (v:Nat),q<i→gs[q]?=some g→cl.testBit q=false→v<7→((g.a.toNat=k∧g.b.toNat=v)∨(g.b.toNat=k∧g.a.toNat=v))→na w v≤na w0 k+1
theorem Rlx.start (gs:List Gp) (cl:Nat) (w:List Int):Rlx gs cl w w 0 0:=⟨fun _ _=>Int.le_refl _,fun u _ h=>absurd h (Nat.not_lt_zero _),fun q _ _ h=>absurd h (Nat.not_lt_zero _)⟩
theorem Rlx.bin {gs:List Gp} {cl:Nat} {w0 w:List Int} {k:Nat} (h:Rlx gs cl w0 w k gs.length):Rlx gs cl w0 w (k+1) 0:=by
 refine ⟨h.1,fun u v hu hu7 hv ha=>?_,fun q _ _ h=>absurd h (Nat.not_lt_zero _)⟩
 rcases Nat.lt_or_ge u k with h1 | h1
 · exact h.2.1 u v h1 hu7 hv ha
 · obtain rfl:u=k:=by omega
   obtain ⟨q,g,h2,h3,h4⟩:=ha
   exact h.2.2 q g v (List.getElem?_eq_some_iff.1 h2).1 h2 h3 hv h4
theorem Rlx.skip {gs:List Gp} {cl:Nat} {w0 w:List Int} {k i:Nat} (h:Rlx gs cl w0 w k i) {g:Gp} (hg:gs[i]?=some g) (hn:cl.testBit i=true∨(g.a.toNat≠k∧g.b.toNat≠k)):Rlx gs cl w0 w k (i+1):=by
 refine ⟨h.1,h.2.1,fun q g' v hq hg' ho hv he=>?_⟩
 rcases Nat.lt_or_ge q i with h1 | h1
 · exact h.2.2 q g' v h1 hg' ho hv he
 · obtain rfl:q=i:=by omega
   rw [hg] at hg'
   obtain rfl:=Option.some.inj hg'
   rcases hn with h2 | h2
   · rw [ho] at h2;cases h2
   · omega
theorem Rlx.step {gs:List Gp} {cl:Nat} {w0 w w':List Int} {k i:Nat} (h:Rlx gs cl w0 w k i) {g:Gp} (hg:gs[i]?=some g) {v:Nat} (hv:∀ v',((g.a.toNat=k∧g.b.toNat=v')∨(g.b.toNat=k∧g.a.toNat=v'))→v'=v) (hle:∀ j<7,na w' j≤na w j) (hk:k<7) (hs:na w' v≤na w k+1):Rlx gs cl w0 w' k (i+1):=by
 refine ⟨fun j hj=>Int.le_trans (hle j hj) (h.1 j hj),fun u v hu hu7 hv' ha=>Int.le_trans (hle v hv') (h.2.1 u v hu hu7 hv' ha),fun q g' v' hq hg' ho hv' he=>?_⟩
 rcases Nat.lt_or_ge q i with h1 | h1
 · exact Int.le_trans (hle v' hv') (h.2.2 q g' v' h1 hg' ho hv' he)
 · obtain rfl:q=i:=by omega
   rw [hg] at hg'
   obtain rfl:=Option.some.inj hg'
   obtain rfl:=hv v' he
   have:=h.1 k hk
   omega
theorem Rlx.done {gs:List Gp} {cl m:Nat} {w:List Int} {n:Nat} (hn:Wth gs n) (hw:Wth gs 7) (hm:m<2 ^ 7) (hr:RchI gs cl m w) (h:Rlx gs cl w w n 0):w=wks gs cl m:=by
 have h1:=ZbP (gs:=gs) (cl:=cl) (m:=m) (w:=na w) (fun k hk=>(hr.at_ k hk).1) (fun k hk hb=>(hr.at_ k hk).2.2 hb) (fun u v hu hv ha=>h.2.1 u v (ha.lt hn).1 hu hv ha) (fun k hk=>(hr.at_ k hk).2.1) hw hm
 apply List.ext_getElem?
 intro k
 rcases Nat.lt_or_ge k 7 with hk | hk
 · rw [na_get (by rw [hr.len];exact hk),na_get (by rw [ZbQ];exact hk),ZfZ hk,h1 k hk]
 · rw [List.getElem?_eq_none (by rw [hr.len];exact hk),List.getElem?_eq_none (by rw [ZbQ];exact hk)]
abbrev dkA (h:Hse) (ag as_:Option Addr) (cg cs:Nat) (bd:Nat):Dk:=⟨h,ag,as_,cg,cs,bd,127,[],[],0,[]⟩
theorem Zgq (n:Int) (H:Z8) (R:Z5) :
    FnV Tryz.prog 127 [.int .i64 n] H R (.bool true):=by
 refine Ze Tryz.func127 rfl Tryz.ntmps127 rfl ?_
 refine sqt 1 rfl (pur 1 rfl (sqt 1 rfl (pur 1 rfl (Z4 ?_))))
 exact rtA rfl rfl rfl ⟨rfl,rfl,rfl⟩ drp
theorem Z4N (h:Hse) (ag as_:Option Addr) (cg cs:Nat) (hok:h.ok) (bd:Nat):(dkA h ag as_ cg cs bd).Ok:=⟨hok,ZgG,fun i H R _ _=>by
 have e:(!(dkA h ag as_ cg cs bd).cl.testBit i)=true:=by show (!(Nat.testBit 0 i))=true;rw [Nat.zero_testBit];rfl
 rw [e];exact Zgq _ H R⟩
theorem Zgp (h:Hse) (ag as_:Option Addr) (cg cs:Nat) (H:Z8) (R:Z5) :
    Fn Tryz.prog 64 [h.v (h.sg ag cg) (h.ss as_ cs)] H R (fun v H' R'=>∃ bd,v = .pointer (some ⟨bd,0,none⟩)∧H'=H∧R'=RowsA (some ⟨bd,0,none⟩) 4 [(dkA h ag as_ cg cs bd).row]::R):=by
 refine Ze Tryz.func64 rfl Tryz.ntmps64 rfl ?_
 refine sqt 2 rfl (bx rfl rfl rfl (fun b1=>pur 1 rfl (sqt 4 rfl (spL rfl rfl (lhA (htl h (h.sg ag cg) (h.ss as_ cs)) ZbY rfl rfl rfl) rfl (sp rfl (PE.build (out:=[_,_,_,_]) Zk3 Zkm rfl rfl) rfl (bx rfl rfl rfl (fun b5=>pur 1 rfl (Z4 ?_))))))))
 refine Sy.heap (fun w h9=>St.rows (sz:=4) (rows:=[(dkA h ag as_ cg cs b5).row]) (rest:=[]) (h9.pull b5) (by simp [Dk.row])) ?_
 exact rtA rfl rfl rfl ⟨b5,rfl,rfl,rfl⟩ (fun w h9=>h9.del b1)
theorem Zjj (bd:Nat) (n:Int) (H:Z8) (R:Z5) :
    Fn Tryz.prog 128 [.pointer (some ⟨bd,0,none⟩),.int .i64 n] H R (fun v H' R'=>∃ xd xb,v = .func (.func 209) #[] #[.pointer (some ⟨xd,0,none⟩),.pointer (some ⟨xb,0,none⟩)]∧H'=H∧R'=RowsA (some ⟨xb,0,none⟩) 1 [[.int .i64 n]]::RowsA (some ⟨xd,0,none⟩) 1 [[.pointer (some ⟨bd,0,none⟩)]]::R):=by
 refine Ze Tryz.func128 rfl Tryz.ntmps128 rfl ?_
 refine sqt 3 rfl (bx rfl rfl rfl (fun b2=>bx rfl rfl rfl (fun b3=>pur 1 rfl (sqt 2 rfl (sp rfl (PE.makeFunc rfl rfl) rfl (pur 1 rfl (Z4 ?_)))))))
 refine Sy.heap (fun w h9=>St.rows (sz:=1) (rows:=[[.pointer (some ⟨bd,0,none⟩)]]) (rest:=[]) (h9.pull b2) (by simp)) ?_
 refine Sy.heap (fun w h9=>St.rows (sz:=1) (rows:=[[.int .i64 n]]) (rest:=[]) (h9.pull b3) (by simp)) ?_
 exact rtA rfl rfl rfl ⟨b2,b3,rfl,rfl,rfl⟩ idH
set_option maxHeartbeats 400000 in
theorem Zgw (d:Dk) (hd:d.Ok) (n:Int) (hn:0≤n∧n<7) (xd xb lp:Nat) (I:Nat→Z8→Z5→Prop) (E:Z8→Z5→Prop) (hI:∀ k H R,I k H R→RowsA (some ⟨d.bd,0,none⟩) 4 [d.row]∈R∧RowsA d.ag 2 (grows d.h.gaps)∈R∧RowsA (some ⟨xd,0,none⟩) 1 [[.pointer (some ⟨d.bd,0,none⟩)]]∈R∧RowsA (some ⟨xb,0,none⟩) 1 [[.int .i64 n]]∈R∧∀ g∈d.R0,g∈R)
    (hsk:∀ k g H R,d.h.gaps[k]?=some g→(d.cl.testBit k=true∨(g.a≠n∧g.b≠n))→I k H R→I (k+1) H R)
    (hy:∀ k g q o H R,d.h.gaps[k]?=some g→d.cl.testBit k=false→(g.a=n∨g.b=n)→I k H R→Yd Tryz.prog lp [.int .i64 k,.int .i64 (g.a+g.b-n)] ((q,o)::H) R (fun v H' R'=>(v = .bool true∧∃ H2,H'=(q,o)::H2∧I (k+1) H2 R')∨(v = .bool false∧∃ H2,H'=(q,o)::H2∧E H2 R'))) (H:Z8) (R:Z5) (h0:I 0 H R) :
    Fn Tryz.prog 209 [yv lp,.pointer (some ⟨xd,0,none⟩),.pointer (some ⟨xb,0,none⟩)] H R (fun _ H' R'=>I d.h.gaps.length H' R'∨E H' R'):=by
 obtain ⟨h,ag,as_,cg,cs,bd,fo,fst,cap,cl,R0⟩:=d
 obtain ⟨hok,hcal,hop⟩:=hd
 dsimp only at *
 have hgl:=hok.gl
 obtain ⟨hF1,hF2,hF3,hF4,hF5⟩:=hI _ _ _ h0
 haveI:MemRows (some ⟨bd,0,none⟩) 4 [(Dk.mk h ag as_ cg cs bd fo fst cap cl R0).row] R:=⟨hF1⟩
 haveI:MemRows ag 2 (grows h.gaps) R:=⟨hF2⟩
 haveI:MemRows (some ⟨xd,0,none⟩) 1 [[.pointer (some ⟨bd,0,none⟩)]] R:=⟨hF3⟩
 haveI:MemRows (some ⟨xb,0,none⟩) 1 [[.int .i64 n]] R:=⟨hF4⟩
 refine Ze Tryz.func209 rfl Tryz.ntmps209 rfl ?_
 refine sqt 7 rfl (spL rfl rfl (lfB (sz:=1) Z5H rfl) rfl (sp rfl (PE.nilCheck rfl) rfl (sp rfl (PE.fA Z1y rfl) rfl (sp rfl (PE.fA Z1A rfl) rfl (spL rfl rfl (lfB (sz:=4) Z9v rfl) rfl (sp rfl (PE.lenSl Z98 rfl) rfl (pur 1 rfl (Z3 ?_))))))))
 refine Zd (ι:={x:Nat×Z8×Z5 // x.1≤h.gaps.length∧I x.1 x.2.1 x.2.2}) (fun x=>⟨[(0,yv lp),(1,.pointer (some ⟨xd,0,none⟩)),(2,.pointer (some ⟨xb,0,none⟩)),(10,.slice ag h.gaps.length cg),(11,.int .i64 h.gaps.length),(12,.int .i64 x.1.1)],x.1.2.1,x.1.2.2⟩) (fun x=>h.gaps.length-x.1.1) ⟨(0,H,R),Nat.zero_le _,h0⟩ ?_ (fun x=>?_)
 exact Zj idH
 obtain ⟨⟨k,H0,Q0⟩,hk,hI0⟩:=x
 dsimp only at hk hI0 ⊢
 obtain ⟨hF1,hF2,hF3,hF4,hF5⟩:=hI _ _ _ hI0
 haveI:MemRows (some ⟨bd,0,none⟩) 4 [(Dk.mk h ag as_ cg cs bd fo fst cap cl R0).row] Q0:=⟨hF1⟩
 haveI:MemRows ag 2 (grows h.gaps) Q0:=⟨hF2⟩
 haveI:MemRows (some ⟨xd,0,none⟩) 1 [[.pointer (some ⟨bd,0,none⟩)]] Q0:=⟨hF3⟩
 haveI:MemRows (some ⟨xb,0,none⟩) 1 [[.int .i64 n]] Q0:=⟨hF4⟩
 refine sqt 1 rfl (pur 1 rfl (Z0 ?_))
 refine Z2 rfl ?_ ?_<;>intro hc0<;>try simp only [cS] at hc0
 obtain ⟨g,hg⟩:∃ g,h.gaps[k]?=some g:=⟨_,List.getElem?_eq_getElem (by omega)⟩
 have hgo:=hok.gaps g (List.mem_of_getElem? hg)
 have hbn:=hok.bins
 refine Zi (a:=ag) (sz:=2) (rows:=grows h.gaps) (ne0 (by rw [Z48];omega)) (fun bg og he=>?_)
 subst he
 refine Z1 (Z0 (Z3 (sqt 6 rfl (pur 1 rfl (sp rfl (PE.indexAddr ZcC rfl rfl (by omega) (by omega)) rfl (spL rfl rfl (lfA Zc6 (row:=grow g) (Z2w hg) rfl) rfl (alc rfl ZbW rfl (fun b5=>pur 1 rfl ?_))))))))
 refine ZH (l':=grow g) rfl rfl rfl ZhN rfl rfl rfl rfl (nl rfl) ?_
 refine Z0 (sqt 19 rfl (spL rfl rfl (lfB (sz:=1) Z5H rfl) rfl (sp rfl (PE.nilCheck rfl) rfl (sp rfl (PE.fA ZaA rfl) rfl (spL rfl rfl (lfB (sz:=4) Z4C rfl) rfl (pur 1 rfl ?_))))))
 refine Z5f rfl rfl (hcal) rfl rfl (hop k _ _ (by omega) hF5) ?_
 refine pur 2 rfl ?_
 refine Zv 24 rfl ?_ ?_<;>intro g24
 refine pur 5 rfl ?_
 repeat refine spU rfl rfl rfl rfl rfl rfl rfl ?_
 refine pur 2 rfl ?_
 refine Zt rfl ?_
 refine Z7 (Z9 (Zk (sqr 2 rfl (sp rfl (PE.add rfl rfl (by omega)) rfl (pur 1 rfl ?_)))))
 exact Zc ⟨(k+1,H0,Q0),by dsimp only;omega,hsk k g _ _ hg (.inl (by simpa using g24)) hI0⟩ (fun w h9=>h9.tail)
 have hop0:cl.testBit k=false:=by simpa using g24
 refine spG rfl rfl rfl rfl (PE.fA Z0S rfl) rfl ?_
 refine Z0E rfl rfl rfl rfl rfl (lh sc3 rfl rfl) rfl (Z0E rfl rfl rfl rfl rfl (lfB (sz:=1) sc3 rfl) rfl (pur 2 rfl ?_))
 refine Zv 29 rfl ?_ ?_<;>intro g29
 try simp only [cS] at g29
 refine spG rfl rfl rfl rfl (PE.fA Z0T rfl) rfl ?_
 refine Z0E rfl rfl rfl rfl rfl (lh sc3 rfl rfl) rfl (Z0E rfl rfl rfl rfl rfl (lfB (sz:=1) sc3 rfl) rfl (pur 3 rfl ?_))
 refine Z2 rfl ?_ ?_<;>intro hc1<;>try simp only [cS] at hc1
 refine Z7 (Z9 (Zk (sqr 2 rfl (sp rfl (PE.add rfl rfl (by omega)) rfl (pur 1 rfl ?_)))))
 exact Zc ⟨(k+1,H0,Q0),by dsimp only;omega,hsk k g _ _ hg (.inr ⟨g29,hc1⟩) hI0⟩ (fun w h9=>h9.tail)
 have hinc:g.a=n∨g.b=n:=.inr (by omega)
 refine Z1 (sqt 11 rfl (pur 2 rfl (sp rfl (PE.fA Z0S rfl) rfl (spL rfl rfl (lh sc3 rfl rfl) rfl (sp rfl (PE.fA Z0T rfl) rfl (spL rfl rfl (lh sc3 rfl rfl) rfl (sp rfl (PE.add rfl rfl (by omega)) rfl (spL rfl rfl (lfB (sz:=1) sc3 rfl) rfl (sp rfl (PE.sub rfl rfl (by omega)) rfl ?_)))))))))
 refine clY rfl rfl rfl rfl (hy k g b5 _ _ _ hg hop0 hinc hI0) ?_
 rintro v H3 R3 (⟨rfl,H2,rfl,hI3⟩ | ⟨rfl,H2,rfl,hE3⟩)
 refine pur 1 rfl ?_
 refine Zq rfl ?_
 refine Z1 (sqr 2 rfl (sp rfl (PE.add rfl rfl (by omega)) rfl (pur 1 rfl ?_)))
 exact Zc ⟨(k+1,H2,R3),by dsimp only;omega,hI3⟩ (fun w h9=>h9.tail)
 refine pur 1 rfl ?_
 refine Zt rfl ?_
 refine Z4 ?_
 exact Zg (vs:=[]) rfl .nil rfl (.inr hE3) (fun _ h=>h.tail)
 try simp only [cS] at g29
 have hinc:g.a=n∨g.b=n:=.inl (by omega)
 refine pur 6 rfl ?_
 refine Zq rfl ?_
 refine Z1 (sqt 11 rfl (pur 2 rfl (sp rfl (PE.fA Z0S rfl) rfl (spL rfl rfl (lh sc3 rfl rfl) rfl (sp rfl (PE.fA Z0T rfl) rfl (spL rfl rfl (lh sc3 rfl rfl) rfl (sp rfl (PE.add rfl rfl (by omega)) rfl (spL rfl rfl (lfB (sz:=1) sc3 rfl) rfl (sp rfl (PE.sub rfl rfl (by omega)) rfl ?_)))))))))
 refine clY rfl rfl rfl rfl (hy k g b5 _ _ _ hg hop0 hinc hI0) ?_
 rintro v H3 R3 (⟨rfl,H2,rfl,hI3⟩ | ⟨rfl,H2,rfl,hE3⟩)
 refine pur 1 rfl ?_
 refine Zq rfl ?_
 refine Z1 (sqr 2 rfl (sp rfl (PE.add rfl rfl (by omega)) rfl (pur 1 rfl ?_)))
 exact Zc ⟨(k+1,H2,R3),by dsimp only;omega,hI3⟩ (fun w h9=>h9.tail)
 refine pur 1 rfl ?_
 refine Zt rfl ?_
 refine Z4 ?_
 exact Zg (vs:=[]) rfl .nil rfl (.inr hE3) (fun _ h=>h.tail)
 obtain rfl:k=h.gaps.length:=by omega
 refine Z7 (Z9 (Z9 (Zk ?_)))
 exact Z1L (vs:=[]) rfl .nil rfl (.inl hI0) idH
theorem Z8r {w:List Int} {k i:Nat} (hk:k<w.length) (e:i=k):(Za w)[i]?=some (.int .i64 (na w k)):=by
 subst e;exact Z0z (na_get hk)
theorem Zfb {gs:List Gp} {cl i:Nat} {g:Gp} (hg:gs[i]?=some g) (ho:cl.testBit i=false) {k:Nat} (ha:(0≤g.a∧g.a<7)∧(0≤g.b∧g.b<7)∧g.a≠g.b) (h:g.a=k∨g.b=k):∃ v:Nat,g.a+g.b-k=v∧v<7∧Adj gs cl k v∧(∀ v',((g.a.toNat=k∧g.b.toNat=v')∨(g.b.toNat=k∧g.a.toNat=v'))→v'=v)∧((g.a.toNat=k∧g.b.toNat=v)∨(g.b.toNat=k∧g.a.toNat=v)):=by
 rcases h with h | h
 · exact ⟨g.b.toNat,by omega,by omega,⟨i,g,hg,ho,.inl ⟨by omega,rfl⟩⟩,fun v' hv=>by omega,.inl ⟨by omega,rfl⟩⟩
 · exact ⟨g.a.toNat,by omega,by omega,⟨i,g,hg,ho,.inr ⟨by omega,rfl⟩⟩,fun v' hv=>by omega,.inr ⟨by omega,rfl⟩⟩
theorem Z62:apT Tryz.prog 23=some (3,1,8):=by kernel_rfl
theorem Zjz:cal Tryz.prog 61=true:=by kernel_rfl
theorem Zhw:cal Tryz.prog 64=true:=by kernel_rfl
theorem sc4:Z0h Tryz.prog 4=true:=by kernel_rfl
theorem ub4:Tryz.prog.underlying 4=some .bool:=by kernel_rfl
theorem Z4S {n:Int} {l:List Int} (h:Z2D n l=0):(∀ x∈l,0≤x∧x<n)∧l.Nodup:=by
 unfold Z2D at h
 cases h1:l.all fun k=>inB k 0 (n-1) with
 | false=>rw [h1] at h;cases h
 | true =>
   rw [h1] at h
   cases h2:(List.range l.length).any (Z93 l) with
   | true=>rw [h2] at h;cases h
   | false =>
     refine ⟨fun x hx=>?_,?_⟩
     · have:=List.all_eq_true.1 h1 x hx
       simp only [inB,Bool.and_eq_true,decide_eq_true_eq] at this;omega
     · rw [List.nodup_iff_pairwise_ne]
       rw [List.pairwise_iff_getElem]
       intro i j hi hj hij e
       have h3:=List.any_eq_false.1 h2 j (List.mem_range.2 hj)
       apply h3
       unfold Z93
       rw [hasI_iff,Zb4 (List.getElem?_eq_getElem hj),← e]
       exact List.mem_of_getElem? (by rw [List.getElem?_take,if_pos hij,List.getElem?_eq_getElem hi])
theorem Zh1:cal Tryz.prog 211=true:=by kernel_rfl
theorem ZeW:ZF Tryz.prog 23=some 1:=by kernel_rfl
theorem Z26:Z0h Tryz.prog 23=true:=by kernel_rfl
theorem Zel:Zr Tryz.prog 23=some ([.slice none 0 0]):=by kernel_rfl
theorem Zd7 {a:Option Addr} {sz:Nat} {rows:List (List Value)} {w:World} (h:RowsA a sz rows w) (ha:a.isNone=true):rows=[]:=by
 false_or_by_contra
 rename_i h0
 obtain ⟨b,off,e⟩:=Z2K h h0
 rw [e] at ha;cases ha
theorem St.norows {sz:Nat} {H:Z8} {R:Z5} {w:World} (h:St H R w):St H (RowsA none sz []::R) w:=St.also h (fun _ _ i row hi=>by simp at hi)
instance (priority:=low) MemF.ofRows (a:Option Addr) (sz:Nat) (rows:List (List Value)) (R:Z5) [m:MemRows a sz rows R]:MemF (RowsA a sz rows) R:=⟨m.mem⟩
def ClQ (c8:Nat) (H:Z8) (R:Z5):Option (List Int)→Value→Z8→Z5→Prop
 | none,v,H',R'=>v = .bool false∧∃ ov,H'=(c8,cel 23 [ov])::H∧R'=R
 | some x,v,H',R'=>v = .bool true∧∃ a c,x.length≤c∧H'=(c8,cel 23 [.slice a x.length c])::H∧R'=RowsA a 1 (irows x)::R
theorem ClQ.bool {c8:Nat} {H H':Z8} {R R':Z5} {o:Option (List Int)} {v:Value} (h:ClQ c8 H R o v H' R'):∃ b,v = .bool b:=by
 cases o with
 | none=>exact ⟨_,h.1⟩
 | some x=>exact ⟨_,h.1⟩
def Z9s (p:Nat→Bool) (k:Nat):List Int:=((List.range k).filter p).map fun (k:Nat)=>(k:Int)
theorem Z6s (p:Nat→Bool) (k:Nat):Z9s p (k+1)=Z9s p k++(bif p k then [(k:Int)] else []):=by
 unfold Z9s
 rw [List.range_succ,List.filter_append,List.map_append,List.filter_cons]
 cases p k<;>rfl
theorem ZcE (p:Nat→Bool) (k:Nat):(Z9s p k).length≤k:=by
 unfold Z9s
 rw [List.length_map]
 exact Nat.le_trans (List.length_filter_le _ _) (by simp)
theorem Zfc {p:Nat→Bool} {k:Nat} (h:p k=true):Z9s p (k+1)=Z9s p k++[(k:Int)]:=by rw [Z6s,h];rfl
theorem Z8g {p:Nat→Bool} {k:Nat} (h:p k=false):Z9s p (k+1)=Z9s p k:=by rw [Z6s,h];exact List.append_nil _
theorem Z7a (xs:List Int) (a:Option Addr) (c:Nat) (hl:xs.length≤1000000) (H:Z8) (R:Z5) [hR:MemRows a 1 (irows xs) R] :
    Fn Tryz.prog 211 [.slice a xs.length c] H R (fun v H' R'=>∃ o:OSl 3 1 (irows xs),v=o.fs∧H'=o.G++H∧R'=R∧(a.isSome=true→o.here)):=by
 refine Ze Tryz.func211 rfl Tryz.ntmps211 rfl ?_
 refine sqt 1 rfl (pur 1 rfl (Z0 (sqt 2 rfl (pur 1 rfl (sp rfl (PE.eqlNil ZD rfl rfl) rfl ?_)))))
 refine Z2 rfl ?_ ?_<;>intro hc0
 refine Sy.pre (fun w h=>Zd7 (h.now hR.mem) hc0) (fun hnil=>?_)
 obtain rfl:xs=[]:=by simpa [irows] using hnil
 refine sqt 1 rfl (pur 1 rfl (Z4 ?_))
 first
   | exact rtA rfl rfl rfl ⟨o2.cast (by simp),rfl,rfl,rfl,fun _=>ho2⟩ idH
   | exact rtA rfl rfl rfl ⟨OSl.nil _ _,rfl,rfl,rfl,fun h=>by cases a<;>simp_all⟩ idH
 refine Z1 (sqt 4 rfl ?_)
 refine ZiM rfl Z18 rfl (fun o5 ho5=>?_)
 refine pur 1 rfl ?_
 refine ZkI (news:=irows xs) o5 rfl Z62 rfl rfl (Zbs) (by simp [irows]) (by simp [Z05,irows,Value.oneCell']) ⟨by simp [irows];omega,by simp [irows];omega⟩ rfl ho5 (fun o2 ho2=>?_)
 refine pur 1 rfl (Z4 ?_)
 first
   | exact rtA rfl rfl rfl ⟨o2.cast (by simp),rfl,rfl,rfl,fun _=>ho2⟩ idH
   | exact rtA rfl rfl rfl ⟨OSl.nil _ _,rfl,rfl,rfl,fun h=>by cases a<;>simp_all⟩ idH
theorem Z8Y:arN Tryz.prog 267=some (10,1):=by kernel_rfl
theorem ZgJ:cal Tryz.prog 149=true:=by kernel_rfl
theorem ZjA:cal Tryz.prog 62=true:=by kernel_rfl
theorem ZcB:elN Tryz.prog 44=some 1:=by kernel_rfl
theorem Z4a:Z2y Tryz.prog 44=true:=by kernel_rfl
theorem Ziy:slE Tryz.prog 44=some (23,1):=by kernel_rfl
def Hse.botE (h:Hse) (l k:List Int):Int:=bif decide (h.check≠0) then h.check else bif decide (Z2D h.bins l≠0) then Z2D h.bins l else bif decide (Z2D h.bins k≠0) then Z2D h.bins k else bif l.any (hasI k) then 7 else 0
structure Hse.Bot (h:Hse) (l k:List Int):Prop where
 ok:h.ok
 ck:h.check=0
 el:Z2D h.bins l=0
 ek:Z2D h.bins k=0
 no:∀ x∈l,x∉k
theorem Z7U {h:Hse} {l k:List Int} (he:h.botE l k=0):h.Bot l k:=by
 unfold Hse.botE at he
 by_cases h1:h.check=0
 · rw [decide_eq_false (by simpa using h1),cond_false] at he
   by_cases h2:Z2D h.bins l=0
   · rw [decide_eq_false (by simpa using h2),cond_false] at he
     by_cases h3:Z2D h.bins k=0
     · rw [decide_eq_false (by simpa using h3),cond_false] at he
       cases h4:l.any (hasI k) with
       | true=>rw [h4] at he;cases he
       | false=>exact ⟨hse_ok.1 h1,h1,h2,h3,fun x hx hk=>List.any_eq_false.1 h4 x hx (hasI_iff.2 hk)⟩
     · rw [decide_eq_true h3,cond_true] at he;exact absurd he h3
   · rw [decide_eq_true h2,cond_true] at he;exact absurd he h2
 · rw [decide_eq_true h1,cond_true] at he;exact absurd he h1
def frB (gs:List Gp) (fl:List Int) (q:Nat) (u:Int):Bool:=match gs[q]? with | some g=>bif decide (g.a=u) then decide (na fl q<1) else decide (-1<na fl q) | none=>false
theorem Z4R {gs:List Gp} {fl:List Int} {q:Nat} {u:Int} {g:Gp} (h:gs[q]?=some g):frB gs fl q u=bif decide (g.a=u) then decide (na fl q<1) else decide (-1<na fl q):=by unfold frB;rw [h]
theorem ZeJ (k:List Int) (ak:Option Addr) (ck bk:Nat) (hk:k.length≤9223372036854775807) (x:Int) (H:Z8) (R:Z5) [hK:MemRows ak 1 (irows k) R] [hM:Mem1 bk (cel 23 [.slice ak k.length ck]) H] :
    FnV Tryz.prog 149 [.int .i64 x,.pointer (some ⟨bk,0,none⟩)] H R (.bool (hasI k x)):=by
 refine Ze Tryz.func149 rfl Tryz.ntmps149 rfl ?_
 refine sqt 1 rfl (pur 1 rfl (sqt 4 rfl (spL rfl rfl (lh Z26 rfl rfl) rfl (pur 1 rfl ?_))))
 refine clV rfl Z7d rfl rfl (c_contains_int k ak ck x hk _ _) ?_
 refine pur 1 rfl (Z4 ?_)
 exact rtA rfl rfl rfl ⟨rfl,rfl,rfl⟩ drp
set_option maxHeartbeats 400000 in
theorem Zdm (h:Hse) (ag as_:Option Addr) (cg cs:Nat) (hlg:h.gaps.length≤9223372036854775807) (hls:h.sights.length≤9223372036854775807) (l k:List Int) (al ak:Option Addr) (cl ck:Nat) (hl:l.length≤9223372036854775807) (hkl:k.length≤9223372036854775807) (hlc:l.length≤cl) (hkc:k.length≤ck) (H:Z8) (R:Z5) [hG:MemRows ag 2 (grows h.gaps) R] [hS:MemRows as_ 3 (srows h.sights) R] [hL:MemRows al 1 (irows l) R] [hK:MemRows ak 1 (irows k) R] :
    FnV Tryz.prog 78 [h.v (h.sg ag cg) (h.ss as_ cs),.slice al l.length cl,.slice ak k.length ck] H R (.int .i64 (h.botE l k)):=by
 refine Ze Tryz.func78 rfl Tryz.ntmps78 rfl ?_
 refine sqt 3 rfl (bx rfl rfl rfl (fun b3=>bx rfl rfl rfl (fun b5=>pur 1 rfl (Z0 (sqt 3 rfl (spL rfl rfl (lhA (htl h (h.sg ag cg) (h.ss as_ cs)) ZbY rfl rfl rfl) rfl ?_))))))
 refine clV rfl Zjz rfl rfl (Z2Z h ag as_ cg cs hlg hls _ _) ?_
 refine pur 1 rfl (sqt 2 rfl (pur 2 rfl ?_))
 refine Z2 rfl ?_ ?_<;>intro hc0
 have hck:h.check≠0:=of_decide_eq_true hc0
 refine sqt 2 rfl (pur 2 rfl (Z4 ?_))
 exact rtA rfl rfl rfl ⟨by simp only [ZR];unfold Hse.botE;rw [dT hck];rfl,rfl,rfl⟩ drp
 have hck:h.check=0:=Classical.byContradiction fun e=>by rw [decide_eq_true e] at hc0;cases hc0
 have hok:=hse_ok.1 hck
 refine Z1 (Z0 (sqt 5 rfl (pur 1 rfl (spL rfl rfl (lh Z26 rfl rfl) rfl ?_))))
 refine bsl (out:=[_,_]) rfl Ziy Zel rfl rfl rfl rfl rfl rfl (fun b18=>?_)
 refine Sy.heap (fun w h9=>St.rows (sz:=1) (rows:=[[.slice al l.length cl],[.slice ak k.length ck]]) (rest:=[]) (h9.pull b18) (by simp)) ?_
 refine sp rfl (PE.lenSl Z4a rfl) rfl (pur 1 rfl (Z3 ?_))
 refine Zd (ι:={q:Nat // q≤2∧(0<q→Z2D h.bins l=0)∧(1<q→Z2D h.bins k=0)}) (fun q=>⟨[(1,.slice al l.length cl),(3,.pointer (some ⟨b3,0,none⟩)),(5,.pointer (some ⟨b5,0,none⟩)),(18,.slice (some ⟨b18,0,none⟩) 2 2),(19,.int .i64 2),(20,.int .i64 q.1)],(b5,cel 23 [.slice ak k.length ck])::(b3,cel 95 (htl h (h.sg ag cg) (h.ss as_ cs)))::H,RowsA (some ⟨b18,0,none⟩) 1 [[.slice al l.length cl],[.slice ak k.length ck]]::R⟩) (fun q=>2-q.1) ⟨0,by omega,by omega,by omega⟩ ?_ (fun q=>?_)
 exact Zj idH
 obtain ⟨q,hq,hq0,hq1⟩:=q
 dsimp only at hq hq0 hq1 ⊢
 refine sqt 1 rfl (pur 1 rfl (Z0 ?_))
 refine Z2 rfl ?_ ?_<;>intro hc1<;>try simp only [cS] at hc1
 obtain ⟨x,ax,cx,hrow,hX,hxl,hqx⟩:∃ (x:List Int) (ax:Option Addr) (cx:Nat),([[.slice al l.length cl],[.slice ak k.length ck]]:List (List Value))[q]?=some [.slice ax x.length cx]∧RowsA ax 1 (irows x)∈R∧(x.length≤9223372036854775807∧x.length≤cx)∧((q=0∧x=l)∨(q=1∧x=k)):=by
   rcases (show q=0∨q=1 by omega) with rfl | rfl
   · exact ⟨l,al,cl,rfl,hL.mem,⟨hl,hlc⟩,.inl ⟨rfl,rfl⟩⟩
   · exact ⟨k,ak,ck,rfl,hK.mem,⟨hkl,hkc⟩,.inr ⟨rfl,rfl⟩⟩
 haveI:MemRows ax 1 (irows x) R:=⟨hX⟩
 refine Z1 (Z0 (Z3 (sqt 3 rfl (sp rfl (PE.indexAddr ZcB rfl rfl (by omega) (by omega)) rfl (spL rfl rfl (lf0 Z26 hrow rfl) rfl (pur 1 rfl (sqt 5 rfl (pur 1 rfl (spL rfl rfl (lhA (htl h (h.sg ag cg) (h.ss as_ cs)) ZbY rfl rfl rfl) rfl (sp rfl (PE.makeFunc rfl rfl) rfl ?_))))))))))
 refine clV rfl ZjA rfl rfl (Zcl x ax cx 63 [h.v (h.sg ag cg) (h.ss as_ cs)] [] (fun z=>inB z 0 (h.bins-1)) Zcs hxl.1 hxl.2 _ _ (fun _ z _=>Z58 h hok.bins (h.sg ag cg) (h.ss as_ cs) z _ _)) ?_
 refine pur 1 rfl (sqt 2 rfl (pur 2 rfl ?_))
 refine Z2 rfl ?_ ?_<;>intro hc2
 have hle:Z2D h.bins x≠0:=of_decide_eq_true hc2
 refine sqt 2 rfl (pur 2 rfl (Z4 ?_))
 exact rtA rfl rfl rfl ⟨by
   simp only [ZR]
   unfold Hse.botE
   rw [dF (by simpa using hck),cond_false]
   rcases hqx with ⟨rfl,rfl⟩ | ⟨rfl,rfl⟩
   · rw [dT hle];rfl
   · rw [dF (by simpa using hq0 (by omega)),dT hle];rfl,rfl,rfl⟩ drp
 have hle:Z2D h.bins x=0:=Classical.byContradiction fun e=>by rw [show decide (Zia (fun z=>inB z 0 (h.bins-1)) x≠0)=true from decide_eq_true e] at hc2;cases hc2
 refine Z1 (sqr 2 rfl (sp rfl (PE.add rfl rfl (by omega)) rfl (pur 1 rfl ?_)))
 exact Zc ⟨q+1,by omega,fun _=>by rcases hqx with ⟨rfl,rfl⟩ | ⟨rfl,rfl⟩;exact hle;exact hq0 (by omega),fun _=>by rcases hqx with ⟨rfl,rfl⟩ | ⟨rfl,rfl⟩;omega;exact hle⟩ drp
 obtain rfl:q=2:=by omega
 have hel:=hq0 (by omega)
 have hek:=hq1 (by omega)
 have e7:h.botE l k=bif l.any (hasI k) then 7 else 0:=by unfold Hse.botE;rw [dF (by simpa using hck),dF (by simpa using hel),dF (by simpa using hek)];rfl
 refine Z7 (Z9 (Z9 (Zk (Z0 (sqt 3 rfl (pur 1 rfl (sp rfl (PE.makeFunc rfl rfl) rfl ?_)))))))
 refine clV rfl Z4K rfl rfl (Z10 l al cl 149 [] [_] (hasI k) ZgJ hl _ _ (fun x _=>ZeJ k ak ck b5 hkl x _ _)) ?_
 refine Z2 rfl ?_ ?_<;>intro hc3
 refine sqt 1 rfl (pur 1 rfl (Z4 ?_))
 exact rtA rfl rfl rfl ⟨by simp only [ZR];rw [e7,hc3];rfl,rfl,rfl⟩ drp
 refine Z1 (sqt 1 rfl (pur 1 rfl (Z4 ?_)))
 exact rtA rfl rfl rfl ⟨by simp only [ZR];rw [e7,hc3];rfl,rfl,rfl⟩ drp
set_option maxHeartbeats 400000 in
theorem Zgt (d:Dk) (hd:d.Ok) (fl:List Int) (hfl:fl.length=10) (q:Nat) (g:Gp) (hg:d.h.gaps[q]?=some g) (u:Int) (H:Z8) (R:Z5) [hD:MemRows (some ⟨d.bd,0,none⟩) 4 [d.row] R] [hG:MemRows d.ag 2 (grows d.h.gaps) R] [hS:MemRows d.as_ 3 (srows d.h.sights) R] [sR:SubF d.R0 R] :
    FnV Tryz.prog 265 [.pointer (some ⟨d.bd,0,none⟩),.agg (Za fl).toArray,.int .i64 q,.int .i64 u] H R (.bool (frB d.h.gaps fl q u)):=by
 refine Ze Tryz.func265 rfl Tryz.ntmps265 rfl ?_
 refine sqt 2 rfl (bx rfl rfl rfl (fun b5=>pur 1 rfl (Z0 (sqt 11 rfl ?_))))
 have hgl:=(List.getElem?_eq_some_iff.1 hg).1
 have hg10:=hd.ok.gl
 refine Zi (a:=d.ag) (sz:=2) (rows:=grows d.h.gaps) (ne0 (by rw [Z48];omega)) (fun bg og he=>?_)
 haveI:MemRows (some ⟨bg,og,none⟩) 2 (grows d.h.gaps) R:=⟨he▸hG.mem⟩
 refine pur 1 rfl (sp rfl (PE.nilCheck rfl) rfl (sp rfl (PE.fA Z1y rfl) rfl (sp rfl (PE.fA Z1A rfl) rfl (spL rfl rfl (lfB (sz:=4) (x:=.slice (some ⟨bg,og,none⟩) d.h.gaps.length d.cg) Z9v (by show some (d.h.sg d.ag d.cg)=_;unfold Hse.sg;rw [he])) rfl (pur 1 rfl (sp rfl (PE.indexAddr ZcC rfl rfl (by omega) (by omega)) rfl (sp rfl (PE.fA Z0S rfl) rfl (spL rfl rfl (lf0 sc3 (Z2w hg) rfl) rfl (pur 2 rfl ?_)))))))))
 refine Z2 rfl ?_ ?_<;>intro hc0
 refine sqt 5 rfl (pur 1 rfl (sp rfl (PE.indexArr Z8Y rfl rfl (by omega) (by omega)) rfl (spL rfl rfl (lh sc3 rfl (Z8r (w:=fl) (k:=q) (by omega) (by show 0+q*1=q;omega))) rfl (pur 2 rfl (Z4 ?_)))))
 first
   | exact rtA rfl rfl rfl ⟨by simp only [ZR];rw [Z4R hg,hc0];rfl,rfl,rfl⟩ drp
   | exact rtA rfl rfl rfl ⟨by simp only [ZR];rw [Z4R hg];simp_all,rfl,rfl⟩ drp
 refine Z1 (sqt 5 rfl (pur 1 rfl (sp rfl (PE.indexArr Z8Y rfl rfl (by omega) (by omega)) rfl (spL rfl rfl (lh sc3 rfl (Z8r (w:=fl) (k:=q) (by omega) (by show 0+q*1=q;omega))) rfl (pur 2 rfl (Z4 ?_))))))
 first
   | exact rtA rfl rfl rfl ⟨by simp only [ZR];rw [Z4R hg,hc0];rfl,rfl,rfl⟩ drp
   | exact rtA rfl rfl rfl ⟨by simp only [ZR];rw [Z4R hg];simp_all,rfl,rfl⟩ drp
theorem Z2O {p q s vs:List Value} (h:q.length=vs.length):spl (p++(q++s)) p.length vs=p++(vs++s):=by
 unfold spl
 rw [List.take_left,show p.length+vs.length=(p++q).length by simp [h],← List.append_assoc p q s,List.drop_left,List.append_assoc]
theorem Z87 {α:Type} {xs:List α} {i:Nat} (hi:i<xs.length):∃ A y B,xs=A++y::B∧i=A.length:=⟨xs.take i,xs[i],xs.drop (i+1),by rw [← List.drop_eq_getElem_cons hi,List.take_append_drop],by rw [List.length_take];omega⟩
theorem Z0m (l:List Int):(irows l).flatten=Za l:=Z02 l
theorem Z8s (l:List Int):∀ r∈irows l,r.length=1:=fun r hr=>by obtain ⟨z,_,rfl⟩:=List.mem_map.1 hr;rfl
theorem ZbB {xs:List Int} {junk:List Value} {k:Nat} (h:k<xs.length) (v:Int):spl (Za xs++junk) (0+((k:Nat):Int).toNat*1) [.int .i64 v]=Za (xs.set k v)++junk:=by
 rw [show 0+((k:Nat):Int).toNat*1=k by omega]
 obtain ⟨A,y,B,rfl,rfl⟩:=Z87 h
 have h1:=Z2O (p:=Za A) (q:=[.int .i64 y]) (s:=Za B++junk) (vs:=[.int .i64 v]) rfl
 rw [show (Za A).length=A.length by simp [Za]] at h1
 rw [show Za (A++y::B)++junk=Za A++([.int .i64 y]++(Za B++junk)) by simp [Za],h1]
 simp [Za]
theorem ZdZ {xs:List Int} {junk:List Value} {k:Nat} (h:k<xs.length):(Za xs++junk)[0+((k:Nat):Int).toNat*1]?=some (.int .i64 (na xs k)):=by
 rw [show 0+((k:Nat):Int).toNat*1=k by omega,List.getElem?_append_left (by rw [Z6];exact h),Z0z (na_get h)]
def RevI (l xs:List Int) (i:Nat):Prop:=xs.length=l.length∧∀ p<l.length,na xs p=bif decide (p<i∨l.length≤p+i) then na l (l.length-1-p) else na l p
theorem RevI.start (l:List Int):RevI l l 0:=⟨rfl,fun p hp=>by rw [decide_eq_false (by omega)];rfl⟩
theorem RevI.step {l xs:List Int} {i:Nat} (h:RevI l xs i) (hi:i+i+1<l.length):RevI l ((xs.set i (na xs (l.length-1-i))).set (l.length-1-i) (na xs i)) (i+1):=by
 have hl:=h.1
 refine ⟨by rw [List.length_set,List.length_set];exact hl,fun p hp=>?_⟩
 rw [Z12 (by rw [List.length_set];omega)]
 by_cases h1:l.length-1-i=p
 · rw [decide_eq_true h1,cond_true,h.2 i (by omega),decide_eq_false (by omega),decide_eq_true (by omega),cond_true,cond_false]
   congr 1;omega
 · rw [decide_eq_false h1,cond_false,Z12 (by omega)]
   by_cases h2:i=p
   · subst h2
     rw [decide_eq_true rfl,cond_true,h.2 _ (by omega),decide_eq_false (by omega),cond_false,decide_eq_true (by omega)];rfl
   · rw [decide_eq_false h2,cond_false,h.2 p hp]
     have:(p<i∨l.length≤p+i)↔(p<i+1∨l.length≤p+(i+1)):=by omega
     rw [decide_eq_decide.2 this]
theorem RevI.done {l xs:List Int} {i:Nat} (h:RevI l xs i) (hi:l.length≤i+i+1):xs=l.reverse:=by
 apply List.ext_getElem?
 intro p
 rcases Nat.lt_or_ge p l.length with hp | hp
 · rw [na_get (by rw [h.1];exact hp),List.getElem?_reverse hp,na_get (by omega),h.2 p hp]
   by_cases h1:p<i∨l.length≤p+i
   · rw [decide_eq_true h1];rfl
   · rw [decide_eq_false h1,cond_false,show l.length-1-p=p by omega]
 · rw [List.getElem?_eq_none (by rw [h.1];exact hp),List.getElem?_eq_none (by rw [List.length_reverse];exact hp)]
theorem Za7 (l:List Int) (b cap:Nat) (junk:List Value) (hl:l.length≤1000000) (H:Z8) (R:Z5) :
    Fn Tryz.prog 264 [.slice (some ⟨b,0,none⟩) l.length cap] ((b,cel 3 (Za l++junk))::H) R (fun v H' R'=>v = .tuple #[]∧H'=(b,cel 3 (Za l.reverse++junk))::H∧R'=R):=by
 refine Ze Tryz.func264 rfl Tryz.ntmps264 rfl ?_
 refine sqt 5 rfl (pur 1 rfl (sp rfl (PE.lenSl ZD rfl) rfl (sp rfl (PE.sub rfl rfl (by omega)) rfl ?_)))
 rw [show (l.length:Int)-1=(l.length:Int)-1-((0:Nat):Int) from by omega]
 refine pur 2 rfl (Z3 ?_)
 refine Zd (ι:={x:Nat×List Int // x.1≤l.length∧RevI l x.2 x.1}) (fun x=>⟨[(0,.slice (some ⟨b,0,none⟩) l.length cap),(2,.int .i64 x.1.1),(3,.int .i64 ((l.length:Int)-1-x.1.1))],(b,cel 3 (Za x.1.2++junk))::H,R⟩) (fun x=>l.length-x.1.1) ⟨(0,l),Nat.zero_le _,RevI.start l⟩ ?_ (fun x=>?_)
 exact Zj idH
 obtain ⟨⟨i,xs⟩,hi,hr⟩:=x
 dsimp only at hi hr ⊢
 have hxl:=hr.1
 refine Z0 (sqt 3 rfl (pur 3 rfl ?_))
 refine Z2 rfl ?_ ?_<;>intro hc0<;>try simp only [cS] at hc0
 have hii:i+i+1<l.length:=by omega
 rw [show (l.length:Int)-1-i=(((l.length-1-i):Nat):Int) from by omega]
 refine Z1 (Z0 (Z3 ?_))
 refine Zb [0,0,0,0,0,0,48,112,0,0,768,1792,4083,8179,16383,32767] (tks 0 7 (.ld 7 (tks 8 3 (.ld 11 (.tk 12 (.big 13 (.tk 14 (.big 15 .done)))))))) Zo (by kernel_rfl) ?_
 refine Zl 6 rfl (tk rfl (PE.indexAddr Z1q rfl rfl (by omega) (by omega)) rfl (ld rfl rfl (lh sc3 rfl (ZdZ (by omega))) rfl (Zl 2 rfl (tk rfl (PE.indexAddr Z1q rfl rfl (by omega) (by omega)) rfl (ld rfl rfl (lh sc3 rfl (ZdZ (by omega))) rfl (tk rfl (PE.indexAddr Z1q rfl rfl (by omega) (by omega)) rfl ?_))))))
 refine ZH (l':=Za ((xs).set i (na xs (l.length-1-i)))++junk) rfl rfl rfl cn3 rfl rfl rfl (ZbB (show i<xs.length by omega) _) (by rw [List.length_append,Z6];show 0+((i:Nat):Int).toNat*1+1≤_;have:=(show i<xs.length by omega);omega) ?_
 refine bgT (tk rfl (PE.indexAddr Z1q rfl rfl (by omega) (by omega)) rfl ?_)
 refine ZH (l':=Za ((xs.set i (na xs (l.length-1-i))).set (l.length-1-i) (na xs i))++junk) rfl rfl rfl cn3 rfl rfl rfl (ZbB (show (l.length-1-i)<(xs.set i (na xs (l.length-1-i))).length by rw [List.length_set];omega) _) (by rw [List.length_append,Z6];show 0+(((l.length-1-i):Nat):Int).toNat*1+1≤_;have:=(show (l.length-1-i)<(xs.set i (na xs (l.length-1-i))).length by rw [List.length_set];omega);omega) ?_
 refine bgT (sqr 6 rfl (pur 1 rfl (sp rfl (PE.add rfl rfl (by omega)) rfl (pur 1 rfl (sp rfl (PE.sub rfl rfl (by omega)) rfl (pur 2 rfl ?_))))))
 rw [show (((l.length-1-i):Nat):Int)-1=(l.length:Int)-1-((i+1:Nat):Int) from by omega]
 exact Zc ⟨(i+1,(xs.set i (na xs (l.length-1-i))).set (l.length-1-i) (na xs i)),by dsimp only;omega,hr.step hii⟩ idH
 obtain rfl:=hr.done (by omega)
 refine Z7 (Z9 (Z9 (Zk ?_)))
 exact Z1L (vs:=[]) rfl .nil rfl ⟨rfl,rfl,rfl⟩ idH
theorem Z7Z (H:Z8) (R:Z5) :
    FnV Tryz.prog 264 [.slice none 0 0] H R (.tuple #[]):=by
 refine Ze Tryz.func264 rfl Tryz.ntmps264 rfl ?_
 refine sqt 5 rfl (pur 1 rfl (sp rfl (PE.lenSl ZD rfl) rfl (sp rfl (PE.sub rfl rfl (by omega)) rfl (pur 2 rfl (Z3 ?_)))))
 refine Zd (ι:=Unit) (fun _=>⟨[(2,.int .i64 0),(3,.int .i64 (-1))],H,R⟩) (fun x=>0) () ?_ (fun x=>?_)
 exact Zj idH
 refine Z0 (sqt 3 rfl (pur 3 rfl ?_))
 refine Z2 rfl ?_ ?_<;>intro hc0
 exact absurd hc0 (by decide)
 refine Z7 (Z9 (Z9 (Zk ?_)))
 exact Z1L (vs:=[]) rfl .nil rfl ⟨rfl,rfl,rfl⟩ idH
theorem Z3N (l:List Int) (o:OSl 3 1 (irows l)) (hl:l.length≤1000000) (H:Z8) (R:Z5):Fn Tryz.prog 264 [o.fs] (o.G++H) R (fun v H' R'=>∃ o':OSl 3 1 (irows l.reverse),o'.fs=o.fs∧v = .tuple #[]∧H'=o'.G++H∧R'=R):=by
 have hir:(irows l).length=l.length:=List.length_map _
 have hrr:(irows l.reverse).length=l.length:=by rw [List.length_map,List.length_reverse]
 rcases o.is with ⟨h1,h2,h3⟩ | ⟨b,cap,junk,h2,h3,hj,hc,hm⟩
 · have hx:l=[]:=List.map_eq_nil_iff.1 h1
   subst hx
   rw [h2,h3]
   exact Fn.mono (Z7Z H R) (by rintro v H' R' ⟨rfl,rfl,rfl⟩;exact ⟨OSl.nil _ _,rfl,rfl,rfl,rfl⟩)
 · rw [hir] at h2 hj hc
   rw [h2,h3,Z0m]
   exact Fn.mono (Za7 l b cap junk hl H R) (by
     rintro v H' R' ⟨rfl,rfl,rfl⟩
     exact ⟨⟨.slice (some ⟨b,0,none⟩) (irows l.reverse).length cap,[(b,cel 3 ((irows l.reverse).flatten++junk))],Z8s _,.inr ⟨b,cap,junk,rfl,rfl,by rw [hrr];exact hj,by rw [hrr];exact hc,hm⟩⟩,congrArg (fun q=>Value.slice (some ⟨b,0,none⟩) q cap) hrr,rfl,congrArg (fun q=>(b,cel 3 (q++junk))::H) (Z0m l.reverse).symm,rfl⟩)
structure OQ (e sz:Nat) (rows:List (List Value)) where
 b:Nat
 off:Nat
 cap:Nat
 pre:List Value
 junk:List Value
 len:∀ r∈rows,r.length=sz
 pl:pre.length=off
 room:cap*sz≤rows.length*sz+junk.length
 le:rows.length≤cap
 mx:cap≤9223372036854775807
def OQ.fs {e sz:Nat} {rows:List (List Value)} (q:OQ e sz rows):Value:=.slice (some ⟨q.b,q.off,none⟩) rows.length q.cap
def OQ.G {e sz:Nat} {rows:List (List Value)} (q:OQ e sz rows):Z8:=[(q.b,cel e (q.pre++(rows.flatten++q.junk)))]
theorem Z7G {a r j v:List Value} {o:Nat} (e:o=a.length+r.length) (h:v.length≤j.length):spl (a++(r++j)) o v=a++((r++v)++j.drop v.length):=by
 subst e
 unfold spl
 rw [← List.append_assoc a r j,show a.length+r.length=(a++r).length by simp,List.take_left,List.drop_append,List.drop_of_length_le (by omega),List.nil_append]
 simp [List.append_assoc]
theorem Z4n {P:Program} {t ty e sz by_:Nat} (ht:apT P t=some (e,sz,by_)) {rows news:List (List Value)} (q:OQ e sz rows) {T:Z8} {R:Z5} {w:World} (hs:St (q.G++T) R w)
   {ax:Option Addr} {c:Nat} (hr:RowsA ax sz news w) (h0:news≠[]) (h1:Z05 news=true) (hby:(rows.length+news.length)*by_≤140737488355328) (h63:rows.length+news.length≤9223372036854775807) :
   ∃ (q':OQ e sz (rows++news)) (w':World),(Builtin.append_ #[t,t] ty #[q.fs,.slice ax news.length c]).run P w = .ok q'.fs w'∧St (q'.G++T) R w':=by
 unfold apT at ht
 split at ht
 case h_2=>cases ht
 rename_i e' hu
 split at ht
 case h_2=>cases ht
 rename_i i hi
 split at ht
 case h_2=>cases ht
 rename_i z hz
 cases hzs:Nat.beq z.cells.size i.size with
 | false=>rw [hzs] at ht;cases ht
 | true =>
 rw [hzs,cond_true] at ht
 cases ht
 have hzs:=Nat.eq_of_beq_eq_true hzs
 have hnl:=Z5D hr
 obtain ⟨b,off,cap,pre,junk,hl,hpl,hroom0,hle,hmx⟩:=q
 have hlen':∀ r∈rows++news,r.length=i.size:=fun r h=>by rcases List.mem_append.1 h with h | h;exact hl r h;exact hnl r h
 have hnf:=Z0q hnl
 have hrf:=Z0q hl
 obtain ⟨bx,offx,rfl⟩:=Z2K hr h0
 have hcell:∀ j v,news.flatten[j]?=some v→w.cell? ((⟨bx,offx,none⟩:Addr).add j)=some v:=fun j v h=>by rw [ZB];exact Z2L hr j v h
 have hn0:0<news.length:=List.length_pos_iff.2 h0
 have hb:=hs.held (b,cel e (pre++(rows.flatten++junk))) (by simp [OQ.G])
 by_cases hroom:rows.length+news.length≤cap
 · have hm2:(rows.length+news.length)*i.size≤cap*i.size:=Nat.mul_le_mul_right _ hroom
   rw [Nat.add_mul] at hm2
   have hjl:news.flatten.length≤junk.length:=by omega
   have hst:=Z3a (P:=P) (e:=e) (od:=off+rows.length*i.size) (vs:=news.flatten) (List.all_eq_true.2 (Z5A h1)) (by simp only [List.length_append,hrf,hpl];omega) hb
   have hfc:=run_firstCells_some (P:=P) w i.size news.length ⟨bx,offx,none⟩ news.length c news.flatten hnf hcell
   have hsp:spl (pre++(rows.flatten++junk)) (off+rows.length*i.size) news.flatten=pre++((rows++news).flatten++junk.drop news.flatten.length):=by
     rw [Z7G (by rw [hpl,hrf]) hjl,List.flatten_append]
   rw [hsp] at hst
   refine ⟨⟨b,off,cap,pre,junk.drop news.flatten.length,hlen',hpl,by rw [List.length_append,List.length_drop,Nat.add_mul];omega,by rw [List.length_append];exact hroom,hmx⟩,{ w with heap:=w.heap.setIfInBounds b (cel e (pre++((rows++news).flatten++junk.drop news.flatten.length))) },?_,St.set hs⟩
   have e0:(⟨b,off,none⟩:Addr).add (rows.length*i.size)=⟨b,off+rows.length*i.size,none⟩:=by rw [ZB]
   simp [OQ.fs,Builtin.append_,run_underlying hu,sizeOf,typeInfo,hi,Builtin.lenOf,hroom,hfc,e0,hst]
 · have holds:∀ j v,rows.flatten[j]?=some v→w.cell? ((⟨b,off,none⟩:Addr).add j)=some v:=fun j v h=>by
     have hlt:j<rows.flatten.length:=(List.getElem?_eq_some_iff.1 h).1
     rw [ZB,Z0H hb]
     simp only [List.getElem?_toArray]
     rw [List.getElem?_append_right (by omega),show off+j-pre.length=j by omega,List.getElem?_append_left hlt];exact h
   have h2:=run_append_grow (P:=P) w t ty e i z hu hi hz ⟨b,off,none⟩ rows.length cap rows.flatten hrf holds ⟨bx,offx,none⟩ news.length c news.flatten hnf hcell (by omega) (by omega) (growslice_fits (by omega) hby)
   have hge:=grownCap_ge w (rows.length+news.length) cap e
   have hcm:grownCap w (rows.length+news.length) cap e≤maxLen:=grownCap_le_maxLen w _ cap e (by simp only [maxLen];omega)
   refine ⟨⟨w.heap.size,0,grownCap w (rows.length+news.length) cap e,[],(Builtin.zeroCells z.cells (grownCap w (rows.length+news.length) cap e-(rows.length+news.length))).toList,hlen',rfl,?_,by rw [List.length_append];exact hge,by simp only [maxLen] at hcm;omega⟩,w.drew.alloc (.cells (rows.flatten.toArray++news.flatten.toArray++Builtin.zeroCells z.cells (grownCap w (rows.length+news.length) cap e-(rows.length+news.length))) e),?_,?_⟩
   · simp only [Array.length_toList,size_zeroCells,hzs,List.length_append,← Nat.add_mul]
     exact Nat.mul_le_mul_right _ (by omega)
   · exact h2.trans (by simp only [OQ.fs,List.length_append])
   · have h3:=(St.tail hs).drew.alloc (.cells (rows.flatten.toArray++news.flatten.toArray++Builtin.zeroCells z.cells (grownCap w (rows.length+news.length) cap e-(rows.length+news.length))) e)
     rw [show w.drew.heap.size=w.heap.size from rfl] at h3
     have e1:(cel e ([]++((rows++news).flatten++(Builtin.zeroCells z.cells (grownCap w (rows.length+news.length) cap e-(rows.length+news.length))).toList))) = .cells (rows.flatten.toArray++news.flatten.toArray++Builtin.zeroCells z.cells (grownCap w (rows.length+news.length) cap e-(rows.length+news.length))) e:=by
       unfold cel;congr 1;apply Array.toList_inj.1;simp
     show St ((_,_)::T) R _
     rw [e1];exact h3
section
variable {P:Program} {r:Option Nat} {ops:Array Oper} {n:Nat} {L:Zm} {D:List Deferred} {H:Z8} {R:Z5} {K:Act→World→Prop}
 {i d:Nat} {ty:TypeId} {pos:String} {af:Array Edge}
theorem apQ {t e sz by_ c k:Nat} {s x:Operand} {rows news:List (List Value)} (q:OQ e sz rows) {ax:Option Addr} {C:Z8→Z8}
   (ho:ops[i]?=some ⟨some d,.call { callee:=.builtin .append,args := #[s,x],argTypes := #[t,t] },ty,pos,af,none⟩) (ht:apT P t=some (e,sz,by_))
   (hs:ev L s=some q.fs) (hx:ev L x=some (.slice ax k c)) (hr:∀ w,St H R w→RowsA ax sz news w) (hk:news.length=k) (h0:news≠[]) (h1:Z05 news=true)
   (hb:(rows.length+news.length)*by_≤140737488355328∧rows.length+news.length≤9223372036854775807) (hd:Nat.blt d n=true)
   [rp:RepF q.G H C]
   (h:∀ q':OQ e sz (rows++news),Sy n ((d,q'.fs)::L) D (C q'.G) R K):Sy n L D H R (stp P r ops i K):=fun a w ha hD hs0=>by
 subst hk
 obtain ⟨T,p1,p2⟩:=rp.rep
 obtain ⟨q',w',h2,h3⟩:=Z4n ht q (hs0.perm p1) (hr w hs0) h0 h1 hb.1 hb.2
 refine Zp ho (Zh _ rfl _) (v:=q'.fs) (w':=w') ?_ (h q' _ _ (ha.put (by simpa using hd) _) hD (h3.perm (p2 _)))
 simp only [execOp,resolve,invoke,builtin,Sem.run_bind,Sem.run_pure,Result.andThen,List.map_toArray,List.map_cons,List.map_nil,ha.reads _ _ hs,ha.reads _ _ hx]
 rw [show (Builtin.append_ #[t,t] ty #[q.fs,.slice ax news.length c]).run P w=_ from h2]
end
def OQ.cast {e sz:Nat} {rows rows':List (List Value)} (q:OQ e sz rows) (h:rows=rows'):OQ e sz rows':=h▸q
@[simp] theorem OQ.cast_fs {e sz : Nat} {rows rows' : List (List Value)} (q : OQ e sz rows) (h : rows = rows') : (q.cast h).fs = q.fs := by subst h; rfl
@[simp] theorem OQ.cast_G {e sz : Nat} {rows rows' : List (List Value)} (q : OQ e sz rows) (h : rows = rows') : (q.cast h).G = q.G := by subst h; rfl
theorem OQ.pop {e sz:Nat} {row:List Value} {rows:List (List Value)} (q:OQ e sz (row::rows)):∃ q':OQ e sz rows,q'.fs = .slice (if q.cap=1 then some ⟨q.b,q.off,none⟩ else some ⟨q.b,q.off+1*sz,none⟩) rows.length (q.cap-1)∧q'.G=q.G:=by
 obtain ⟨b,off,cap,pre,junk,hl,hpl,hroom,hle,hmx⟩:=q
 have hrl:=hl row (by simp)
 rw [List.length_cons] at hroom hle
 rw [Nat.add_mul] at hroom
 by_cases h1:cap=1
 · have hr0:rows=[]:=List.length_eq_zero_iff.1 (by omega)
   subst hr0
   refine ⟨⟨b,off,cap-1,pre,row++junk,by simp,hpl,by rw [h1];simp,by simp,by omega⟩,?_,?_⟩
   · unfold OQ.fs;dsimp only;rw [if_pos h1]
   · unfold OQ.G;simp
 · refine ⟨⟨b,off+1*sz,cap-1,pre++row,junk,fun r hr=>hl r (by simp [hr]),by rw [List.length_append,hpl,hrl];omega,by rw [Nat.sub_mul];omega,by omega,by omega⟩,?_,?_⟩
   · unfold OQ.fs;dsimp only;rw [if_neg h1]
   · unfold OQ.G;simp [List.append_assoc]
theorem OQ.one {e sz:Nat} (b:Nat) {row:List Value} (h:row.length=sz):∃ q:OQ e sz [row],q.fs = .slice (some ⟨b,0,none⟩) 1 1∧q.G=[(b,cel e row)] :=
 ⟨⟨b,0,1,[],[],by simp [h],rfl,by simp,by simp,by decide⟩,rfl,by unfold OQ.G;simp⟩
theorem Zc4:Z2a Tryz.prog 267=some 10:=by kernel_rfl
theorem ZdF:cal Tryz.prog 264=true:=by kernel_rfl
theorem Zhj:cal Tryz.prog 265=true:=by kernel_rfl
theorem ZjP:ZF Tryz.prog 268=some 1:=by kernel_rfl
theorem Z6o:eqB Tryz.prog 10000 3=some (false,1):=by kernel_rfl
theorem Z4f:Z0A Tryz.prog 268=some (3,3):=by kernel_rfl
theorem Z6H:Z2H Tryz.prog 10000 3=true:=by kernel_rfl
theorem Z7C:Z0h Tryz.prog 268=true:=by kernel_rfl
theorem Zkn:Zr Tryz.prog 268=some ([.map none]):=by kernel_rfl
theorem zv3:zvl Tryz.prog 3=some (.int .i64 0):=by kernel_rfl
def vkv (V:List (Nat×Int)):KV:=V.map fun x=>([(x.1:Int)],.int .i64 x.2)
def vb (V:List (Nat×Int)):List Int:=V.map fun x=>(x.1:Int)
theorem Z1N {V:List (Nat×Int)}:∀ e∈vkv V,e.1.length=1:=fun e he=>by obtain ⟨x,_,rfl⟩:=List.mem_map.1 he;rfl
theorem ZbN {V:List (Nat×Int)} (hn:(V.map (·.1)).Nodup) {u:Nat} {z:Int} (h:(u,z)∈V):(vkv V).get [(u:Int)]=some (.int .i64 z):=by
 induction V with
 | nil=>cases h
 | cons x V ih =>
   rw [List.map_cons,List.nodup_cons] at hn
   unfold vkv KV.get
   rw [List.map_cons,List.find?_cons]
   by_cases e:x.1=u
   · rw [show decide ([(x.1:Int)]=[(u:Int)])=true by simp [e]]
     rcases List.mem_cons.1 h with h1 | h1
     · rw [← h1];rfl
     · exact absurd (List.mem_map.2 ⟨(u,z),h1,rfl⟩) (e▸hn.1)
   · rw [show decide ([(x.1:Int)]=[(u:Int)])=false by simp;omega]
     exact ih hn.2 ((List.mem_cons.1 h).resolve_left fun h1=>e (by rw [← h1]))
theorem ZiE {V:List (Nat×Int)} {u:Nat} (h:u∉V.map (·.1)):(vkv V).get [(u:Int)]=none:=by
 unfold KV.get
 rw [List.find?_eq_none.2,Option.map_none]
 intro e he
 obtain ⟨x,hx,rfl⟩:=List.mem_map.1 he
 have:x.1≠u:=fun e2=>h (List.mem_map.2 ⟨x,hx,e2⟩)
 simp;omega
theorem Z7M {V:List (Nat×Int)} {u:Nat} (h:((vkv V).get [(u:Int)]).isSome=true):u∈V.map (·.1):=Classical.byContradiction fun hn=>by rw [ZiE hn] at h;cases h
theorem Z7N {V:List (Nat×Int)} (hn:(V.map (·.1)).Nodup) {u:Nat} (h:((vkv V).get [(u:Int)]).isSome=false):u∉V.map (·.1):=fun hm=>by
 obtain ⟨x,hx,rfl⟩:=List.mem_map.1 hm
 rw [ZbN hn (show (x.1,x.2)∈V from hx)] at h;cases h
theorem ZbO {V:List (Nat×Int)} {u:Nat} {z:Int} (h:u∉V.map (·.1)):(vkv V).put [(u:Int)] (.int .i64 z)=vkv (V++[(u,z)]):=by
 rw [Z3C (List.findIdx?_eq_none_iff.2 fun e he=>by
   obtain ⟨x,hx,rfl⟩:=List.mem_map.1 he
   have:x.1≠u:=fun e2=>h (List.mem_map.2 ⟨x,hx,e2⟩)
   simp;omega)]
 unfold vkv;rw [List.map_append];rfl
def frV (l:List Int):List (Nat×Int):=(l.map Int.toNat).map fun u=>(u,(-1:Int))
theorem ZaH (l:List Int):(frV l).map (·.1)=l.map Int.toNat:=by unfold frV;rw [List.map_map];simp [Function.comp_def]
theorem ZcH {l:List Int} {k u:Nat} (h:l[k]?=some (u:Int)):frV (l.take (k+1))=frV (l.take k)++[(u,-1)]:=by
 unfold frV;rw [List.take_add_one,h];simp
theorem ZhY {l:List Int} (h:∀ x∈l,0≤x):vb (frV l)=l:=by
 unfold vb frV
 rw [List.map_map,List.map_map]
 have:∀ x∈l,(((fun x:Nat×Int=>(x.1:Int)) ∘ fun u:Nat=>(u,(-1:Int))) ∘ Int.toNat) x=x:=fun x hx=>by have:=h x hx;simp;omega
 rw [List.map_congr_left this,List.map_id']
theorem ZaI {l:List Int} (h:∀ x∈l,0≤x) (hn:l.Nodup):(l.map Int.toNat).Nodup:=by
 rw [List.nodup_iff_pairwise_ne,List.pairwise_map]
 refine (List.nodup_iff_pairwise_ne.1 hn).imp_of_mem fun {a b} ha hb hab e=>?_
 have:=h a ha;have:=h b hb;omega
structure WI (gs:List Gp) (op:Nat→Bool) (f:Nat→Int) (S K:Nat) (V:List (Nat×Int)):Prop where
 s:Srch gs op f S K V
 no:∀ x∈V,K.testBit x.1=false
structure QN (e sz:Nat) (rows:List (List Value)) where
 a:Option Addr
 c:Nat
 G:Z8
 ok:(rows=[]∧a=none∧c=0∧G=[])∨∃ q:OQ e sz rows,q.fs = .slice a rows.length c∧q.G=G
def QN.of {e sz:Nat} {rows:List (List Value)} (q:OQ e sz rows):QN e sz rows:=⟨some ⟨q.b,q.off,none⟩,q.cap,q.G,.inr ⟨q,rfl,rfl⟩⟩
theorem QN.ofO {e sz:Nat} {rows:List (List Value)} (o:OSl e sz rows):∃ z:QN e sz rows,o.fs = .slice z.a rows.length z.c∧o.G=z.G:=by
 rcases o.is with ⟨rfl,h2,h3⟩ | ⟨b,cap,junk,h2,h3,h4,h5,h6⟩
 · exact ⟨⟨none,0,[],.inl ⟨rfl,rfl,rfl,rfl⟩⟩,h2,h3⟩
 · exact ⟨QN.of ⟨b,0,cap,[],junk,o.len,rfl,by omega,h5,h6⟩,h2,h3⟩
def QN.cast {e sz:Nat} {rows rows':List (List Value)} (q:QN e sz rows) (h:rows=rows'):QN e sz rows':=h▸q
theorem QN.cast_a {e sz:Nat} {rows rows':List (List Value)} (q:QN e sz rows) (h:rows=rows'):(q.cast h).a=q.a∧(q.cast h).c=q.c∧(q.cast h).G=q.G:=by subst h;exact ⟨rfl,rfl,rfl⟩
theorem Z3g {V:List (Nat×Int)} {j:Nat} {p:Nat×Int} (h:V[j]?=some p):irows ((vb V).drop j)=[.int .i64 (p.1:Int)]::irows ((vb V).drop (j+1)):=by
 have:(vb V)[j]?=some (p.1:Int):=by unfold vb;rw [List.getElem?_map,h];rfl
 rw [List.drop_eq_getElem_cons (List.getElem?_eq_some_iff.1 this).1,(List.getElem?_eq_some_iff.1 this).2];rfl
theorem ZiD {V:List (Nat×Int)} {j:Nat} (h:j≤V.length) (u:Nat) (z:Int):irows ((vb V).drop j)++[[.int .i64 (u:Int)]]=irows ((vb (V++[(u,z)])).drop j):=by
 have h2:vb (V++[(u,z)])=vb V++[(u:Int)]:=by unfold vb;rw [List.map_append];rfl
 rw [h2,List.drop_append_of_le_length (by unfold vb;rw [List.length_map];exact h)]
 simp [irows]
theorem Z8T (V:List (Nat×Int)):(vb V).length=V.length:=List.length_map _
theorem irl (l:List Int):(irows l).length=l.length:=List.length_map _
theorem ZhZ {gs:List Gp} {op:Nat→Bool} {fl:List Int} {u k v:Nat} {g:Gp} (hg:gs[k]?=some g) (hr:0≤g.a∧0≤g.b) (hop:op k=true) (he:(g.a.toNat=u∧g.b.toNat=v)∨(g.b.toNat=u∧g.a.toNat=v)) (hne:g.a≠g.b) (h:frB gs fl k u=true):Stp gs op (na fl) u k v:=by
 rw [Z4R hg] at h
 refine ⟨g,hg,hop,?_⟩
 by_cases e:g.a=u
 · rw [decide_eq_true e,cond_true,decide_eq_true_eq] at h
   exact .inl ⟨by omega,by omega,h⟩
 · rw [decide_eq_false e,cond_false,decide_eq_true_eq] at h
   exact .inr ⟨by omega,by omega,h⟩
theorem ZjZ {gs:List Gp} {op:Nat→Bool} {fl:List Int} {u k v:Nat} {g:Gp} (hg:gs[k]?=some g) (hr:0≤g.a∧0≤g.b) (hne:g.a≠g.b) (h:frB gs fl k u=false):¬ Stp gs op (na fl) u k v:=by
 rw [Z4R hg] at h
 rintro ⟨g',h1,_,h2⟩
 rw [hg] at h1
 obtain rfl:=Option.some.inj h1
 by_cases e:g.a=u
 · rw [decide_eq_true e,cond_true,decide_eq_false_iff_not] at h
   rcases h2 with h2 | h2<;>omega
 · rw [decide_eq_false e,cond_false,decide_eq_false_iff_not] at h
   rcases h2 with h2 | h2<;>omega
def ZkF (gs:List Gp) (op:Nat→Bool) (f:Nat→Int) (S K:Nat) (H:Z8) (R:Z5):Value→Z8→Z5→Prop:=fun v H' R'=>∃ (V:List (Nat×Int)) (m:Nat) (a:Option Addr) (c:Nat) (l:List (Nat×Nat)),
 v = .tuple #[.slice a l.length c,.map (some m)]∧H'=(m,Zz false (vkv V))::H∧R'=RowsA a 1 (irows (l.map fun x=>(x.1:Int)))::R∧Srch gs op f S K V ∧
 ((l=[]∧Shn gs op f S K V)∨(l≠[]∧∃ u w,WayK gs op f S K u l w∧w∈V.map (·.1)∧∀ x∈V,K.testBit x.1=true→x.1=w))
theorem pW9 {α:Type} (A M H:List α) (b:α):(A++(b::(M++H))).Perm (M++(A++(b::H))):=((List.perm_middle (l₁:=M)).symm.append_left A).trans (List.perm_append_comm_assoc A M _)
def ZkE (gs:List Gp) (op:Nat→Bool) (f:Nat→Int) (S K:Nat) (H:Z8) (R:Z5):Value→Z8→Z5→Prop:=fun v H' R'=>∃ (V:List (Nat×Int)) (m:Nat) (l:List (Nat×Nat)) (o:OSl 3 1 (irows (l.map fun x=>(x.1:Int)))),
 v = .tuple #[o.fs,.map (some m)]∧H'=o.G++((m,Zz false (vkv V))::H)∧R'=R∧Srch gs op f S K V ∧
 ((l=[]∧Shn gs op f S K V)∨(l≠[]∧∃ u w,WayK gs op f S K u l w∧w∈V.map (·.1)∧∀ x∈V,K.testBit x.1=true→x.1=w))
def Zd0 (l:List (Nat×Nat)):List Int:=(l.map fun x=>(x.1:Int)).reverse
theorem Zbk (i u:Nat) (l:List (Nat×Nat)):Zd0 ((i,u)::l)=Zd0 l++[(i:Int)]:=by unfold Zd0;rw [List.map_cons,List.reverse_cons]
theorem Zd1 (l:List (Nat×Nat)):(Zd0 l).reverse=l.map fun x=>(x.1:Int):=by unfold Zd0;rw [List.reverse_reverse]
theorem Z3A {H:Z8} {R:Z5} {kv:KV} {s:Int} {v:Value} {m:Nat} (h1:∀ e∈kv,e.1.length=1) (hg:kv.get [s]=some v) [mm:Mem1 m (Zz false kv) H] :
   ∀ w,St H R w→Lkp Tryz.prog 268 (.map (some m)) (mkv false [s]) false v w:=fun w hw=>by
 have h:=Z0L (b:=false) (m:=m) (H:=H) (R:=R) kv [s] Z4f (KeyT.of Z6o Z6H) (ZZ zv3) rfl h1 false w hw
 rw [hg] at h
 exact h
set_option maxHeartbeats 2000000 in
theorem Zgy (d:Dk) (hd:d.Ok) (fl:List Int) (hfl:fl.length=10) (fr to_:List Int) (af at_:Option Addr) (cf ct:Nat) (hfr:∀ x∈fr,0≤x∧x<7) (hto:∀ x∈to_,0≤x∧x<7) (hnf:fr.Nodup) (hnt:to_.length≤1000000) (hdis:∀ x∈fr,x∉to_) (H:Z8) (R:Z5) [hD:MemRows (some ⟨d.bd,0,none⟩) 4 [d.row] R] [hG:MemRows d.ag 2 (grows d.h.gaps) R] [hS:MemRows d.as_ 3 (srows d.h.sights) R] [sR:SubF d.R0 R] [hF:MemRows af 1 (irows fr) R] [hT:MemRows at_ 1 (irows to_) R] :
    Fn Tryz.prog 225 [.pointer (some ⟨d.bd,0,none⟩),.agg (Za fl).toArray,.slice af fr.length cf,.slice at_ to_.length ct] H R (ZkE d.h.gaps (fun i=>!d.cl.testBit i) (na fl) (msk fr) (msk to_) H R):=by
 refine Z4O Tryz.func225 rfl Tryz.ntmps225 rfl ?_
 refine sqt 5 rfl ?_
 have hok:=hd.ok
 have hbn:=hok.bins
 have hab:∀ (i:Nat) (g:Gp),d.h.gaps[i]?=some g→g.a.toNat≠g.b.toNat:=fun i g hg=>by have:=hok.gaps g (List.mem_of_getElem? hg);omega
 have hfn:∀ x∈fr,0≤x:=fun x hx=>(hfr x hx).1
 have hfl7:fr.length≤7:=by
   have h2:=(ZaI hfn hnf).length_le_of_subset (l₂:=List.range 7) fun v hv=>by
     obtain ⟨x,hx,rfl⟩:=List.mem_map.1 hv
     have:=hfr x hx
     exact List.mem_range.2 (by omega)
   simpa using h2
 have hns:∀ v:Nat,(msk fr).testBit v=true→(msk to_).testBit v=false:=fun v hv=>by
   cases hk:(msk to_).testBit v with
   | false=>rfl
   | true=>exact absurd ((ZN (fun k hk=>(hto k hk).1) v).1 hk) (hdis _ ((ZN hfn v).1 hv))
 refine bx rfl rfl rfl (fun b4=>bx rfl rfl rfl (fun b5=>bx rfl rfl rfl (fun b7=>pur 2 rfl (Z5S (sqt 3 rfl ?_)))))
 refine mkm rfl rfl false (fun m=>?_)
 refine alc rfl Zkn rfl (fun b10=>?_)
 refine sto rfl rfl rfl ZjP rfl rfl rfl rfl ?_
 refine Z0 (sqt 3 rfl (pur 1 rfl (sp rfl (PE.lenSl ZD rfl) rfl (pur 1 rfl (Z3 ?_)))))
 refine Zd (ι:={k:Nat // k≤fr.length}) (fun k=>⟨[(2,.slice af fr.length cf),(4,.pointer (some ⟨b4,0,none⟩)),(5,.pointer (some ⟨b5,0,none⟩)),(7,.pointer (some ⟨b7,0,none⟩)),(10,.pointer (some ⟨b10,0,none⟩)),(24,.slice af fr.length cf),(25,.int .i64 fr.length),(26,.int .i64 k.1)],(b10,cel 268 [.map (some m)])::(m,Zz false (vkv (frV (fr.take k.1))))::(b7,cel 23 [.slice at_ to_.length ct])::(b5,cel 267 (Za fl))::(b4,cel 173 [.pointer (some ⟨d.bd,0,none⟩)])::H,R⟩) (fun k=>fr.length-k.1) ⟨0,Nat.zero_le _⟩ ?_ (fun k=>?_)
 exact Zj idH
 ·
  obtain ⟨k,hk⟩:=k
  dsimp only at hk ⊢
  refine sqt 1 rfl (pur 1 rfl (Z0 ?_))
  refine Z2 rfl ?_ ?_<;>intro hc0<;>try simp only [cS] at hc0
  obtain ⟨x,hx⟩:∃ x,fr[k]?=some x:=⟨_,List.getElem?_eq_getElem (by omega)⟩
  obtain ⟨u,rfl⟩:∃ u:Nat,x=u:=⟨x.toNat,by have:=hfr x (List.mem_of_getElem? hx);omega⟩
  have hun:u∉(frV (fr.take k)).map (·.1):=by
    rw [ZaH]
    intro hm
    obtain ⟨y,hy,e⟩:=List.mem_map.1 hm
    have hy0:=hfn y (List.mem_of_mem_take hy)
    obtain ⟨i,hi⟩:=List.getElem?_of_mem hy
    have hik:i<k:=by have:=(List.getElem?_eq_some_iff.1 hi).1;rw [List.length_take] at this;omega
    rw [List.getElem?_take,if_pos hik] at hi
    have hl1:=(List.getElem?_eq_some_iff.1 hi).1
    have h3:=(List.getElem_inj hnf).1 ((List.getElem?_eq_some_iff.1 hi).2.trans ((show y=(u:Int) by omega).trans (List.getElem?_eq_some_iff.1 hx).2.symm))
    omega
  refine Zi (a:=af) (sz:=1) (rows:=irows fr) (ne0 (by rw [irl];omega)) (fun ba oa he=>?_)
  subst he
  refine Z1 (Z0 (Z3 (sqt 3 rfl (sp rfl (PE.indexAddr Z1q rfl rfl (by omega) (by omega)) rfl (spL rfl rfl (lf0 sc3 (ir_get hx) rfl) rfl (pur 1 rfl (sqr 3 rfl (spL rfl rfl (lh Z7C rfl rfl) rfl (pur 1 rfl ?_)))))))))
  refine mpu (vkv (frV (fr.take k))) [(u:Int)] (v:=.int .i64 (-1)) rfl Z4f (KeyT.of Z6o Z6H) rfl rfl rfl rfl Z1N ?_
  rw [ZbO hun,← ZcH hx]
  refine sqr 2 rfl (sp rfl (PE.add rfl rfl (by omega)) rfl (pur 1 rfl ?_))
  exact Zc ⟨k+1,by omega⟩ idH
  ·
   obtain rfl:k=fr.length:=by omega
   rw [List.take_length]
   refine Z7 (Z9 (Z9 (Zk (sqt 4 rfl (pur 1 rfl ?_)))))
   refine cl rfl Zh1 rfl rfl (Z7a fr af cf (by omega) _ _) ?_
   rintro _ _ R1 ⟨o,rfl,rfl,hR1,_⟩
   obtain rfl:=hR1.symm
   clear hR1
   obtain ⟨z0,hz0,hzG⟩:=QN.ofO o
   rw [hz0,hzG,irl]
   clear hz0 hzG
   refine alc rfl Zel rfl (fun b13=>?_)
   refine sto rfl rfl rfl ZeW rfl rfl rfl rfl ?_
   refine sqt 2 rfl (alc rfl zl3 rfl (fun b14=>?_))
   refine sto rfl rfl rfl cn3 rfl rfl rfl rfl ?_
   refine Z0 (Z5R (Z0 (Z3 ?_)))
   have hvb:irows fr=irows ((vb (frV fr)).drop 0):=by rw [ZhY hfn];rfl
   have hz:=z0.cast_a hvb
   have hs0:Srch d.h.gaps (fun i=>!d.cl.testBit i) (na fl) (msk fr) (msk to_) (frV fr):=Srch.start (ZaI hfn hnf) (fun u hu=>by obtain ⟨x,hx,rfl⟩:=List.mem_map.1 hu;have:=hfr x hx;omega) (fun u=>by
     rw [ZN hfn]
     constructor
     · intro h;exact List.mem_map.2 ⟨_,h,by omega⟩
     · intro h;obtain ⟨x,hx,rfl⟩:=List.mem_map.1 h;have:=hfn x hx;rw [show ((x.toNat:Nat):Int)=x by omega];exact hx)
   have hw0:WI d.h.gaps (fun i=>!d.cl.testBit i) (na fl) (msk fr) (msk to_) (frV fr):=⟨hs0,fun x hx=>by
     have h1:x.1∈(frV fr).map (·.1):=List.mem_map.2 ⟨x,hx,rfl⟩
     rw [ZaH] at h1
     obtain ⟨y,hy,e⟩:=List.mem_map.1 h1
     refine hns x.1 ((ZN hfn _).2 ?_)
     have:=hfn y hy
     rw [show ((x.1:Nat):Int)=y by omega];exact hy⟩
   rw [← hz.1,← hz.2.1,← hz.2.2]
   have hfe:fr.length=(frV fr).length-0:=by unfold frV;simp
   rw [show Value.slice (z0.cast hvb).a fr.length (z0.cast hvb).c = .slice (z0.cast hvb).a ((frV fr).length-0) (z0.cast hvb).c by rw [← hfe]]
   refine Z1f (ι:=(y:{y:List (Nat×Int)×Nat×List Nat // WI d.h.gaps (fun i=>!d.cl.testBit i) (na fl) (msk fr) (msk to_) y.1∧y.2.1≤y.1.length∧∀ q x,q<y.2.1→y.1[q]?=some x→∀ i v,Stp d.h.gaps (fun i=>!d.cl.testBit i) (na fl) x.1 i v→v∈y.1.map (·.1)})×QN 3 1 (irows ((vb y.1.1).drop y.1.2.1))) (fun y=>⟨[(4,.pointer (some ⟨b4,0,none⟩)),(5,.pointer (some ⟨b5,0,none⟩)),(7,.pointer (some ⟨b7,0,none⟩)),(10,.pointer (some ⟨b10,0,none⟩)),(13,.pointer (some ⟨b13,0,none⟩)),(14,.pointer (some ⟨b14,0,none⟩))],mks y.1.1.2.2,(b14,cel 3 [.int .i64 (-1)])::(b13,cel 23 [.slice y.2.a (y.1.1.1.length-y.1.1.2.1) y.2.c])::(y.2.G++((b10,cel 268 [.map (some m)])::(m,Zz false (vkv (y.1.1.1)))::(b7,cel 23 [.slice at_ to_.length ct])::(b5,cel 267 (Za fl))::(b4,cel 173 [.pointer (some ⟨d.bd,0,none⟩)])::(mkh y.1.1.2.2++H))),R⟩) (fun y=>8-y.1.1.2.1) ⟨⟨(frV fr,0,[]),hw0,Nat.zero_le _,fun q x h=>absurd h (Nat.not_lt_zero _)⟩,z0.cast hvb⟩ ?_ (fun y=>?_)
   exact Z4t sbA rfl idH
   ·
    obtain ⟨⟨⟨V,j,mk⟩,hwi,hjv,hcl⟩,a,c,G,hz⟩:=y
    dsimp only at hwi hjv hcl hz ⊢
    have hfew:=hwi.s.few
    refine Z0 (sqt 3 rfl (spL rfl rfl (lh Z26 rfl rfl) rfl (sp rfl (PE.lenSl ZD rfl) rfl (pur 1 rfl ?_))))
    refine Z2 rfl ?_ ?_<;>intro hc1<;>try simp only [cS] at hc1
    ·
     obtain ⟨p,hp⟩:∃ p,V[j]?=some p:=⟨_,List.getElem?_eq_getElem (by omega)⟩
     obtain ⟨u,zu⟩:=p
     rcases hz with ⟨h0,_⟩ | ⟨q,hqf,rfl⟩
     · exfalso;have:=congrArg List.length h0;rw [irl,List.length_drop,Z8T,List.length_nil] at this;omega
     unfold OQ.fs at hqf
     cases hqf
     have hu7:=hwi.s.lt _ (List.mem_of_getElem? hp)
     dsimp only at hu7
     refine Sy.heap (H':=(b14,cel 3 [.int .i64 (-1)])::(b13,cel 23 [.slice (some ⟨q.b,q.off,none⟩) (V.length-j) q.cap])::(q.b,cel 3 (q.pre++((irows ((vb V).drop j)).flatten++q.junk)))::((b10,cel 268 [.map (some m)])::(m,Zz false (vkv (V)))::(b7,cel 23 [.slice at_ to_.length ct])::(b5,cel 267 (Za fl))::(b4,cel 173 [.pointer (some ⟨d.bd,0,none⟩)])::(mkh mk++H))) idH ?_
     have hat:(q.pre++((irows ((vb V).drop j)).flatten++q.junk))[q.off+(0:Int).toNat*1]?=some (.int .i64 (u:Int)):=by
       have hfl2:(irows ((vb V).drop j)).flatten = .int .i64 (u:Int)::(irows ((vb V).drop (j+1))).flatten:=by rw [Z3g hp,List.flatten_cons];rfl
       rw [hfl2,show q.off+(0:Int).toNat*1=q.pre.length by rw [q.pl];simp,List.getElem?_append_right (Nat.le_refl _),Nat.sub_self];rfl
     obtain ⟨q2,hq2,hqG2⟩:=(q.cast (Z3g hp)).pop
     have hqc:(q.cast (Z3g hp)).b=q.b∧(q.cast (Z3g hp)).off=q.off∧(q.cast (Z3g hp)).cap=q.cap:=by
       generalize Z3g hp=e
       generalize [Value.int .i64 ((u,zu).1:Int)]::irows ((vb V).drop (j+1))=r at e
       subst e;exact ⟨rfl,rfl,rfl⟩
     rw [hqc.1,hqc.2.1,hqc.2.2,irl,List.length_drop,Z8T] at hq2
     rw [OQ.cast_G] at hqG2
     refine Z1 (Z3 (sqt 5 rfl (spL rfl rfl (lh Z26 rfl rfl) rfl (sp rfl (PE.indexAddr Z1q rfl rfl (by omega) (by omega)) rfl (spL rfl rfl (lh sc3 rfl hat) rfl (alc rfl zl3 rfl (fun b15=>?_)))))))
     refine sto rfl rfl rfl cn3 rfl rfl rfl rfl ?_
     refine sqt 3 rfl (spL rfl rfl (lh Z26 rfl rfl) rfl (sp rfl (PE.slLoA (l:=1) Z18 rfl rfl (by omega)) rfl ?_))
     have hq2e:Value.slice (if q.cap=1 then some ⟨q.b,q.off,none⟩ else (some (⟨q.b,q.off,none⟩:Addr)).map (·.add (1*1))) (V.length-j-1) (q.cap-1)=q2.fs:=by
       rw [hq2,Option.map_some,ZB,show V.length-(j+1)=V.length-j-1 by omega]
     rw [hq2e]
     refine ZH (l':=[q2.fs]) rfl rfl rfl ZeW rfl rfl rfl rfl (Nat.le_refl _) ?_
     refine Sy.heap (H':=(b15,cel 3 [.int .i64 (u:Int)])::(b14,cel 3 [.int .i64 (-1)])::(b13,cel 23 [q2.fs])::(q2.G++((b10,cel 268 [.map (some m)])::(m,Zz false (vkv (V)))::(b7,cel 23 [.slice at_ to_.length ct])::(b5,cel 267 (Za fl))::(b4,cel 173 [.pointer (some ⟨d.bd,0,none⟩)])::(mkh mk++H)))) (fun w h=>by rw [hqG2];exact h) ?_
     refine sqt 3 rfl (spL rfl rfl (lh Z5H rfl rfl) rfl (spL rfl rfl (lh sc3 rfl rfl) rfl ?_))
     refine cl rfl ZgH rfl rfl (Zjj d.bd (u:Int) _ _) ?_
     rintro _ _ _ ⟨xd,xb,rfl,rfl,rfl⟩
     refine Z3 ?_
     refine Z1g rfl Zh0 (fun c0 bl0 bd0 hcp0 hca0 hcb0 hck0=>?_)
     refine ⟨fun st pend T R'=>(st = .ready∧pend=none∧∃ (E:List (Nat×Int)) (q3:OQ 3 1 (irows ((vb (V++E)).drop (j+1)))),WI d.h.gaps (fun i=>!d.cl.testBit i) (na fl) (msk fr) (msk to_) (V++E)∧(∀ i<d.h.gaps.length,∀ v,Stp d.h.gaps (fun i=>!d.cl.testBit i) (na fl) u i v→v∈(V++E).map (·.1))∧T=(bd0,.deferred (some []))::(b15,cel 3 [.int .i64 (u:Int)])::(b14,cel 3 [.int .i64 (-1)])::(b13,cel 23 [q3.fs])::(q3.G++((b10,cel 268 [.map (some m)])::(m,Zz false (vkv (V++E)))::(b7,cel 23 [.slice at_ to_.length ct])::(b5,cel 267 (Za fl))::(b4,cel 173 [.pointer (some ⟨d.bd,0,none⟩)])::(mkh mk++H)))∧R'=RowsA (some ⟨xb,0,none⟩) 1 [[.int .i64 (u:Int)]]::RowsA (some ⟨xd,0,none⟩) 1 [[.pointer (some ⟨d.bd,0,none⟩)]]::R)∨(st = .done∧pend=some (.exit 2)∧∃ (V2:List (Nat×Int)) (w:Nat) (q3:OQ 3 1 (irows ((vb V2).drop (j+1)))),Srch d.h.gaps (fun i=>!d.cl.testBit i) (na fl) (msk fr) (msk to_) V2∧(msk to_).testBit w=true∧w∈V2.map (·.1)∧(∀ x∈V2,(msk to_).testBit x.1=true→x.1=w)∧T=(bd0,.deferred (some []))::(b15,cel 3 [.int .i64 (u:Int)])::(b14,cel 3 [.int .i64 (w)])::(b13,cel 23 [q3.fs])::(q3.G++((b10,cel 268 [.map (some m)])::(m,Zz false (vkv (V2)))::(b7,cel 23 [.slice at_ to_.length ct])::(b5,cel 267 (Za fl))::(b4,cel 173 [.pointer (some ⟨d.bd,0,none⟩)])::(mkh mk++H)))∧R'=RowsA (some ⟨xb,0,none⟩) 1 [[.int .i64 (u:Int)]]::RowsA (some ⟨xd,0,none⟩) 1 [[.pointer (some ⟨d.bd,0,none⟩)]]::R),
       Fn.mono (Zgw d hd u ⟨by omega,by omega⟩ xd xb bl0 (fun k H' R'=>∃ (E:List (Nat×Int)) (q3:OQ 3 1 (irows ((vb (V++E)).drop (j+1)))),WI d.h.gaps (fun i=>!d.cl.testBit i) (na fl) (msk fr) (msk to_) (V++E)∧(∀ i<k,∀ v,Stp d.h.gaps (fun i=>!d.cl.testBit i) (na fl) u i v→v∈(V++E).map (·.1))∧H'=(bl0,lob c0 .ready none)::(bd0,.deferred (some []))::(b15,cel 3 [.int .i64 (u:Int)])::(b14,cel 3 [.int .i64 (-1)])::(b13,cel 23 [q3.fs])::(q3.G++((b10,cel 268 [.map (some m)])::(m,Zz false (vkv (V++E)))::(b7,cel 23 [.slice at_ to_.length ct])::(b5,cel 267 (Za fl))::(b4,cel 173 [.pointer (some ⟨d.bd,0,none⟩)])::(mkh mk++H)))∧R'=RowsA (some ⟨xb,0,none⟩) 1 [[.int .i64 (u:Int)]]::RowsA (some ⟨xd,0,none⟩) 1 [[.pointer (some ⟨d.bd,0,none⟩)]]::R) (fun H' R'=>∃ (V2:List (Nat×Int)) (w:Nat) (q3:OQ 3 1 (irows ((vb V2).drop (j+1)))),Srch d.h.gaps (fun i=>!d.cl.testBit i) (na fl) (msk fr) (msk to_) V2∧(msk to_).testBit w=true∧w∈V2.map (·.1)∧(∀ x∈V2,(msk to_).testBit x.1=true→x.1=w)∧H'=(bl0,lob c0 .done (some (.exit 2)))::(bd0,.deferred (some []))::(b15,cel 3 [.int .i64 (u:Int)])::(b14,cel 3 [.int .i64 (w)])::(b13,cel 23 [q3.fs])::(q3.G++((b10,cel 268 [.map (some m)])::(m,Zz false (vkv (V2)))::(b7,cel 23 [.slice at_ to_.length ct])::(b5,cel 267 (Za fl))::(b4,cel 173 [.pointer (some ⟨d.bd,0,none⟩)])::(mkh mk++H)))∧R'=RowsA (some ⟨xb,0,none⟩) 1 [[.int .i64 (u:Int)]]::RowsA (some ⟨xd,0,none⟩) 1 [[.pointer (some ⟨d.bd,0,none⟩)]]::R)
         (fun i H' R' h9=>by obtain ⟨_,_,_,_,_,rfl⟩:=h9;exact ⟨List.mem_cons_of_mem _ (List.mem_cons_of_mem _ hD.mem),List.mem_cons_of_mem _ (List.mem_cons_of_mem _ hG.mem),by simp,by simp,fun g hg=>List.mem_cons_of_mem _ (List.mem_cons_of_mem _ (sR.sub g hg))⟩)
         (fun i g H' R' hg hn h9=>by
           obtain ⟨E,q3,h1,h2,h3,h4⟩:=h9
           refine ⟨E,q3,h1,fun i' hi' v hs=>?_,h3,h4⟩
           rcases Nat.lt_or_ge i' i with h5 | h5
           · exact h2 i' h5 v hs
           · obtain rfl:i'=i:=by omega
             obtain ⟨g',h6,h7,h8⟩:=hs
             rw [hg] at h6
             obtain rfl:=Option.some.inj h6
             have:=hok.gaps g (List.mem_of_getElem? hg)
             rcases hn with h9 | h9
             · have h7':(!d.cl.testBit i')=true:=h7
               rw [h9] at h7';cases h7'
             · omega)
         (fun k g q9 o9 H' R' hg hop hinc hI=>?_) _ _ ⟨[],q2.cast (by rw [List.append_nil]),by rw [List.append_nil];exact hwi,fun i hi=>absurd hi (Nat.not_lt_zero _),by rw [OQ.cast_fs,OQ.cast_G,List.append_nil],rfl⟩) (fun v H' R' h9=>?_),?_⟩
     rotate_left
     · rcases h9 with ⟨E,q3,h1,h2,rfl,rfl⟩ | ⟨V2,w,q3,h1,h2,h3,h4,rfl,rfl⟩
       · exact ⟨.ready,none,_,by simp,.refl _,.inl ⟨rfl,rfl,E,q3,h1,h2,rfl,rfl⟩⟩
       · exact ⟨.done,some (.exit 2),_,by simp,.refl _,.inr ⟨rfl,rfl,V2,w,q3,h1,h2,h3,h4,rfl,rfl⟩⟩
     rotate_left
     obtain ⟨E,q3,h1,h2,rfl,rfl⟩:=hI
     have hgo:=hok.gaps g (List.mem_of_getElem? hg)
     obtain ⟨v,hv,hv7,hadj,huq,hends⟩:=Zfb hg hop ⟨⟨by omega,by omega⟩,⟨by omega,by omega⟩,hgo.2.2⟩ hinc
     rw [hv]
     have hkg:=(List.getElem?_eq_some_iff.1 hg).1
     have hk10:=hok.gl
     have hfe:=h1.s.few
     obtain ⟨go,hgt⟩:∃ go,(vkv (V++E)).get [(v:Int)]=go:=⟨_,rfl⟩
     have hstep:∀ V2:List (Nat×Int),v∈V2.map (·.1)→∀ v2,Stp d.h.gaps (fun i=>!d.cl.testBit i) (na fl) u k v2→v2∈V2.map (·.1):=fun V2 hm v2 hs=>by
       obtain ⟨g',h6,h7,h8⟩:=hs
       rw [hg] at h6
       obtain rfl:=Option.some.inj h6
       rw [huq v2 (h8.imp (fun h=>⟨h.1,h.2.1⟩) (fun h=>⟨h.1,h.2.1⟩))]
       exact hm
     refine ZiH hcp0 hca0 hcb0 hck0 rfl rfl ?_
     refine sqt 1 rfl (pur 1 rfl (sqr 1 rfl (pur 1 rfl ?_)))
     refine ZK ?_
     refine Z3 (Z0 (sqt 8 rfl (spL rfl rfl (lh Z7C rfl rfl) rfl (pur 1 rfl ?_))))
     refine spK rfl rfl rfl (Z0L (b:=false) (vkv (V++E)) [(v:Int)] Z4f (KeyT.of Z6o Z6H) (ZZ zv3) rfl Z1N true) rfl ?_
     rw [hgt]
     refine pur 5 rfl (sqt 9 rfl (pur 2 rfl ?_))
     refine Zv 55 rfl ?_ ?_<;>intro g55
     have hvm:=Z7M (hgt▸g55)
     refine pur 7 rfl ?_
     refine Zt rfl ?_
     refine Z7 (Z9 (Zk ?_))
     exact Zn (.inl ⟨rfl,_,rfl,E,q3,h1,fun i hi v2 hs=>(Nat.lt_succ_iff_lt_or_eq.1 hi).elim (fun h=>h2 i h v2 hs) (fun e=>by subst e;exact hstep _ hvm v2 hs),rfl,rfl⟩) idH
     have hvn:=Z7N h1.s.nd (hgt▸g55)
     refine Z0E rfl rfl rfl rfl rfl (lh Z5H rfl rfl) rfl (Z0E rfl rfl rfl rfl rfl (lhI fl Zc4 rfl rfl (hfl)) rfl (pur 1 rfl (Z0E rfl rfl rfl rfl rfl (lh sc3 rfl rfl) rfl ?_)))
     refine Z6e rfl rfl rfl rfl Zhj rfl rfl (Zgt d hd fl hfl k g hg (u:Int) _ _) ?_
     refine pur 2 rfl ?_
     refine Z2 rfl ?_ ?_<;>intro hc2
     have hfb:frB d.h.gaps fl k u=false:=by simpa using hc2
     refine Z7 (Z9 (Zk ?_))
     exact Zn (.inl ⟨rfl,_,rfl,E,q3,h1,fun i hi v2 hs=>(Nat.lt_succ_iff_lt_or_eq.1 hi).elim (fun h=>h2 i h v2 hs) (fun e=>by subst e;exact absurd hs (ZjZ hg ⟨by omega,by omega⟩ hgo.2.2 hfb)),rfl,rfl⟩) idH
     have hfb:frB d.h.gaps fl k u=true:=by simpa using hc2
     have hst:Stp d.h.gaps (fun i=>!d.cl.testBit i) (na fl) u k v:=ZhZ hg ⟨by omega,by omega⟩ (by simp [hop]) hends hgo.2.2 hfb
     have hsm:=h1.s.more (j:=j) (y:=(u,zu)) (by rw [List.getElem?_append_left (List.getElem?_eq_some_iff.1 hp).1];exact hp) (hwi.no _ (List.mem_of_getElem? hp)) hst hv7 hvn
     have hsf:=hsm.few
     refine Z1 (sqt 4 rfl (spL rfl rfl (lh Z7C rfl rfl) rfl (pur 2 rfl ?_)))
     refine mpu (vkv (V++E)) [(v:Int)] (v:=.int .i64 (k:Int)) rfl Z4f (KeyT.of Z6o Z6H) rfl rfl rfl rfl Z1N ?_
     rw [ZbO hvn]
     refine sqt 5 rfl (spL rfl rfl (lh Z26 rfl rfl) rfl (pur 1 rfl ?_))
     refine bsl (out:=[_]) rfl Z18 zl3 rfl rfl rfl rfl rfl rfl (fun b68=>?_)
     refine apQ q3 rfl Z62 rfl rfl (Z0B (row:=[.int .i64 (v:Int)]) rfl) rfl (by simp) rfl (by rw [irl,List.length_drop,Z8T];simp only [List.length_singleton];omega) rfl (fun q4=>?_)
     refine ZH (l':=[q4.fs]) rfl rfl rfl ZeW rfl rfl rfl rfl (Nat.le_refl _) ?_
     refine sqt 3 rfl ?_
     obtain ⟨q5,e5,g5⟩:∃ q5:OQ 3 1 (irows ((vb (V++E++[(v,(k:Int))])).drop (j+1))),q5.fs=q4.fs∧q5.G=q4.G:=⟨q4.cast (ZiD (by rw [List.length_append];omega) v k),OQ.cast_fs _ _,OQ.cast_G _ _⟩
     have hvm:v∈(V++E++[(v,(k:Int))]).map (·.1):=by simp
     refine spL rfl rfl (lh Z26 rfl rfl) rfl (pur 1 rfl ?_)
     refine clV rfl Z7d rfl rfl (c_contains_int to_ at_ ct v (by omega) _ _) ?_
     refine Z2 rfl ?_ ?_<;>intro hc3
     have hkv:(msk to_).testBit v=true:=(ZN (fun k hk=>(hto k hk).1) v).2 (hasI_iff.1 hc3)
     refine sqt 2 rfl (pur 1 rfl ?_)
     refine sto rfl rfl rfl cn3 rfl rfl rfl rfl ?_
     refine Z7 (ZX (by decide) ?_)
     exact Z6V (.inr ⟨rfl,_,rfl,V++E++[(v,(k:Int))],v,q5,hsm,hkv,hvm,fun x hx hxk=>by
       rcases List.mem_append.1 hx with h5 | h5
       · rw [h1.no x h5] at hxk;cases hxk
       · rw [List.mem_singleton.1 h5],rfl,rfl⟩) (fun _ h=>by rw [e5,g5];exact h.del b68)
     have hkv:(msk to_).testBit v=false:=by
       cases hb:(msk to_).testBit v with
       | false=>rfl
       | true=>have h8:hasI to_ v=false:=hc3;rw [hasI_iff.2 ((ZN (fun k hk=>(hto k hk).1) v).1 hb)] at h8;cases h8
     refine Z1 ?_
     obtain ⟨q6,e6,g6⟩:∃ q6:OQ 3 1 (irows ((vb (V++(E++[(v,(k:Int))]))).drop (j+1))),q6.fs=q5.fs∧q6.G=q5.G:=⟨q5.cast (by rw [List.append_assoc]),OQ.cast_fs _ _,OQ.cast_G _ _⟩
     exact Zn (.inl ⟨rfl,_,rfl,E++[(v,(k:Int))],q6,by
         rw [← List.append_assoc]
         exact ⟨hsm,fun x hx=>by
           rcases List.mem_append.1 hx with h5 | h5
           · exact h1.no x h5
           · rw [List.mem_singleton.1 h5];exact hkv⟩,fun i hi v2 hs=>by
         rw [← List.append_assoc]
         rcases Nat.lt_succ_iff_lt_or_eq.1 hi with h | h
         · have:=h2 i h v2 hs;rw [List.map_append];exact List.mem_append_left _ this
         · subst h;exact hstep _ hvm v2 hs,rfl,rfl⟩) (fun _ h=>by rw [e6,g6,e5,g5,← List.append_assoc];exact h.del b68)
     rintro _ _ _ _ (⟨rfl,rfl,E,q3,h1,h2,rfl,rfl⟩ | ⟨rfl,rfl,V2,w,q3,hsr,hkw,hwm,hun,rfl,rfl⟩)
     rotate_left
     refine Sy.heap (H':=(b14,cel 3 [.int .i64 (w:Int)])::(b10,cel 268 [.map (some m)])::(m,Zz false (vkv (V2)))::(b5,cel 267 (Za fl))::(b4,cel 173 [.pointer (some ⟨d.bd,0,none⟩)])::(mkh (bd0::mk)++H)) (R':=R) (fun w9 h=>St.sub ((St.drop (G:=q3.G) ((((h.del b15).del b13).del b7).perm (ZC [_,_] q3.G _))).perm (ZC [_] [_,_,_,_,_] _))) ?_
     rotate_left
     refine Z6U ?_
     have hj1:=(List.getElem?_eq_some_iff.1 hp).1
     exact Z1Z ⟨⟨(V++E,j+1,bd0::mk),h1,by dsimp only;rw [List.length_append];omega,fun q x hq hx i v hs=>by
       rcases Nat.lt_or_ge q j with h5 | h5
       · rw [List.getElem?_append_left (by omega)] at hx
         have:=hcl q x h5 hx i v hs
         rw [List.map_append];exact List.mem_append_left _ this
       · obtain rfl:q=j:=by dsimp only at hq;omega
         rw [List.getElem?_append_left (by omega),hp] at hx
         obtain rfl:=Option.some.inj hx
         exact h2 i (by obtain ⟨g',h6,_⟩:=hs;exact (List.getElem?_eq_some_iff.1 h6).1) v hs⟩,QN.of q3⟩ (by dsimp only;omega) sbA rfl (fun w h=>by
       have e9:q3.fs = .slice (some ⟨q3.b,q3.off,none⟩) ((V++E).length-(j+1)) q3.cap:=by unfold OQ.fs;rw [irl,List.length_drop,Z8T]
       rw [e9] at h
       exact St.sub ((h.del b15).perm ((ZC [_] [_,_] _).trans (List.Perm.append_left [_,_] ((ZC [_] q3.G _).trans (List.Perm.append_left q3.G (ZC [_] [_,_,_,_,_] _)))))))
     refine Ziz ?_
     refine Z7 (ZX (by decide) (ZX (by decide) (Z9 (Zk (sqt 1 rfl (pur 1 rfl (Z0 (sqt 2 rfl (spL rfl rfl (lh sc3 rfl rfl) rfl (pur 1 rfl (Z3 ?_)))))))))))
     obtain ⟨xw,hxw,hxe⟩:=List.mem_map.1 hwm
     obtain ⟨w',zw⟩:=xw
     dsimp only at hxe
     subst hxe
     obtain ⟨qw,hqw⟩:=List.getElem?_of_mem hxw
     refine Z1f (ι:=(x:{x:Nat×Nat×List (Nat×Nat) // Back d.h.gaps (fun i=>!d.cl.testBit i) (na fl) (msk fr) (msk to_) V2 w' x.1 x.2.1 x.2.2})×OSl 3 1 (irows (Zd0 x.1.2.2))) (fun y=>⟨[(4,.pointer (some ⟨b4,0,none⟩)),(10,.pointer (some ⟨b10,0,none⟩)),(20,y.2.fs),(21,.int .i64 (y.1.1.2.1:Int))],mks (bd0::mk),y.2.G++((b14,cel 3 [.int .i64 (w':Int)])::(b10,cel 268 [.map (some m)])::(m,Zz false (vkv (V2)))::(b5,cel 267 (Za fl))::(b4,cel 173 [.pointer (some ⟨d.bd,0,none⟩)])::(mkh (bd0::mk)++H)),R⟩) (fun y=>y.1.1.1) ⟨⟨(qw,w',[]),Back.start hqw⟩,OSl.nil _ _⟩ ?_ (fun y=>?_)
     exact Z4t sbA rfl idH
     obtain ⟨⟨⟨q,u2,l⟩,hb⟩,o⟩:=y
     dsimp only at hb o ⊢
     obtain ⟨z,hz2⟩:=hb.at_
     have hget:=ZbN hsr.nd (List.mem_of_getElem? hz2)
     have hqf:=hsr.few
     have hq7:=(List.getElem?_eq_some_iff.1 hz2).1
     have hll:l.length≤10:=by
       have h9:=hb.nd.length_le_of_subset (l₂:=List.range 10) fun v hv=>by
         obtain ⟨x,hx,rfl⟩:=List.mem_map.1 hv
         obtain ⟨g,y,h1,_⟩:=hb.way.mem x hx
         have:=(List.getElem?_eq_some_iff.1 h1).1
         have:=hok.gl
         exact List.mem_range.2 (by omega)
       simpa using h9
     refine Z0 (sqt 8 rfl (pur 3 rfl ?_))
     refine Zv 77 rfl ?_ ?_<;>intro g77
     refine Z0E rfl rfl rfl rfl rfl (lh Z7C rfl rfl) rfl (pur 1 rfl ?_)
     refine ZkV rfl rfl rfl rfl rfl rfl ((Z3A Z1N hget)) rfl ?_
     refine pur 2 rfl ?_
     refine Z2 rfl ?_ ?_<;>intro hc4<;>try simp only [cS] at hc4
     obtain ⟨gi,p2,y2,g2,rfl,hpq,hgi,hend,hb2⟩:=hb.more hsr hab hz2 hc4
     have hgo2:=hok.gaps g2 (List.mem_of_getElem? hgi)
     have hgil:=(List.getElem?_eq_some_iff.1 hgi).1
     have hg10:=hok.gl
     refine Zi (a:=d.ag) (sz:=2) (rows:=grows d.h.gaps) (by intro h0;have:=congrArg List.length h0;rw [Z48] at this;simp only [List.length_nil] at this;have:=(List.getElem?_eq_some_iff.1 hgi).1;omega) (fun bg og he=>?_)
     haveI:MemRows (some ⟨bg,og,none⟩) 2 (grows d.h.gaps) R:=⟨he▸hG.mem⟩
     refine Z1 (Z3 (sqt 4 rfl (spL rfl rfl (lh Z7C rfl rfl) rfl (pur 1 rfl ?_))))
     refine spK rfl rfl rfl ((Z3A Z1N hget)) rfl ?_
     refine pur 1 rfl (sqt 5 rfl (pur 2 rfl ?_))
     refine bsl (out:=[_]) rfl Z18 zl3 rfl rfl rfl rfl rfl rfl (fun b88=>?_)
     refine apO (o) rfl Z62 rfl rfl (Z0B (row:=[.int .i64 (gi:Int)]) rfl) rfl rfl ((by rw [irl];unfold Zd0;rw [List.length_reverse,List.length_map];simp only [List.length_singleton];omega)) rfl (fun o89=>?_)
     refine pur 1 rfl ?_
     refine Zb [0,1,3,7,15,0,63,127,255,0,512,1536,3584,7680,0,32256,65024,130560,262143,0,1048575,2097151] (.ld 0 (tks 1 3 (.ld 4 (tks 5 3 (.ld 8 (.ld 9 (tks 10 3 (.ld 13 (tks 14 3 (.ld 17 (tks 18 4 .done))))))))))) Zo (by kernel_rfl) ?_
     refine ld rfl rfl (lh Z5H rfl rfl) rfl (tk rfl (PE.nilCheck rfl) rfl (tk rfl (PE.fA Z1y rfl) rfl (tk rfl (PE.fA Z1A rfl) rfl (ld rfl rfl (lfB (sz:=4) (x:=.slice (some ⟨bg,og,none⟩) d.h.gaps.length d.cg) Z9v (by show some (d.h.sg d.ag d.cg)=_;unfold Hse.sg;rw [he])) rfl (Zl 1 rfl (tk rfl (PE.indexAddr ZcC rfl rfl (by omega) (by omega)) rfl (tk rfl (PE.fA Z0S rfl) rfl (ld rfl rfl (lf0 sc3 (Z2w hgi) rfl) rfl (ld rfl rfl (lh Z5H rfl rfl) rfl (tk rfl (PE.nilCheck rfl) rfl (tk rfl (PE.fA Z1y rfl) rfl (tk rfl (PE.fA Z1A rfl) rfl (ld rfl rfl (lfB (sz:=4) (x:=.slice (some ⟨bg,og,none⟩) d.h.gaps.length d.cg) Z9v (by show some (d.h.sg d.ag d.cg)=_;unfold Hse.sg;rw [he])) rfl (Zl 1 rfl (tk rfl (PE.indexAddr ZcC rfl rfl (by omega) (by omega)) rfl ?_)))))))))))))))
     refine tk rfl (PE.fA Z0T rfl) rfl (ld rfl rfl (lf (j:=1) sc3 (Z2w hgi) rfl) rfl (tk rfl (PE.add rfl rfl (by omega)) rfl (Zl 1 rfl (tk rfl (PE.sub rfl rfl (by omega)) rfl ?_))))
     rw [show g2.a+g2.b-(u2:Int)=((y2:Nat):Int) from by omega]
     refine Zl 1 rfl ?_
     exact Z1Z ⟨⟨(p2,y2,(gi,u2)::l),hb2⟩,o89.cast (by rw [Zbk];simp [irows])⟩ hpq sbA rfl (fun w h=>h.del b88)
     have hz1:z = -1:=Classical.byContradiction fun e=>hc4 e
     subst hz1
     have hwk:=hb.stop hsr hz2 hkw
     have hl0:l≠[]:=fun e=>by
       subst e
       have h9:=hwk.way
       cases h9
       have:=hns _ hwk.from_
       rw [hkw] at this;cases this
     refine Z7 (Z9 (Z9 (Zk (sqt 2 rfl (pur 1 rfl ?_)))))
     refine cl rfl ZdF rfl rfl (Z3N (Zd0 l) o (by unfold Zd0;rw [List.length_reverse,List.length_map];omega) _ _) ?_
     rintro _ _ R1 ⟨o2,hof,rfl,rfl,hR1⟩
     obtain rfl:=hR1.symm
     clear hR1
     rw [← hof]
     obtain ⟨o3,e3,g3⟩:∃ o3:OSl 3 1 (irows (l.map fun x=>(x.1:Int))),o3.fs=o2.fs∧o3.G=o2.G:=⟨o2.cast (by rw [Zd1]),rfl,rfl⟩
     rw [← e3,← g3]
     refine Z0 ?_
     refine Zb [0,0,1,7] (.tk 0 (.ld 1 (.tk 2 (.tk 3 .done)))) Zo (by kernel_rfl) ?_
     refine Zl 1 rfl (ld rfl rfl (lh Z7C rfl rfl) rfl (Zl 2 rfl (Z4 ?_)))
     exact ZO (bd0::mk) (H:=o3.G++((m,Zz false (vkv (V2)))::H)) (fun w h=>((((h.del b14).del b10).del b5).del b4).perm (pW9 o3.G (mkh (bd0::mk)) H _)) rfl (.cons (RV.tmp rfl) (.cons (RV.tmp rfl) .nil)) rfl ⟨V2,m,l,o3,rfl,rfl,rfl,hsr,.inr ⟨hl0,u2,w',hwk,hwm,hun⟩⟩ idH
     simp only [decide_eq_false_iff_not] at g77
     omega
    obtain rfl:j=V.length:=by omega
    have hshn:Shn d.h.gaps (fun i=>!d.cl.testBit i) (na fl) (msk fr) (msk to_) V:=⟨hwi.s,hwi.no,fun u v i hu hs=>by
      obtain ⟨x,hx,rfl⟩:=List.mem_map.1 hu
      obtain ⟨q,hq⟩:=List.getElem?_of_mem hx
      exact hcl q x (List.getElem?_eq_some_iff.1 hq).1 hq i v hs⟩
    refine Z7 (Z9 (Z9 (Zk (sqt 1 rfl (pur 1 rfl (Z0 (sqt 2 rfl (spL rfl rfl (lh sc3 rfl rfl) rfl (pur 1 rfl (Z3 ?_))))))))))
    refine Z1f (ι:=Unit) (fun _=>⟨[(4,.pointer (some ⟨b4,0,none⟩)),(10,.pointer (some ⟨b10,0,none⟩)),(20,.slice none 0 0),(21,.int .i64 (-1))],mks mk,(b14,cel 3 [.int .i64 (-1)])::(b13,cel 23 [.slice a (V.length-V.length) c])::(G++((b10,cel 268 [.map (some m)])::(m,Zz false (vkv (V)))::(b7,cel 23 [.slice at_ to_.length ct])::(b5,cel 267 (Za fl))::(b4,cel 173 [.pointer (some ⟨d.bd,0,none⟩)])::(mkh mk++H))),R⟩) (fun _=>0) () ?_ (fun x=>?_)
    exact Z4t sbA rfl idH
    refine Z0 (sqt 8 rfl (pur 3 rfl ?_))
    refine Zv 77 rfl ?_ ?_<;>intro g77
    exact absurd g77 (by decide)
    refine pur 5 rfl ?_
    refine Zq rfl ?_
    refine Z7 (Z9 (Z9 (Zk (sqt 2 rfl (pur 1 rfl ?_)))))
    refine clV rfl ZdF rfl rfl (Z7Z _ _) ?_
    refine Z0 ?_
    refine Zb [0,0,1,7] (.tk 0 (.ld 1 (.tk 2 (.tk 3 .done)))) Zo (by kernel_rfl) ?_
    refine Zl 1 rfl (ld rfl rfl (lh Z7C rfl rfl) rfl (Zl 2 rfl (Z4 ?_)))
    exact ZO mk (H:=(m,Zz false (vkv (V)))::H) (R:=R) (fun w h=>((((((St.drop (G:=G) ((h.del b14).del b13)).del b10).del b7).del b5).del b4).perm (List.perm_middle (l₁:=mkh mk)).symm)) rfl (.cons (RV.tmp rfl) (.cons (RV.tmp rfl) .nil)) rfl ⟨V,m,[],OSl.nil _ _,rfl,rfl,rfl,hwi.s,.inl ⟨rfl,hshn⟩⟩ idH
theorem Zjk (d:Dk) (hd:d.Ok) (fl:List Int) (hfl:fl.length=10) (fr to_:List Int) (af at_:Option Addr) (cf ct:Nat) (hfr:∀ x∈fr,0≤x∧x<7) (hto:∀ x∈to_,0≤x∧x<7) (hnf:fr.Nodup) (hnt:to_.length≤1000000) (hdis:∀ x∈fr,x∉to_) (H:Z8) (R:Z5) [hD:MemRows (some ⟨d.bd,0,none⟩) 4 [d.row] R] [hG:MemRows d.ag 2 (grows d.h.gaps) R] [hS:MemRows d.as_ 3 (srows d.h.sights) R] [sR:SubF d.R0 R] [hF:MemRows af 1 (irows fr) R] [hT:MemRows at_ 1 (irows to_) R]:Fn Tryz.prog 225 [.pointer (some ⟨d.bd,0,none⟩),.agg (Za fl).toArray,.slice af fr.length cf,.slice at_ to_.length ct] H R (ZkF d.h.gaps (fun i=>!d.cl.testBit i) (na fl) (msk fr) (msk to_) H R):=fun w hw=>by
 refine CallsIn.mono (Zgy d hd fl hfl fr to_ af at_ cf ct hfr hto hnf hnt hdis H R w hw) ?_
 rintro e' w' ⟨v,H',R',⟨V,m,l,o,rfl,rfl,rfl,h1,h2⟩,he,hs'⟩
 obtain ⟨a,c,heo,hfz⟩:=o.freeze
 rw [irl,List.length_map] at heo
 exact ⟨_,_,_,⟨V,m,a,c,l,by rw [heo],rfl,rfl,h1,h2⟩,he,hfz hs'⟩
end Go.Proofs.YtcfdanhklbklkaaGreat.Wv
