/- Walks of the functions of the program, and the laws that join them: what the last theorem of this claim needs, in order. -/
import Derived.Test.YtcfdanhklbklkaaGreatTr1
namespace Go.Proofs.YtcfdanhklbklkaaGreat
set_option linter.unusedSimpArgs false
set_option linter.unusedVariables false
open Go
class Pull (b:Nat) (o:outParam Obj) (H:Z8) (T:outParam Z8):Prop where
 perm:H.Perm ((b,o)::T)
instance Pull.head (b:Nat) (o:Obj) (H:Z8):Pull b o ((b,o)::H) H:=⟨.refl _⟩
instance (priority:=low) Pull.cons (b:Nat) (o:Obj) (p:Nat×Obj) (H T:Z8) [m:Pull b o H T]:Pull b o (p::H) (p::T):=⟨(m.perm.cons p).trans (.swap _ _ _)⟩
instance (priority:=low) Pull.app (b:Nat) (o:Obj) (G H T:Z8) [m:Pull b o H T]:Pull b o (G++H) (G++T):=⟨(List.Perm.append_left G m.perm).trans List.perm_middle⟩
theorem St.pull {H T:Z8} {R:Z5} {w:World} (b:Nat) {o:Obj} [m:Pull b o H T] (h:St H R w):St ((b,o)::T) R w:=h.perm m.perm
theorem St.del {H T:Z8} {R:Z5} {w:World} (b:Nat) {o:Obj} [m:Pull b o H T] (h:St H R w):St T R w:=(h.perm m.perm).tail
theorem ZG {n:Nat} {L:Zm} {D:List Deferred} {H T:Z8} {R:Z5} {X:Act→World→Prop} (b:Nat) {o:Obj} [m:Pull b o H T] (h:Sy n L D ((b,o)::T) R X):Sy n L D H R X:=Sy.heap (fun _ hs=>hs.pull b) h
theorem Z2v (k:Nat) (z:List Value):(List.replicate k z).flatten=Z0Y k z:=by
 apply List.ext_getElem?
 intro j
 unfold Z0Y
 rcases Nat.eq_zero_or_pos z.length with h0 | h0
 · have hz:z=[]:=List.eq_nil_of_length_eq_zero h0
   subst hz
   simp
 by_cases hj:j<k*z.length
 · have h1:j / z.length<k:=by rw [Nat.div_lt_iff_lt_mul h0];exact hj
   have h2:j%z.length<z.length:=Nat.mod_lt _ h0
   have h3:=Z3z (sz:=z.length) (rows:=List.replicate k z) (fun r hr=>by rw [List.eq_of_mem_replicate hr]) (i:=j / z.length) (j:=j%z.length) (row:=z) (x:=z[j%z.length]) (by simp [h1]) (by simp [h2])
   rw [Nat.div_add_mod'] at h3
   rw [h3]
   simp [hj,h2]
 · have h1:((List.replicate k z).flatten)[j]?=none:=List.getElem?_eq_none (by rw [Z0q (sz:=z.length) (fun r hr=>by rw [List.eq_of_mem_replicate hr]),List.length_replicate];omega)
   rw [h1]
   symm
   rw [List.getElem?_eq_none_iff]
   simp only [List.length_map,List.length_range]
   omega
theorem Z02:∀ (l:List Int),(l.map fun z=>[Value.int .i64 z]).flatten=Za l
 | []=>rfl
 | x::l=>by simp only [List.map_cons,List.flatten_cons,Z02 l,Za];rfl
theorem St.intRows {b e:Nat} {l:List Int} {H:Z8} {R:Z5} {w:World} (h:St ((b,cel e (Za l))::H) R w):St H (RowsA (some ⟨b,0,none⟩) 1 (l.map fun z=>[.int .i64 z])::R) w :=
 St.rows (e:=e) (rest:=[]) (by rw [Z02,List.append_nil];exact h) (by simp)
theorem OSl.freeze {e sz:Nat} {rows:List (List Value)} (o:OSl e sz rows):∃ a c,o.fs = .slice a rows.length c∧∀ {H:Z8} {R:Z5} {w:World},St (o.G++H) R w→St H (RowsA a sz rows::R) w:=by
 obtain ⟨fs,G,hl,his⟩:=o
 rcases his with ⟨rfl,rfl,rfl⟩ | ⟨b,cap,junk,rfl,rfl,_,_,_⟩
 · exact ⟨none,0,rfl,fun {H R w} h=>(St.also (H:=H) (R:=R) h (f:=RowsA none sz []) (fun w' _=>fun i row hi=>by simp at hi))⟩
 · exact ⟨_,cap,rfl,fun {H R w} h=>St.rows (rest:=junk) h hl⟩
theorem Zit (n:Nat) (v:Value):Z0Y n [v]=List.replicate n v:=by
 rw [← Z2v]
 induction n with
 | zero=>rfl
 | succ n ih=>rw [List.replicate_succ,List.flatten_cons,ih,List.replicate_succ];rfl
theorem KV.get_put:∀ (l:KV) (k k':List Int) (v:Value),(l.put k v).get k'=bif decide (k=k') then some v else l.get k'
 | [],k,k',v=>by
   by_cases h:k=k'<;>simp [KV.put,KV.get,h]
 | (a,u)::l,k,k',v=>by
   have ih:=KV.get_put l k k' v
   unfold KV.put
   by_cases ha:a=k
   · subst ha
     simp only [decide_true,cond_true]
     by_cases h:a=k'<;>simp [KV.get,h]
   · simp only [ha,decide_false,cond_false]
     unfold KV.get at ih ⊢
     rw [List.find?_cons,List.find?_cons]
     by_cases h:a=k'
     · subst h
       have:¬ k=a:=fun e=>ha e.symm
       simp [this]
     · simp only [h,decide_false]
       exact ih
theorem KV.put_mem:∀ {l:KV} {k:List Int} {v:Value} {e:List Int×Value},e∈l.put k v→e=(k,v)∨e∈l
 | [],k,v,e,h=>by simp only [KV.put,List.mem_singleton] at h;exact .inl h
 | (a,u)::l,k,v,e,h=>by
   unfold KV.put at h
   cases hc:decide (a=k)<;>rw [hc] at h
   · rcases List.mem_cons.1 h with h | h
     · exact .inr (by simp [h])
     · rcases KV.put_mem h with h | h
       · exact .inl h
       · exact .inr (by simp [h])
   · rcases List.mem_cons.1 h with h | h
     · exact .inl h
     · exact .inr (by simp [h])
def zvl (P:Program) (T:Nat):Option Value:=(P.info? T).bind (·.zero)
theorem ZZ {P:Program} {T:Nat} {v:Value} (h:zvl P T=some v) (w:World):(zeroValue T).run P w = .ok v w:=by
 unfold zvl at h
 rw [Option.bind_eq_some_iff] at h
 obtain ⟨i,hi,hz⟩:=h
 simp [zeroValue,typeInfo,program,hi,hz,Sem.run_bind,Sem.run_pure,Sem.run,Result.andThen]
section scope
variable {P:Program} {b:Frame} {a:Act} {k:List Item} {cs:List Frame} {w:World} {Q:Exit→Act→World→Prop} {F:Fence} {m:Nat}
theorem Z0o {c:Code}:step P (lone (b.atR a (.code (.scope c)::k)) cs w) = .next (lone (b.atR a (.code c::.inScope c::k)) cs w) :=
 step_lone_go (by simp [stepG,stepG.exec,Frame.atR])
theorem Z5O {c:Code}:step P (lone (b.atR a (.inScope c::k)) cs w) = .next (lone (b.atR a k) cs w) :=
 step_lone_go (by simp [stepG,stepG.exec,Frame.atR])
theorem Z9m {c:Code} (h:c.wpIn F m P (Exit.noGoto Q) a w):(Code.scope c).wpIn F m P Q a w:=by
 intro b k cs hro hb hr
 have h0:(lone (b.atR a (.code (.scope c)::k)) cs w).fenced P F:=fenced_calm hb hr rfl
 obtain ⟨e,a₁,w₁,hq,harr⟩:=h b (.inScope c::k) cs hro hb hr
 cases e with
 | normal=>exact ⟨.normal,a₁,w₁,hq,.head h0 Z0o (StepsIn.trans harr (.one (fenced_calm hb hr rfl) Z5O))⟩
 | exit id =>
   have hx:exitTo id (.inScope c::k)=exitTo id k:=by simp [exitTo]
   exact ⟨.exit id,a₁,w₁,hq,fun k' hk=>.head h0 Z0o (harr.1 k' (by rw [hx];exact hk)),
     fun hr' hk=>let ⟨k₁,h1,h2⟩:=harr.2 hr' (by rw [hx];exact hk);⟨k₁,h1,.head h0 Z0o h2⟩⟩
 | goto l=>exact hq.elim
 | ret=>exact ⟨_,a₁,w₁,hq,.of_steps (.one h0 Z0o) harr⟩
 | panic ch=>exact ⟨_,a₁,w₁,hq,.of_steps (.one h0 Z0o) harr⟩
 | outgrown=>exact ⟨_,a₁,w₁,hq,.of_steps (.one h0 Z0o) harr⟩
variable {r:Option Nat} {n:Nat} {L:Zm} {D:List Deferred} {H:Z8} {R:Z5}
theorem Z5S {c:Code} (h:Sy n L D H R (wpc P r c (Exit.noGoto Q))):Sy n L D H R (wpc P r (.scope c) Q):=fun a w ha hd hs=>Z9m (h a w ha hd hs)
end scope
section own
variable {P:Program} {r:Option Nat} {ops:Array Oper} {n:Nat} {L:Zm} {D:List Deferred} {H:Z8} {R:Z5} {K:Act→World→Prop}
 {i d:Nat} {ty:TypeId} {pos:String} {af:Array Edge}
theorem Zft (z:List Value) (n:Nat):(madeCells z.toArray (n*z.length)).toList=Z0Y n z:=by
 simp [madeCells,Z0Y]
theorem ZfI {T e s y:Nat} (hp:apT P T=some (e,s,y)) {zl:List Value} (hz:Zr P e=some zl) {kl kc:IntKind} {l c:Nat} (hlc:l≤c) (hb:y*c≤281474976710656) (h63:c≤9223372036854775807) (w:World) :
   (Instr.makeSlice T (.int kl l) (.int kc c)).run P w = .ok (.slice (some ⟨w.heap.size,0,none⟩) l c) (w.alloc (cel e (Z0Y c zl)))∧zl.length=s:=by
 unfold apT at hp
 split at hp
 case h_2=>cases hp
 rename_i e' hu
 split at hp
 case h_2=>cases hp
 rename_i i hi
 split at hp
 case h_2=>cases hp
 rename_i z hzz
 cases hzs:Nat.beq z.cells.size i.size with
 | false=>rw [hzs] at hp;cases hp
 | true =>
 rw [hzs,cond_true] at hp
 cases hp
 have hzs:=Nat.eq_of_beq_eq_true hzs
 have hzl:z.cells.toList=zl:=by
   have:Zr P e=some z.cells.toList:=by simp [Zr,hi,hzz]
   rw [this] at hz;exact Option.some.inj hz
 have:=run_make (P:=P) w T e i z hu hi hzz kl kc l c (by omega) (by omega) (by omega) (by omega)
 refine ⟨?_,by rw [← hzl];simpa using hzs⟩
 rw [this]
 simp only [Int.toNat_natCast]
 congr 2
 unfold cel
 congr 1
 apply Array.toList_inj.1
 rw [← Zft,← hzl]
 simp [hzs]
theorem ZkK {T e j t:TypeId} {bb:Bool} {oj:Oper} {s k:Nat} {parts:List (Nat×Operand)} {vs:List (Nat×Value)} {z out:List Value}
   (ho:ops[i]?=some ⟨some d,.buildSlice T k parts.toArray,ty,pos,af,some (j,bb)⟩) (hj:ops[j]?=some oj) (ht:oj.dst=some t) (hb:lk L t=some (.bool bb)) (hp:slE P T=some (e,s)) (hz:Zr P e=some z) (hzs:z.length=s) (hks:Nat.ble (k*s) 16777216=true) (hs0:Nat.blt 0 (k*s)=true)
   (hx:evp L parts=some vs) (hf:Z6p (fun i=>some (i*s,s)) (Z0Y k z) vs=some out) (hd:Nat.blt d n=true)
   (h:∀ b,Sy n ((d,.slice (some ⟨b,0,none⟩) k k)::L) D ((b,cel e out)::H) R K):Sy n L D H R (stp P r ops i K):=fun a w ha hD hs=>by
 unfold slE at hp
 split at hp
 · rename_i e' hu
   rw [Option.map_eq_some_iff] at hp
   obtain ⟨ie,hi,he⟩:=hp
   cases he
   obtain ⟨zv,hz1,hz2⟩:=Z1e hz
   have h3:=Z42 _ _ _ _ hf
   have e1:(parts.toArray.map fun (k,x)=>(k,a.eval x))=vs.toArray:=by rw [List.map_toArray,Z41 ha.reads _ _ hx]
   have hks':¬ (k*ie.size > 2 ^ 24):=Nat.not_lt.2 (Nat.le_of_ble_eq_true hks)
   have hs0':¬ (k*ie.size=0):=fun h0=>by rw [h0] at hs0;cases hs0
   refine Zp ho (by simp [Region.wanted,ZE ha hj ht hb]) (v:=.slice (some ⟨w.heap.size,0,none⟩) k k) (w':=w.alloc (cel e out)) ?_ (h _ _ _ (ha.put (by simpa using hd) _) hD (hs.alloc _))
   have e2:(Array.map (fun x=>zv.cells[x%zv.cells.size]!) (Array.range (k*ie.size)))=(Z0Y k z).toArray:=by
     rw [hz1,← List.toArray_range,List.map_toArray];simp only [Z0Y,hzs,List.size_toArray]
   simp only [execOp,e1,Instr.buildSlice,Sem.run_bind,run_underlying hu,Result.andThen,sizeOf,typeInfo,program,hi,Sem.run,Sem.run_pure,hks',hs0',if_false,hz2,hz1]
   rw [hz1] at e2
   rw [e2,h3]
   simp [newRow,newObj,Sem.run_bind,Sem.run,Sem.run_pure,Result.andThen]
 · cases hp
theorem mkS {T e s y:Nat} {x z:Operand} {kl kc:IntKind} {l c:Nat} {zl:List Value} (ho:ops[i]?=some ⟨some d,.makeSlice T x z,ty,pos,af,none⟩) (hp:apT P T=some (e,s,y)) (hz:Zr P e=some zl)
   (hx:ev L x=some (.int kl l)) (hy:ev L z=some (.int kc c)) (hlc:l≤c) (hb:y*c≤281474976710656∧c≤9223372036854775807) (hd:Nat.blt d n=true)
   (h:∀ b,Sy n ((d,.slice (some ⟨b,0,none⟩) l c)::L) D ((b,cel e (Z0Y c zl))::H) R K):Sy n L D H R (stp P r ops i K):=fun a w ha hD hs=>by
 obtain ⟨h1,_⟩:=ZfI hp hz hlc hb.1 hb.2 (kl:=kl) (kc:=kc) w
 refine Zp ho (Zh _ rfl _) (v:=.slice (some ⟨w.heap.size,0,none⟩) l c) (w':=w.alloc (cel e (Z0Y c zl))) ?_ (h _ _ _ (ha.put (by simpa using hd) _) hD (hs.alloc _))
 simp only [execOp,ha.reads _ _ hx,ha.reads _ _ hy,Sem.run_bind,h1,Result.andThen,Sem.run_pure]
end own
section join
variable {P:Program} {r:Option Nat} {n:Nat} {L:Zm} {D:List Deferred} {H:Z8} {R:Z5} {Q:Exit→Act→World→Prop}
def Z9z {ι:Type} (n:Nat) (D:List Deferred) (hd:ι→Head) (Q:Exit→Act→World→Prop):Exit→Act→World→Prop
 | .normal,a,w=>∃ j,Z4G n D hd j a w
 | e,a,w=>Q e a w
theorem Z7J {c:Code} {ι:Type} (hd:ι→Head) (h1:Sy n L D H R (wpc P r c (Z9z n D hd Q)))
   (h2:∀ j,Sy n (hd j).L D (hd j).H (hd j).R (Q .normal)):Sy n L D H R (wpc P r c Q):=fun a w ha hD hs=>by
 refine wpIn_mono (h1 a w ha hD hs) fun e a' w' he=>?_
 cases e
 case normal=>obtain ⟨j,g1,g2,g3⟩:=he;exact h2 j a' w' g1 g2 g3
 all_goals exact he
theorem Z7I {ι:Type} {hd:ι→Head} (j:ι) (hL:Sub (hd j).L L) (hH:∀ w,St H R w→St (hd j).H (hd j).R w) :
 Sy n L D H R (Z9z n D hd Q .normal):=fun a w ha hD hs=>⟨j,ha.sub hL.lk,hD,hH w hs⟩
end join
class SubF (A B:Z5):Prop where
 sub:∀ f∈A,f∈B
instance (priority:=high) SubF.refl (A:Z5):SubF A A:=⟨fun _ h=>h⟩
instance SubF.nil (B:Z5):SubF [] B:=⟨fun _ h=>by cases h⟩
instance SubF.cons (f:World→Prop) (A B:Z5) [m:MemF f B] [s:SubF A B]:SubF (f::A) B:=⟨fun g h=>by
 rcases List.mem_cons.1 h with h | h
 · rw [h];exact m.mem
 · exact s.sub g h⟩
instance (priority:=low) SubF.skip (f:World→Prop) (A B:Z5) [s:SubF A B]:SubF A (f::B):=⟨fun g h=>List.mem_cons_of_mem _ (s.sub g h)⟩
theorem St.sub {H:Z8} {A B:Z5} {w:World} [s:SubF A B] (h:St H B w):St H A w:=St.facts h s.sub
class SupH (H' H:Z8):Prop where
 sup:∃ T,H=T++H'
instance (priority:=high) SupH.refl (H:Z8):SupH H H:=⟨⟨[],rfl⟩⟩
instance SupH.cons (p:Nat×Obj) (H' H:Z8) [s:SupH H' H]:SupH H' (p::H):=⟨by obtain ⟨T,h⟩:=s.sup;exact ⟨p::T,by rw [h];rfl⟩⟩
instance SupH.app (G H' H:Z8) [s:SupH H' H]:SupH H' (G++H):=⟨by obtain ⟨T,h⟩:=s.sup;exact ⟨G++T,by rw [h,List.append_assoc]⟩⟩
theorem drp {H H':Z8} {A B:Z5} [s:SupH H' H] [f:SubF A B]:∀ w,St H B w→St H' A w:=fun w h=>by
 obtain ⟨T,e⟩:=s.sup
 rw [e] at h
 exact St.sub (St.drop h)
theorem OSl.own {e sz:Nat} {rows:List (List Value)} (o:OSl e sz rows) (h:o.here):∃ b cap junk,o.fs = .slice (some ⟨b,0,none⟩) rows.length cap∧o.G=[(b,cel e (rows.flatten++junk))]:=by
 rcases o.is with ⟨_,h2,_⟩ | ⟨b,cap,junk,h1,h2,_⟩
 · obtain ⟨b,c,h3⟩:=h
   rw [h2] at h3;cases h3
 · exact ⟨b,cap,junk,h1,h2⟩
section ZiM
variable {P:Program} {r:Option Nat} {ops:Array Oper} {n:Nat} {L:Zm} {D:List Deferred} {H:Z8} {R:Z5} {K:Act→World→Prop}
 {i d:Nat} {ty:TypeId} {pos:String} {af:Array Edge}
theorem ZiM {T e s:TypeId} (ho:ops[i]?=some ⟨some d,.buildSlice T 0 #[],ty,pos,af,none⟩) (hp:slE P T=some (e,s)) (hd:Nat.blt d n=true)
   (h:∀ o:OSl e s [],o.here→Sy n ((d,o.fs)::L) D (o.G++H) R K):Sy n L D H R (stp P r ops i K):=fun a w ha hD hs=>by
 unfold slE at hp
 split at hp
 · rename_i e' hu
   rw [Option.map_eq_some_iff] at hp
   obtain ⟨ie,hi,he⟩:=hp
   cases he
   refine Zp ho (Zh _ rfl _) (v:=.slice (some ⟨w.heap.size,0,none⟩) 0 0) (w':=w.alloc (cel e [])) ?_
     (h ⟨.slice (some ⟨w.heap.size,0,none⟩) 0 0,[(w.heap.size,cel e [])],by simp,.inr ⟨w.heap.size,0,[],rfl,rfl,by simp,Nat.le_refl _,by omega⟩⟩ ⟨_,_,rfl⟩ _ _ (ha.put (by simpa using hd) _) hD (hs.alloc _))
   simp only [execOp,Instr.buildSlice,Sem.run_bind,run_underlying hu,Result.andThen,sizeOf,typeInfo,program,hi,Sem.run,Sem.run_pure]
   simp [newRow,newObj,Sem.run_bind,Sem.run,Sem.run_pure,Result.andThen,Instr.fill]
   rw [show Array.range 0=(#[]:Array Nat) from Array.eq_empty_of_size_eq_zero (by simp)]
   simp
 · cases hp
end ZiM
section eqnil
variable {P:Program} {L:Zm} {d:Option Tmp} {ty:TypeId} {pos:String} {af:Array Edge} {g:Option (Nat×Bool)}
theorem ZcO {P:Program} {T:Nat} (h:Z2y P T=true):∃ e,P.underlying T=some (.slice e):=by
 unfold Z2y at h
 split at h
 · exact ⟨_,by assumption⟩
 · cases h
theorem Z5E {P:Program} {T:TypeId} (hT:Z2y P T=true) (a:Option Addr) (n c m k:Nat) (w:World):(Op.equal T (.slice a n c) (.slice none m k)).run P w = .ok a.isNone w:=by
 obtain ⟨e,hu⟩:=ZcO hT
 show (Op.equalIn (9999+1) T (.slice a n c) (.slice none m k)).run P w=_
 rw [Op.equalIn]
 cases a<;>simp [Sem.run_bind,run_underlying hu,Result.andThen,Sem.run_pure]
theorem PE.eqlNil {T U:TypeId} {x y:Operand} {a:Option Addr} {n c m k:Nat} (hT:Z2y P T=true) (hx:ev L x=some (.slice a n c)) (hy:ev L y=some (.slice none m k)):PE P L ⟨d,.binOp .eql T x y U,ty,pos,af,g⟩ (.bool a.isNone):=fun ρ hρ w=>by
 have hg:∀ w,(eqGuard .eql T x y (.slice a n c) (.slice none m k)).run P w = .ok () w:=fun w=>rfl
 have hb:binOp .eql T (.slice a n c) (.slice none m k)=(do pure (.bool (← Op.equal T (.slice a n c) (.slice none m k)))):=rfl
 simp only [execOp,hρ _ _ hx,hρ _ _ hy,Sem.run_bind,hg,hb,Z5E hT,Result.andThen,Sem.run_pure]
end eqnil
section pe
variable {P:Program} {L:Zm} {d:Option Tmp} {ty:TypeId} {pos:String} {af:Array Edge} {g:Option (Nat×Bool)}
theorem ZeA {P:Program} {T m n:Nat} (h:arN P T=some (m,n)):∃ e i,P.underlying T=some (.array m e)∧P.info? e=some i∧i.size=n:=by
 unfold arN at h
 split at h
 · rename_i k e hu
   rw [Option.map_eq_some_iff] at h
   obtain ⟨i,hi,he⟩:=h
   cases he
   exact ⟨e,i,hu,hi,rfl⟩
 · cases h
theorem PE.slArr {T m n b off:Nat} {x:Operand} (hT:arN P T=some (m,n)) (hx:ev L x=some (.pointer (some ⟨b,off,none⟩))) :
   PE P L ⟨d,.slice T x none none none,ty,pos,af,g⟩ (.slice (some ⟨b,off,none⟩) m m):=fun ρ hρ w=>by
 obtain ⟨e,i,hu,hi,rfl⟩:=ZeA hT
 have ha:(⟨b,off,none⟩:Addr).add (0*i.size)=⟨b,off,none⟩:=by rw [ZB];simp
 simp only [execOp,hρ _ _ hx,Option.map_none,Instr.sliceAt,Sem.run_bind,run_underlying hu,Result.andThen,Instr.sureAddr,Sem.run_pure,Instr.sliceBounds,sizeOf,typeInfo,program,hi,Sem.run]
 rw [ha]
 by_cases h:m=0<;>simp [h]
end pe
section steps
variable {P:Program} {r:Option Nat} {ops:Array Oper} {n:Nat} {L:Zm} {D:List Deferred} {H:Z8} {R:Z5} {K:Act→World→Prop}
 {i d:Nat} {ty:TypeId} {pos:String} {af:Array Edge}
theorem Z3c {P:Program} {T e s:Nat} (h:slE P T=some (e,s)):∃ i,P.underlying T=some (.slice e)∧P.info? e=some i∧i.size=s:=by
 unfold slE at h
 split at h
 · rename_i e' hu
   rw [Option.map_eq_some_iff] at h
   obtain ⟨i,hi,he⟩:=h
   cases he
   exact ⟨i,hu,hi,rfl⟩
 · cases h
theorem Z9g {P:Program} {b e:Nat} {l vs:List Value} (h1:vs.all (·.oneCell')=true) (hb:vs.length≤l.length) {w:World} (h:w.heap[b]?=some (cel e l)) :
   (storeCells ⟨b,0,none⟩ vs).run P w = .ok () { w with heap:=w.heap.setIfInBounds b (cel e (spl l 0 vs)) }:=by
 have:=run_storeCells_at (P:=P) b 0 e vs 0 l.toArray w h (by simpa using hb) (fun x hx=>List.all_eq_true.1 h1 x hx)
 rw [Z0U h] at this
 simpa [spl] using this
theorem clr {T e s:Nat} {x:Operand} {rows:List (List Value)} (o:OSl e s rows) {z:List Value} {C:Z8→Z8} {dd:Option Nat}
   (ho:ops[i]?=some ⟨dd,.call { callee:=.builtin .clear,args := #[x],argTypes := #[T] },ty,pos,af,none⟩) (hdd:dd=none) (hT:slE P T=some (e,s)) (hz:Zr P e=some z) (hzs:z.length=s) (hz1:z.all (·.oneCell')=true)
   (hx:ev L x=some o.fs) [rp:RepF o.G H C]
   (h:∀ o':OSl e s (List.replicate rows.length z),o'.fs=o.fs→Sy n L D (C o'.G) R K):Sy n L D H R (stp P r ops i K):=fun a w ha hD hs0=>by
 subst hdd
 obtain ⟨T0,p1,p2⟩:=rp.rep
 have hs:=hs0.perm p1
 obtain ⟨ie,hu,hi,rfl⟩:=Z3c hT
 obtain ⟨zv,hzv1,hzv2⟩:=Z1e hz
 have key:∃ (o':OSl e ie.size (List.replicate rows.length z)) (w':World),o'.fs=o.fs∧(Builtin.clear_ #[T] ty #[o.fs]).run P w = .ok (.tuple #[]) w'∧St (o'.G++T0) R w':=by
   have hlz:∀ r∈List.replicate rows.length z,r.length=ie.size:=fun r hr=>by rw [(List.mem_replicate.1 hr).2];exact hzs
   rcases o.is with ⟨h1,h2,h3⟩ | ⟨b,cap,junk,h2,h3,hj,hc,hm⟩
   · subst h1
     refine ⟨OSl.nil _ _,w,by rw [h2];rfl,?_,by rw [h3] at hs;exact hs⟩
     rw [h2]
     simp [Builtin.clear_,run_underlying hu]
   · rcases Nat.eq_zero_or_pos rows.length with h0 | h0
     · have h1:rows=[]:=List.eq_nil_of_length_eq_zero h0
       subst h1
       refine ⟨⟨o.fs,o.G,by simp,.inr ⟨b,cap,junk,h2,h3,hj,hc,hm⟩⟩,w,rfl,?_,hs⟩
       rw [h2]
       simp [Builtin.clear_,run_underlying hu]
     · have hf:=Z0q o.len
       have hr:(Z0Y rows.length z).length=rows.length*ie.size:=by rw [← Z2v,Z0q hlz];simp
       rw [h3] at hs
       have hst:=Z9g (P:=P) (e:=e) (l:=rows.flatten++junk) (vs:=Z0Y rows.length z) (by
         rw [← Z2v]
         refine List.all_eq_true.2 fun v hv=>?_
         obtain ⟨q,hq,hvq⟩:=List.mem_flatten.1 hv
         rw [(List.mem_replicate.1 hq).2] at hvq
         exact List.all_eq_true.1 hz1 v hvq) (by rw [hr,List.length_append,hf];omega) (hs.held (b,cel e (rows.flatten++junk)) (by simp))
       have hspl:spl (rows.flatten++junk) 0 (Z0Y rows.length z)=(List.replicate rows.length z).flatten++junk:=by
         unfold spl
         rw [List.take_zero,List.nil_append,Nat.zero_add,hr,← hf,List.drop_left,Z2v]
       rw [hspl] at hst
       refine ⟨⟨.slice (some ⟨b,0,none⟩) (List.replicate rows.length z).length cap,[(b,cel e ((List.replicate rows.length z).flatten++junk))],hlz,.inr ⟨b,cap,junk,rfl,rfl,by simpa using hj,by simpa using hc,hm⟩⟩,_,?_,?_,St.set (o:=cel e (rows.flatten++junk)) hs⟩
       · rw [h2];simp
       · obtain ⟨k,hk⟩:∃ k,rows.length=k+1:=⟨rows.length-1,by omega⟩
         have hzc:(Builtin.zeroCells zv.cells rows.length).toList=Z0Y rows.length z:=by rw [hzv1];simp [Builtin.zeroCells,Z0Y]
         rw [h2]
         rw [hk] at hzc hst ⊢
         simp only [Builtin.clear_,Sem.run_bind,run_underlying hu,Result.andThen,hzv2,hzc,hst,Sem.run_pure,List.getElem?_toArray,List.getElem?_cons_zero]
 obtain ⟨o',w',e1,e2,e3⟩:=key
 refine Zp ho (Zh _ rfl _) (v:=.tuple #[]) (w':=w') ?_ (h o' e1 _ _ (ha.putNone _) hD (e3.perm (p2 _)))
 simp only [execOp,resolve,invoke,builtin,Sem.run_bind,Sem.run_pure,Result.andThen,List.map_toArray,List.map_cons,List.map_nil,ha.reads _ _ hx]
 rw [e2]
end steps
def back (b:Nat) (o:Obj) (R:Z5):World→Prop:=fun w=>w.heap[b]?=some o∧∀ f∈R,∀ w',Keep [b] w w'→f w'
theorem Z9e {b e sz:Nat} {rows:List (List Value)} {junk:List Value} {w:World} (h:w.heap[b]?=some (cel e (rows.flatten++junk))) (hs:∀ r∈rows,r.length=sz):RowsA (some ⟨b,0,none⟩) sz rows w:=fun i row hi=>by
 refine ⟨hs row (List.mem_of_getElem? hi),b,0,rfl,fun j x hx=>?_⟩
 rw [Nat.zero_add,Z0H h]
 have:=Z3z hs hi hx
 rw [List.getElem?_toArray,List.getElem?_append_left (List.getElem?_eq_some_iff.1 this).1]
 exact this
theorem St.pullG {H:Z8} {R:Z5} {w:World} (F:Z8) {C:Z8→Z8} [r:RepF F H C] (h:St H R w):St (F++C []) R w:=by
 obtain ⟨T,h1,h2⟩:=r.rep
 exact h.perm (h1.trans (List.Perm.append_left F (h2 [])))
theorem Z4o {P:Program} {k:IntKind} {i:Int} {y:Nat} {c:BoundsCode} (h:0≤i∧i≤y) (w:World):(Instr.sliceBound (.int k i) y c).run P w = .ok i.toNat w:=by
 unfold Instr.sliceBound
 simp only [asIntOf,Sem.run_bind,Sem.run_pure,Result.andThen]
 rw [if_pos h];rfl
section pe
variable {P:Program} {L:Zm} {d:Option Tmp} {ty:TypeId} {pos:String} {af:Array Edge} {g:Option (Nat×Bool)}
theorem PE.slHi {T e s:Nat} {x y:Operand} {a:Option Addr} {len cap h:Nat} {k:IntKind} (hT:slE P T=some (e,s)) (hx:ev L x=some (.slice a len cap)) (hy:ev L y=some (.int k h)) (hh:h≤cap) :
   PE P L ⟨d,.slice T x none (some y) none,ty,pos,af,g⟩ (.slice a h cap):=fun ρ hρ w=>by
 obtain ⟨i,hu,hi,_⟩:=Z3c hT
 have hb:∀ c w,(Instr.sliceBound (.int k (h:Int)) cap c).run P w = .ok h w:=fun c w=>by rw [Z4o (by omega)];simp
 have e1:(if cap=0 then a else a.map (·.add (0*i.size)))=a:=by
   have:a.map (·.add (0*i.size))=a:=by
     cases a with
     | none=>rfl
     | some ad=>simp [Addr.add]
   rw [this];split<;>rfl
 simp only [execOp,hρ _ _ hx,hρ _ _ hy,Option.map_none,Option.map_some,Instr.sliceAt,Instr.slice,Sem.run_bind,run_underlying hu,Result.andThen,Sem.run_pure,Instr.sliceBounds,hb,sizeOf,typeInfo,program,hi,Sem.run]
 rw [e1];simp
theorem PE.slLo {T e s:Nat} {x z:Operand} {b off len cap l:Nat} {k2:IntKind} (hT:slE P T=some (e,s)) (hx:ev L x=some (.slice (some ⟨b,off,none⟩) len cap)) (hz:ev L z=some (.int k2 l)) (hl:l≤len) (hlc:l<cap) :
   PE P L ⟨d,.slice T x (some z) none none,ty,pos,af,g⟩ (.slice (some ⟨b,off+l*s,none⟩) (len-l) (cap-l)):=fun ρ hρ w=>by
 obtain ⟨i,hu,hi,rfl⟩:=Z3c hT
 have hb2:∀ c w,(Instr.sliceBound (.int k2 (l:Int)) len c).run P w = .ok l w:=fun c w=>by rw [Z4o (by omega)];simp
 simp only [execOp,hρ _ _ hx,hρ _ _ hz,Option.map_none,Option.map_some,Instr.sliceAt,Instr.slice,Sem.run_bind,run_underlying hu,Result.andThen,Sem.run_pure,Instr.sliceBounds,hb2,sizeOf,typeInfo,program,hi,Sem.run]
 rw [if_neg (by omega)]
 simp [ZB]
end pe
theorem Zbu {a:Option Addr} {sz:Nat} {rows:List (List Value)} {w:World} (h:RowsA a sz rows w) (n:Nat):RowsA a sz (rows.take n) w:=fun i row hi=>by
 rw [List.getElem?_take] at hi
 split at hi
 · exact h i row hi
 · cases hi
theorem St.rowsTake {a:Option Addr} {sz:Nat} {rows:List (List Value)} {H:Z8} {R:Z5} {w:World} [m:MemRows a sz rows R] (h:St H R w) (n:Nat):St H (RowsA a sz (rows.take n)::R) w:=h.also fun _ hg=>Zbu (hg _ m.mem) n
section calls
variable {P:Program} {r:Option Nat} {ops:Array Oper} {n:Nat} {L:Zm} {D:List Deferred} {H:Z8} {R:Z5} {K:Act→World→Prop}
 {i:Nat} {ty:TypeId} {pos:String} {af:Array Edge}
end calls
theorem FnV.app {P:Program} {f:FuncId} {a:List Value} {G G2 H:Z8} {R:Z5} {v:Value} (h:FnV P f a ((G++G2)++H) R v):FnV P f a (G++(G2++H)) R v:=by rw [← List.append_assoc];exact h
theorem Yd.app {P:Program} {l:Nat} {a:List Value} {G G2 H:Z8} {R:Z5} {Q:Value→Z8→Z5→Prop} (h:Yd P l a ((G++G2)++H) R Q):Yd P l a (G++(G2++H)) R Q:=by rw [← List.append_assoc];exact h
theorem Yd.mono {P:Program} {l:Nat} {a:List Value} {H:Z8} {R:Z5} {Q Q':Value→Z8→Z5→Prop} (h:Yd P l a H R Q) (hq:∀ v H' R',Q v H' R'→Q' v H' R'):Yd P l a H R Q':=fun w hs=>by
 obtain ⟨f,tm,asg,bo,h1,h2⟩:=h w hs
 exact ⟨f,tm,asg,bo,h1,RoundIn.mono h2 fun e w' ⟨v,H',R',q,he,hs'⟩=>⟨v,H',R',hq _ _ _ q,he,hs'⟩⟩
theorem Z2W (n:Int):0≤IntKind.u32.wrap n∧IntKind.u32.wrap n≤4294967295:=by
 have e:IntKind.u32.wrap n=n%4294967296:=rfl
 rw [e];omega
theorem Z7P {n:Int} (h0:0≤n) (h1:n≤4294967295):IntKind.u32.wrap n=n:=by
 have e:IntKind.u32.wrap n=n%4294967296:=rfl
 rw [e];omega
theorem Z1j {n:Int} (h0 : -9223372036854775808≤n) (h1:n≤9223372036854775807):IntKind.i64.wrap n=n:=by
 have e:IntKind.i64.wrap n=if n%18446744073709551616≥9223372036854775808 then n%18446744073709551616-18446744073709551616 else n%18446744073709551616:=by
   unfold IntKind.wrap
   simp [IntKind.signed,IntKind.bits]
 rw [e]
 split<;>omega
def U32 (m:Int) (v:Value):Prop:=∃ x:Int,v = .int .u32 x∧0≤x∧x≤m
section pe
variable {P:Program} {L:Zm} {d:Option Tmp} {ty:TypeId} {pos:String} {af:Array Edge} {g:Option (Nat×Bool)}
theorem Zda {op:BinOp} {T:TypeId} {k:IntKind} {m n:Int} (hop:op = .and∨op = .or∨op = .xor∨op = .andNot):binOp op T (.int k m) (.int k n)=Op.intBits op k m n:=by
 rcases hop with rfl | rfl | rfl | rfl<;>simp [binOp]
theorem PE.bits {op:BinOp} {T U:TypeId} {x y:Operand} {k:IntKind} {m n:Int} {v:Value} (hop:op = .and∨op = .or∨op = .xor∨op = .andNot) (hx:ev L x=some (.int k m)) (hy:ev L y=some (.int k n))
   (h:∀ w,(Op.intBits op k m n).run P w = .ok v w):PE P L ⟨d,.binOp op T x y U,ty,pos,af,g⟩ v:=fun ρ hρ w=>by
 have hg:∀ w,(eqGuard op T x y (.int k m) (.int k n)).run P w = .ok () w:=fun w=>by rcases hop with rfl | rfl | rfl | rfl<;>rfl
 simp only [execOp,hρ _ _ hx,hρ _ _ hy,Sem.run_bind,hg,Zda hop,h,Result.andThen,Sem.run_pure]
theorem PE.xorU {T U:TypeId} {x y:Operand} {m n:Int} (hx:ev L x=some (.int .u32 m)) (hy:ev L y=some (.int .u32 n)):∃ v,PE P L ⟨d,.binOp .xor T x y U,ty,pos,af,g⟩ v∧U32 4294967295 v :=
 ⟨_,PE.bits (by simp) hx hy (fun w=>rfl),_,rfl,Z2W _⟩
theorem PE.mulU {T U:TypeId} {x y:Operand} {m n:Int} (hx:ev L x=some (.int .u32 m)) (hy:ev L y=some (.int .u32 n)):∃ v,PE P L ⟨d,.binOp .mul T x y U,ty,pos,af,g⟩ v∧U32 4294967295 v:=⟨_,PE.mulW hx hy,_,rfl,Z2W _⟩
theorem PE.addU {T U:TypeId} {x y:Operand} {m n:Int} (hx:ev L x=some (.int .u32 m)) (hy:ev L y=some (.int .u32 n)):∃ v,PE P L ⟨d,.binOp .add T x y U,ty,pos,af,g⟩ v∧U32 4294967295 v:=⟨_,PE.addW hx hy,_,rfl,Z2W _⟩
theorem PE.convU {S T:TypeId} {x:Operand} {k:IntKind} {m:Int} (hS:(P.underlying S).isSome=true) (hT:Z7l P T=some .u32) (hx:ev L x=some (.int k m)):∃ v,PE P L ⟨d,.convert S T x,ty,pos,af,g⟩ v∧U32 4294967295 v:=⟨_,PE.convert hS hT hx,_,rfl,Z2W _⟩
theorem PE.conv64 {S T:TypeId} {x:Operand} {k:IntKind} {m:Int} (hS:(P.underlying S).isSome=true) (hT:Z7l P T=some .i64) (hx:ev L x=some (.int k m)) (h0 : -9223372036854775808≤m∧m≤9223372036854775807):PE P L ⟨d,.convert S T x,ty,pos,af,g⟩ (.int .i64 m):=by
 have:=PE.convert (P:=P) (L:=L) (d:=d) (ty:=ty) (pos:=pos) (af:=af) (g:=g) hS hT hx
 rwa [Z1j h0.1 h0.2] at this
theorem PE.andU {T U:TypeId} {x y:Operand} {m n:Int} (hx:ev L x=some (.int .u32 m)) (hy:ev L y=some (.int .u32 n)) (h0:0≤n) (h1:n≤4294967295):∃ v,PE P L ⟨d,.binOp .and T x y U,ty,pos,af,g⟩ v∧U32 n v:=by
 refine ⟨_,PE.bits (by simp) hx hy (fun w=>rfl),_,rfl,(Z2W _).1,?_⟩
 have hb:(BitVec.ofInt 32 n).toNat=n.toNat:=by
   rw [BitVec.toNat_ofInt];omega
 have hle:(BitVec.ofInt 32 m&&&BitVec.ofInt 32 n).toNat≤n.toNat:=by
   rw [BitVec.toNat_and,hb];exact Nat.and_le_right
 show IntKind.u32.wrap ((BitVec.ofInt 32 m&&&BitVec.ofInt 32 n).toNat:Int)≤n
 rw [Z7P (by omega) (by omega)]
 omega
theorem PE.shrU {T U:TypeId} {x y:Operand} {q:IntKind} {m n:Int} (hx:ev L x=some (.int .u32 m)) (hy:ev L y=some (.int q n)) (hn:0≤n) (h0:0≤m) (h1:m≤4294967295):∃ v,PE P L ⟨d,.binOp .shr T x y U,ty,pos,af,g⟩ v∧U32 4294967295 v:=by
 refine ⟨.int .u32 (m.fdiv (2 ^ (Min.min n.toNat 32))),fun ρ hρ w=>?_,_,rfl,?_,?_⟩
 · have hg:∀ w,(eqGuard .shr T x y (.int .u32 m) (.int q n)).run P w = .ok () w:=fun w=>rfl
   have hb:binOp .shr T (.int .u32 m) (.int q n)=Op.shift .shr .u32 m q n:=by simp [binOp]
   have hs:∀ w,(Op.shift .shr .u32 m q n).run P w = .ok (.int .u32 (m.fdiv (2 ^ (Min.min n.toNat 32)))) w:=fun w=>by
     unfold Op.shift
     rw [if_neg (by omega)]
     rfl
   simp only [execOp,hρ _ _ hx,hρ _ _ hy,Sem.run_bind,hg,hb,hs,Result.andThen,Sem.run_pure]
 · rw [Int.fdiv_eq_ediv_of_nonneg _ (Int.pow_nonneg (by omega))]
   exact Int.ediv_nonneg h0 (Int.pow_nonneg (by omega))
 · rw [Int.fdiv_eq_ediv_of_nonneg _ (Int.pow_nonneg (by omega))]
   have:=Int.ediv_le_self (a:=m) (2 ^ (Min.min n.toNat 32)) h0
   omega
end pe
section steps
variable {P:Program} {r:Option Nat} {ops:Array Oper} {n:Nat} {L:Zm} {D:List Deferred} {H:Z8} {R:Z5} {K:Act→World→Prop}
 {bm:List Nat} {X:Act→World→Prop} {p:Plan} {pend:Z3r}
 {i d:Nat} {op:Op} {ty:TypeId} {pos:String} {af:Array Edge}
theorem spE {q:Value→Prop} (ho:ops[i]?=some ⟨some d,op,ty,pos,af,none⟩) (hv:∃ v,PE P L ⟨some d,op,ty,pos,af,none⟩ v∧q v) (hd:Nat.blt d n=true)
   (h:∀ v,q v→Sy n ((d,v)::L) D H R K):Sy n L D H R (stp P r ops i K):=by
 obtain ⟨v,hv,hq⟩:=hv
 exact sp ho hv hd (h v hq)
theorem tkE {q:Value→Prop} (ho:ops[i]?=some ⟨some d,op,ty,pos,af,none⟩) (hv:∃ v,PE P L ⟨some d,op,ty,pos,af,none⟩ v∧q v) (hd:Nat.blt d n=true)
   (h:∀ v,q v→Sy n ((d,v)::L) D H R (Dv P r ops bm X p pend)):Sy n L D H R (Dv P r ops bm X (.tk i p) pend):=by
 obtain ⟨v,hv,hq⟩:=hv
 exact tk ho hv hd (h v hq)
end steps
section pe
variable {P:Program} {L:Zm} {d:Option Tmp} {ty:TypeId} {pos:String} {af:Array Edge} {g:Option (Nat×Bool)}
theorem PE.shlN {T U:TypeId} {x y:Operand} {m:Nat} {k:Int} {n:Nat} {q:IntKind} (hx:ev L x=some (.int .i64 k)) (hy:ev L y=some (.int q (n:Int))) (hk:k=(m:Int)) (hn:n≤62) (hb:m*2 ^ n≤9223372036854775807) :
   PE P L ⟨d,.binOp .shl T x y U,ty,pos,af,g⟩ (.int .i64 ((m*2 ^ n:Nat):Int)):=fun ρ hρ w=>by
 subst hk
 have hg:∀ w,(eqGuard .shl T x y (.int .i64 (m:Int)) (.int q (n:Int))).run P w = .ok () w:=fun w=>rfl
 have hbo:binOp .shl T (.int .i64 (m:Int)) (.int q (n:Int))=Op.shift .shl .i64 m q n:=by simp [binOp]
 have hs:∀ w,(Op.shift .shl .i64 (m:Int) q (n:Int)).run P w = .ok (.int .i64 ((m*2 ^ n:Nat):Int)) w:=fun w=>by
   unfold Op.shift
   rw [if_neg (by omega)]
   have e:Min.min ((n:Int).toNat) (IntKind.i64.bits)=n:=by
     have:IntKind.i64.bits=64:=rfl
     rw [this,Int.toNat_natCast];omega
   have e2:((m:Int)*2 ^ n)=((m*2 ^ n:Nat):Int):=by push_cast;rfl
   show Result.ok (Value.int .i64 (IntKind.i64.wrap ((m:Int)*2 ^ (Min.min ((n:Int).toNat) (IntKind.i64.bits))))) w=_
   rw [e,e2,Z1j (by omega) (by omega)]
 simp only [execOp,hρ _ _ hx,hρ _ _ hy,Sem.run_bind,hg,hbo,hs,Result.andThen,Sem.run_pure]
theorem PE.shrN {T U:TypeId} {x y:Operand} {m n:Nat} {q:IntKind} (hx:ev L x=some (.int .i64 (m:Int))) (hy:ev L y=some (.int q (n:Int))) (hn:n≤64) :
   PE P L ⟨d,.binOp .shr T x y U,ty,pos,af,g⟩ (.int .i64 ((m>>>n:Nat):Int)):=fun ρ hρ w=>by
 have hg:∀ w,(eqGuard .shr T x y (.int .i64 (m:Int)) (.int q (n:Int))).run P w = .ok () w:=fun w=>rfl
 have hbo:binOp .shr T (.int .i64 (m:Int)) (.int q (n:Int))=Op.shift .shr .i64 m q n:=by simp [binOp]
 have hs:∀ w,(Op.shift .shr .i64 (m:Int) q (n:Int)).run P w = .ok (.int .i64 ((m>>>n:Nat):Int)) w:=fun w=>by
   unfold Op.shift
   rw [if_neg (by omega)]
   have e:Min.min ((n:Int).toNat) (IntKind.i64.bits)=n:=by
     have:IntKind.i64.bits=64:=rfl
     rw [this,Int.toNat_natCast];omega
   show Result.ok (Value.int .i64 ((m:Int).fdiv (2 ^ (Min.min ((n:Int).toNat) (IntKind.i64.bits))))) w=_
   rw [e,Int.fdiv_eq_ediv_of_nonneg _ (Int.pow_nonneg (by omega)),Nat.shiftRight_eq_div_pow]
   congr 2
 simp only [execOp,hρ _ _ hx,hρ _ _ hy,Sem.run_bind,hg,hbo,hs,Result.andThen,Sem.run_pure]
theorem Z2I {m:Nat} (h:m≤9223372036854775807):(BitVec.ofInt 64 (m:Int)).toNat=m:=by
 rw [BitVec.toNat_ofInt];omega
theorem PE.andN {T U:TypeId} {x y:Operand} {m n:Nat} {k:Int} (hx:ev L x=some (.int .i64 (m:Int))) (hy:ev L y=some (.int .i64 k)) (hk:k=(n:Int)) (hm:m≤9223372036854775807) (hn:n≤9223372036854775807) :
   PE P L ⟨d,.binOp .and T x y U,ty,pos,af,g⟩ (.int .i64 ((m&&&n:Nat):Int)):=by
 subst hk
 refine PE.bits (by simp) hx hy (fun w=>?_)
 show Result.ok (Value.int .i64 (IntKind.i64.wrap ((BitVec.ofInt 64 (m:Int)&&&BitVec.ofInt 64 (n:Int)).toNat:Int))) w=_
 have:m&&&n≤m:=Nat.and_le_left
 rw [BitVec.toNat_and,Z2I hm,Z2I hn,Z1j (by omega) (by omega)]
theorem PE.orN {T U:TypeId} {x y:Operand} {m n:Nat} (hx:ev L x=some (.int .i64 (m:Int))) (hy:ev L y=some (.int .i64 (n:Int))) (hm:m<2 ^ 62) (hn:n<2 ^ 62) :
   PE P L ⟨d,.binOp .or T x y U,ty,pos,af,g⟩ (.int .i64 ((m|||n:Nat):Int)):=by
 refine PE.bits (by simp) hx hy (fun w=>?_)
 show Result.ok (Value.int .i64 (IntKind.i64.wrap ((BitVec.ofInt 64 (m:Int)|||BitVec.ofInt 64 (n:Int)).toNat:Int))) w=_
 have:m|||n<2 ^ 62:=Nat.or_lt_two_pow hm hn
 rw [BitVec.toNat_or,Z2I (by omega),Z2I (by omega),Z1j (by omega) (by omega)]
theorem Z0k (m k:Nat):decide (((((m>>>k)&&&1:Nat)):Int)=1)=m.testBit k:=by
 rw [Nat.testBit,Nat.and_comm]
 have:1&&&(m>>>k)=(m>>>k)%2:=by rw [Nat.and_comm,Nat.and_one_is_mod]
 rw [this]
 have h2:=Nat.mod_lt (m>>>k) (show 0<2 by decide)
 rcases Nat.lt_or_ge ((m>>>k)%2) 1 with h | h
 · have:(m>>>k)%2=0:=by omega
   rw [this];rfl
 · have:(m>>>k)%2=1:=by omega
   rw [this];rfl
end pe
section look
variable {P:Program} {r:Option Nat} {ops:Array Oper} {n:Nat} {L:Zm} {D:List Deferred} {H:Z8} {R:Z5} {K:Act→World→Prop}
 {bm:List Nat} {X:Act→World→Prop} {p:Plan} {pend:Z3r} {i d:Nat} {ty:TypeId} {pos:String} {af:Array Edge}
theorem ZkV {T:TypeId} {x y:Operand} {vx vy v:Value} {c:Bool} {j t:Nat} {b:Bool} {oj:Oper} (ho:ops[i]?=some ⟨some d,.lookup T x y c,ty,pos,af,some (j,b)⟩) (hj:ops[j]?=some oj) (ht:oj.dst=some t) (hb:lk L t=some (.bool b)) (hx:ev L x=some vx) (hy:ev L y=some vy)
   (hl:∀ w,St H R w→Lkp P T vx vy c v w) (hd:Nat.blt d n=true) (h:Sy n ((d,v)::L) D H R K):Sy n L D H R (stp P r ops i K):=fun a w ha hD hs =>
 Zp ho (by simp [Region.wanted,ZE ha hj ht hb]) (Z0C ha.reads hx hy (hl w hs)) (h _ w (ha.put (by simpa using hd) v) hD hs)
theorem ZkR {T:TypeId} {x y:Operand} {vx vy v:Value} {c:Bool} {j t:Nat} {b:Bool} {oj:Oper} (ho:ops[i]?=some ⟨some d,.lookup T x y c,ty,pos,af,some (j,b)⟩) (hj:ops[j]?=some oj) (ht:oj.dst=some t) (hb:lk L t=some (.bool b)) (hx:ev L x=some vx) (hy:ev L y=some vy)
   (hl:∀ w,St H R w→Lkp P T vx vy c v w) (hd:Nat.blt d n=true) (h:Sy n ((d,v)::L) D H R (Dv P r ops bm X p ((i,Lkp P T vx vy c v)::pend))):Sy n L D H R (Dv P r ops bm X (.ld i p) pend):=fun a w ha hD hs =>
 ⟨_,v,Lkp P T vx vy c v,ho,.inl ⟨by simp [Region.wanted,ZE ha hj ht hb],fun w hw=>Z0g (Z0C ha.reads hx hy hw) (by simp)⟩,hl w hs,h _ w (ha.put (by simpa using hd) v) hD hs⟩
theorem mpi {T KT E s m:Nat} {x y z:Operand} {b:Bool} (l:KV) (k:List Int) {v:Value} {H':Z8} (ho:ops[i]?=some ⟨none,.insert T x y z,ty,pos,af,none⟩)
   (hT:Z0A P T=some (KT,E)) (hK:KeyT P b KT s) (hx:ev L x=some (.map (some m))) (hy:ev L y=some (mkv b k)) (hz:ev L z=some v) (hk:k.length=s) (hl:∀ e∈l,e.1.length=s)
   [mm:Mem1 m (Zz b l) H] [rp:Rep [(m,Zz b l)] [(m,Zz b (l.put k v))] H H']
   (h:Sy n L D H' R K):Sy n L D H R (stp P r ops i K):=fun a w ha hD hs=>by
 have h1:=Z4W (P:=P) (v:=v) hT hK hk hl (hs.held _ mm.mem)
 refine Z2R ho (Zh _ rfl _) (w':={ w with heap:=w.heap.setIfInBounds m (Zz b (l.put k v)) }) ?_ ?_
 · simp only [execOp,ha.reads _ _ hx,ha.reads _ _ hy,ha.reads _ _ hz,Sem.run_bind,h1,Result.andThen,Sem.run_pure]
 · exact h _ _ (ha.putNone undef) hD (hs.rep (F:=[(m,Zz b l)]) (F':=[(m,Zz b (l.put k v))]) fun T hT=>St.set hT)
theorem Z7n {T KT E s m:Nat} {b:Bool} (l:KV) (k:List Int) {zv:Value} (hT:Z0A P T=some (KT,E)) (hK:KeyT P b KT s) (hz:∀ w,(zeroValue E).run P w = .ok zv w) (hk:k.length=s) (hl:∀ e∈l,e.1.length=s)
   (hm:∀ w,St H R w→w.heap[m]?=some (Zz b l)) (c:Bool):∀ w,St H R w→Lkp P T (.map (some m)) (mkv b k) c (bif c then .tuple #[(l.get k).getD zv,.bool (l.get k).isSome] else (l.get k).getD zv) w:=fun w hs=>by
 unfold Z0A at hT
 split at hT<;>cases hT
 rename_i hu
 have h1:=Z39 (P:=P) (hm w hs)
 have h3:=Z2h hK k hk l hl w
 unfold Lkp Instr.lookup
 simp only [Sem.run_bind,run_underlying hu,Result.andThen,h1,Zz,hK.ck _ k hk,h3,Sem.run_pure]
 rw [← Z5s]
 cases hf:l.findIdx? fun e=>decide (e.1=k) with
 | none=>simp only [Option.map_none,Sem.run_bind,hz,Result.andThen,Sem.run_pure];cases c<;>rfl
 | some j=>simp only [Option.map_some,Sem.run_pure];cases c<;>rfl
end look
section nested
variable {P:Program} {n:Nat} {L:Zm} {D:List Deferred} {H:Z8} {R:Z5} {Q:Exit→Act→World→Prop}
theorem ZbK {r0:Nat} {c0:LR} {st0:LoopState} {pd0:Option Code} {g:Operand} {ps:Array Tmp} {assign body:Code} {f:FuncId} {first cap:List Value} [m0:Mem1 r0 (lob c0 st0 pd0) H]
   (hg:ev L g=some (.func (.func f) first.toArray cap.toArray)) (hf:cal P f=true)
   (h:∀ (c:LR) (bl:Nat),c.params=ps→c.assign=assign→c.body=body→Knows n L ⟨c.tmps,[]⟩ →
     ∃ A : LoopState → Option Code → Z8 → Z5 → Prop,
       Fn P f (first++[yv bl]++cap) ((bl,lob c .ready none)::H) R (fun _ H' R'=>∃ st pend T,st ≠ .busy∧H'.Perm ((bl,lob c st pend)::T)∧A st pend T R') ∧
       ∀ st pend T R',A st pend T R'→Sy n L D T R' (Z8t P (some r0) Q pend)) :
   Sy n L D H R (wpc P (some r0) (.rangeFunc g ps assign body) Q):=fun a w ha hD hs=>by
 refine wpIn_rangeFunc fun fn _=>?_
 let c:LR:=⟨fn,a.tmps,ps,assign,body,c0.defers⟩
 obtain ⟨A,h1,h2⟩:=h c w.heap.size rfl rfl rfl ⟨ha.size,ha.at_⟩
 have hs2:=hs.alloc (lob c .ready none)
 have hl0:=hs.held _ m0.mem
 refine ⟨w.heap.size,_,_,⟨.fn (.func f) cap.toArray,first.toArray ++ #[yv w.heap.size]⟩,w.alloc (lob c .ready none),f,(first++[yv w.heap.size]++cap).toArray,w.alloc (lob c .ready none),run_enterLoop_inner hl0 _ _ _ _ _,?_,fun _ _=>Z2m _ _,?_,by simp [Z2l],CallsIn.mono (Z0G (h1 _ hs2)) ?_⟩
 · simp only [resolve,rangeCall,ha.reads _ _ hg,Deferred.ofValue,Sem.run_pure,List.map_toArray,List.map_cons,List.map_nil]
   rfl
 · simp only [invoke]
   rw [Z1F hf]
   simp
 · rintro e w₃ ⟨v,H',R',⟨st,pend,T,hst,hp,hA⟩,rfl,hs3⟩
   have hs4:=hs3.perm hp
   have hl:=hs4.held (w.heap.size,lob c st pend) (by simp)
   refine ⟨pend,_,run_endLoop hl (by simpa using hst),?_⟩
   have hs5:=(St.set (o':=lob c .exhausted pend) hs4).tail
   have h3:=h2 st pend T R' hA ⟨a.tmps,a.defers⟩ _ ⟨ha.size,ha.at_⟩ hD hs5
   cases pend with
   | none=>exact h3
   | some j=>exact h3
end nested
section pe
variable {P:Program} {L:Zm} {d:Option Tmp} {ty:TypeId} {pos:String} {af:Array Edge} {g:Option (Nat×Bool)}
theorem PE.slLoA {T e s:Nat} {x z:Operand} {a:Option Addr} {len cap l:Nat} {k2:IntKind} (hT:slE P T=some (e,s)) (hx:ev L x=some (.slice a len cap)) (hz:ev L z=some (.int k2 l)) (hl:l≤len) :
   PE P L ⟨d,.slice T x (some z) none none,ty,pos,af,g⟩ (.slice (if cap=l then a else a.map (·.add (l*s))) (len-l) (cap-l)):=fun ρ hρ w=>by
 obtain ⟨i,hu,hi,rfl⟩:=Z3c hT
 have hb2:∀ c w,(Instr.sliceBound (.int k2 (l:Int)) len c).run P w = .ok l w:=fun c w=>by rw [Z4o (by omega)];simp
 simp only [execOp,hρ _ _ hx,hρ _ _ hz,Option.map_none,Option.map_some,Instr.sliceAt,Instr.slice,Sem.run_bind,run_underlying hu,Result.andThen,Sem.run_pure,Instr.sliceBounds,hb2,sizeOf,typeInfo,program,hi,Sem.run]
def fTy (P:Program) (T k:Nat):Option (Nat×Nat):=match P.underlying T with
 | some (.struct fs)=>fs[k]?.map fun f=>(f.type,f.offset)
 | _=>none
end pe
theorem Z3a {P:Program} {b e od:Nat} {l vs:List Value} (h1:vs.all (·.oneCell')=true) (hb:od+vs.length≤l.length) {w:World} (h:w.heap[b]?=some (cel e l)) :
   (storeCells ⟨b,od,none⟩ vs).run P w = .ok () { w with heap:=w.heap.setIfInBounds b (cel e (spl l od vs)) }:=by
 have:=run_storeCells_at (P:=P) b od e vs 0 l.toArray w h (by simpa using hb) (fun x hx=>List.all_eq_true.1 h1 x hx)
 rw [Z0U h] at this
 simpa [spl] using this
section steps
variable {P:Program} {r:Option Nat} {ops:Array Oper} {n:Nat} {L:Zm} {D:List Deferred} {H:Z8} {R:Z5} {K:Act→World→Prop}
 {i d:Nat} {ty:TypeId} {pos:String} {af:Array Edge}
theorem ZiR {T T2 e s:Nat} {x y:Operand} {b od bs os dl dc sl sc e2:Nat} {l:List Value} (cs:List Value) {H':Z8}
   (ho:ops[i]?=some ⟨some d,.call { callee:=.builtin .copy,args := #[x,y],argTypes := #[T,T2] },ty,pos,af,none⟩) (hT:slE P T=some (e,s))
   (hx:ev L x=some (.slice (some ⟨b,od,none⟩) dl dc)) (hy:ev L y=some (.slice (some ⟨bs,os,none⟩) sl sc)) (hn:cs.length=Nat.min sl dl*s)
   (hsrc:∀ w,St H R w→∀ j v,cs[j]?=some v→w.cell? ⟨bs,os+j,none⟩=some v) (h1:cs.all (·.oneCell')=true) (hb:od+cs.length≤l.length) (hd:Nat.blt d n=true)
   [m:Mem1 b (cel e2 l) H] [rp:Rep [(b,cel e2 l)] [(b,cel e2 (spl l od cs))] H H']
   (h:Sy n ((d,.int .i64 (Nat.min sl dl:Nat))::L) D H' R K):Sy n L D H R (stp P r ops i K):=fun a w ha hD hs=>by
 obtain ⟨ie,hu,hi,rfl⟩:=Z3c hT
 have hl:=run_loadCells_list (P:=P) w ⟨bs,os,none⟩ cs (fun j v hj=>by rw [ZB];exact hsrc w hs j v hj)
 have hst:=Z3a (P:=P) (e:=e2) h1 hb (hs.held _ m.mem)
 refine Zp ho (Zh _ rfl _) (v:=.int .i64 (Nat.min sl dl:Nat)) (w':={ w with heap:=w.heap.setIfInBounds b (cel e2 (spl l od cs)) }) ?_
   (h _ _ (ha.put (by simpa using hd) _) hD (hs.rep (F:=[(b,cel e2 l)]) (F':=[(b,cel e2 (spl l od cs))]) fun T hT=>St.set hT))
 simp only [execOp,resolve,invoke,builtin,Sem.run_bind,Sem.run_pure,Result.andThen,List.map_toArray,List.map_cons,List.map_nil,ha.reads _ _ hx,ha.reads _ _ hy]
 have e1:(Builtin.copy_ #[T,T2] ty #[.slice (some ⟨b,od,none⟩) dl dc,.slice (some ⟨bs,os,none⟩) sl sc]).run P w = .ok (goInt (Nat.min sl dl:Nat)) { w with heap:=w.heap.setIfInBounds b (cel e2 (spl l od cs)) }:=by
   simp [Builtin.copy_,run_underlying hu,Builtin.lenOf,Builtin.firstCells,sizeOf,typeInfo,hi,← hn,hl,hst]
 rw [e1]
 rfl
theorem Z8p {b e2 os:Nat} {l cs:List Value} [m:Mem1 b (cel e2 l) H] (hc:∀ j v,cs[j]?=some v→l[os+j]?=some v):∀ w,St H R w→∀ j v,cs[j]?=some v→w.cell? ⟨b,os+j,none⟩=some v:=fun w hs j v hj=>by
 rw [Z0H (hs.held _ m.mem)]
 simpa using hc j v hj
theorem apZ {t tn e sz by_ b i' cap k e2:Nat} {kq kn:IntKind} {s x:Operand} {l zl:List Value} (ho:ops[i]?=some ⟨some d,.call { callee:=.builtin .append,args := #[s,x],argTypes := #[t,tn] },ty,pos,af,none⟩)
   (ht:apT P t=some (e,sz,by_)) (htn:Z7l P tn=some kn) (hz:Zr P e=some zl) (hs:ev L s=some (.slice (some ⟨b,0,none⟩) i' cap)) (hx:ev L x=some (.int kq k))
   (hk:0<k) (hs0:0<sz) (hg:cap<i'+k) (hb:(i'+k)*by_≤140737488355328∧i'+k≤9223372036854775807) (hl:i'*sz≤l.length) (hd:Nat.blt d n=true) [m:Mem1 b (cel e2 l) H]
   (h:∀ (b' cap':Nat) (junk:List Value),i'+k≤cap'→cap'≤9223372036854775807→(i'+k)*sz+junk.length=cap'*sz→Sy n ((d,.slice (some ⟨b',0,none⟩) (i'+k) cap')::L) D ((b',cel e (l.take (i'*sz)++(Z0Y k zl++junk)))::H) R K):Sy n L D H R (stp P r ops i K):=fun a w ha hD hw=>by
 unfold apT at ht
 split at ht
 case h_2=>cases ht
 rename_i e' hu
 split at ht
 case h_2=>cases ht
 rename_i ie hi
 split at ht
 case h_2=>cases ht
 rename_i z hzz
 cases hzs:Nat.beq z.cells.size ie.size with
 | false=>rw [hzs] at ht;cases ht
 | true =>
 rw [hzs,cond_true] at ht
 cases ht
 have hzs:=Nat.eq_of_beq_eq_true hzs
 have hzl:z.cells.toList=zl:=by
   have:Zr P e=some z.cells.toList:=by simp [Zr,hi,hzz]
   rw [this] at hz;exact Option.some.inj hz
 have hun:P.underlying tn=some (.int kn):=by
   unfold Z7l at htn
   split at htn
   · rename_i q hq;cases htn;exact hq
   · cases htn
 have hcs:(l.take (i'*ie.size)).length=i'*ie.size:=by rw [List.length_take];omega
 have hold:(Builtin.firstCells ie.size i' (.slice (some ⟨b,0,none⟩) i' cap)).run P w.drew = .ok (l.take (i'*ie.size)).toArray w.drew:=by
   have h1:=run_loadCells_list (P:=P) w.drew ⟨b,0,none⟩ (l.take (i'*ie.size)) (fun j v hj=>by
     rw [ZB,Z0H (hw.drew.held _ m.mem)]
     rw [List.getElem?_take] at hj
     split at hj
     · simpa using hj
     · cases hj)
   rw [hcs] at h1
   exact h1
 have hq:k*ie.bytes≤(i'+k)*ie.bytes:=Nat.mul_le_mul_right _ (by omega)
 have h2:=Lib.run_append_grow_zeros (P:=P) w t tn ty e ie z kq kn hu hun hi hzz (some ⟨b,0,none⟩) i' cap (l.take (i'*ie.size)) hold k hk hs0 hg (by omega) (by omega) (growslice_fits hg hb.1)
 have hge:=grownCap_ge w (i'+k) cap e
 have hcm:grownCap w (i'+k) cap e≤maxLen:=grownCap_le_maxLen w _ cap e (by simp only [maxLen];omega)
 have hrep:∀ q,(Builtin.zeroCells z.cells q).toList=Z0Y q zl:=fun q=>by rw [← hzl];simp [Builtin.zeroCells,Z0Y]
 have e1:(.cells ((l.take (i'*ie.size)).toArray++Builtin.zeroCells z.cells k++Builtin.zeroCells z.cells (grownCap w (i'+k) cap e-(i'+k))) e:Obj)=cel e (l.take (i'*ie.size)++(Z0Y k zl++(Builtin.zeroCells z.cells (grownCap w (i'+k) cap e-(i'+k))).toList)):=by
   unfold cel;congr 1;apply Array.toList_inj.1;simp [hrep]
 refine Zp ho (Zh _ rfl _) (v:=.slice (some ⟨w.heap.size,0,none⟩) (i'+k) (grownCap w (i'+k) cap e)) (w':=w.drew.alloc (cel e (l.take (i'*ie.size)++(Z0Y k zl++(Builtin.zeroCells z.cells (grownCap w (i'+k) cap e-(i'+k))).toList)))) ?_
   (h w.heap.size (grownCap w (i'+k) cap e) (Builtin.zeroCells z.cells (grownCap w (i'+k) cap e-(i'+k))).toList hge (by simp only [maxLen] at hcm;omega) ?_ _ _ (ha.put (by simpa using hd) _) hD (hw.drew.alloc _))
 · simp only [execOp,resolve,invoke,builtin,Sem.run_bind,Sem.run_pure,Result.andThen,List.map_toArray,List.map_cons,List.map_nil,ha.reads _ _ hs,ha.reads _ _ hx]
   rw [e1] at h2
   rw [h2]
 · simp only [Array.length_toList,size_zeroCells,hzs,← Nat.add_mul]
   congr 1;omega
theorem clX {f:FuncId} {xs:List Operand} {vs:List Value} {ts:Array TypeId} {v:Value}
   (ho:ops[i]?=some ⟨some d,.call { callee:=.value (.func f),args:=xs.toArray,argTypes:=ts },ty,pos,af,none⟩) (hd:Nat.blt d n=true) (hx:evs L xs=some vs)
   (hc:∀ w,St H R w→(callFunc f vs.toArray).run P w = .ok (.value v) w) (h:Sy n ((d,v)::L) D H R K):Sy n L D H R (stp P r ops i K):=fun a w ha hD hs=>by
 refine Zp ho (Zh _ rfl _) (v:=v) (w':=w) ?_ (h _ _ (ha.put (by simpa using hd) _) hD hs)
 have e:xs.toArray.map a.eval=vs.toArray:=by rw [List.map_toArray,Z31 ha.reads _ _ hx]
 have e2:a.eval (.func f) = .func (.func f) #[] #[]:=ha.reads (.func f) _ rfl
 simp only [execOp,resolve,e2,Deferred.ofValue,e,Sem.run_bind,Sem.run_pure,Result.andThen,invoke]
 simpa using hc w hs
end steps
section dag
variable {P:Program} {r:Option Nat} {ops:Array Oper} {bm:List Nat} {X:Act→World→Prop} {n:Nat} {L:Zm} {D:List Deferred} {H:Z8} {R:Z5} {p:Plan} {pend:Z3r}
end dag
theorem ZfJ {P : Program} {tS tR e f : Nat} {fn : Func} (hf : P.funcs[f]? = some fn) (h1 : (fn.name == "runtime.NumGoroutine") = false) (h2 : fn.body.isNone = true) (h3 : Extern.findNext fn = none) (h4 : Extern.find fn = some (Extern.SlicesOverlaps.overlaps #[tS, tS] #[tR]))
   {s:Nat} (hT:slE P tS=some (e,s)) {a b oa ob la ca lb cb eA eB:Nat} {xa xb:List Value} (hne:a≠b) (hb0:xb≠[]) {w:World} (hA:w.heap[a]?=some (cel eA xa)) (hB:w.heap[b]?=some (cel eB xb)) :
   (callFunc f #[.slice (some ⟨a,oa,none⟩) la ca,.slice (some ⟨b,ob,none⟩) lb cb]).run P w = .ok (.value (.bool false)) w:=by
 obtain ⟨i,hu,hi,hs⟩:=Z3c hT
 rw [run_callFunc_extern hf h1 h2 h3 (e:=Extern.SlicesOverlaps.overlaps #[tS,tS] #[tR]) h4,
   Lib.run_overlaps_apart w tS tR e hu s (fun w=>by rw [← hs];exact Z3D (by rw [hi];rfl) w) ⟨a,oa,none⟩ ⟨b,ob,none⟩ la ca lb cb hne eA eB xa.length xb.length
     (by simp [World.shape?,hA,cel]) (by simp [World.shape?,hB,cel]) (by simpa using hb0) (by simp [World.frozen?,hA,cel]) (by simp [World.frozen?,hA,cel])]
 rfl
section pe
variable {P:Program} {L:Zm} {d:Option Tmp} {ty:TypeId} {pos:String} {af:Array Edge} {g:Option (Nat×Bool)}
end pe
section steps
variable {P:Program} {r:Option Nat} {ops:Array Oper} {n:Nat} {L:Zm} {D:List Deferred} {H:Z8} {R:Z5} {K:Act→World→Prop}
 {i d:Nat} {ty:TypeId} {pos:String} {af:Array Edge}
end steps
def AllS:List Nat→(Nat→Prop)→Prop
 | [],_=>True
 | i::l,p=>p i∧AllS l p
theorem AllS.all {p:Nat→Prop}:∀ {l:List Nat},AllS l p→∀ i∈l,p i
 | [],_,i,h=>by cases h
 | j::l,h,i,hi=>by
   rcases List.mem_cons.1 hi with rfl | hi
   · exact h.1
   · exact AllS.all h.2 i hi
section free
variable {P:Program} {r:Option Nat} {ops:Array Oper} {n:Nat} {L:Zm} {D:List Deferred} {H:Z8} {R:Z5}
end free
def pvl (L:Zm):Op→Option Value
 | .move x=>ev L x
 | .assign x=>ev L x
 | .pick c x y=>match ev L c with
   | some (.bool b)=>match ev L x with
     | some u=>match ev L y with
       | some v=>some (bif b then u else v)
       | none=>none
     | none=>none
   | _=>none
 | .extract x k=>match ev L x with
   | some (.tuple l)=>l.toList[k]?
   | _=>none
 | .unOp .not _ x=>match ev L x with
   | some (.bool b)=>some (.bool !b)
   | _=>none
 | .binOp .lss _ x y _=>match ev L x with
   | some (.int .i64 m)=>match ev L y with
     | some (.int .i64 n)=>some (.bool (decide (m<n)))
     | _=>none
   | _=>none
 | .binOp .leq _ x y _=>match ev L x with
   | some (.int .i64 m)=>match ev L y with
     | some (.int .i64 n)=>some (.bool (decide (m≤n)))
     | _=>none
   | _=>none
 | .binOp .gtr _ x y _=>match ev L x with
   | some (.int .i64 m)=>match ev L y with
     | some (.int .i64 n)=>some (.bool (decide (n<m)))
     | _=>none
   | _=>none
 | .binOp .geq _ x y _=>match ev L x with
   | some (.int .i64 m)=>match ev L y with
     | some (.int .i64 n)=>some (.bool (decide (n≤m)))
     | _=>none
   | _=>none
 | .binOp .eql _ x y _=>match ev L x with
   | some (.int .i64 m)=>match ev L y with
     | some (.int .i64 n)=>some (.bool (decide (m=n)))
     | _=>none
   | _=>none
 | .binOp .neq _ x y _=>match ev L x with
   | some (.int .i64 m)=>match ev L y with
     | some (.int .i64 n)=>some (.bool (decide (m≠n)))
     | _=>none
   | _=>none
 | _=>none
theorem Z8L {P:Program} {L:Zm} {o:Oper} {v:Value} (h:pvl L o.op=some v):PE P L o v:=by
 obtain ⟨d,op,ty,pos,af,g⟩:=o
 dsimp only at h
 unfold pvl at h
 split at h
 · exact PE.move h
 · exact PE.assign h
 · split at h
   · rename_i b hb
     split at h
     · rename_i u hu
       split at h
       · rename_i w hw
         obtain rfl:=Option.some.inj h
         exact PE.pick hb hu hw
       · cases h
     · cases h
   · cases h
 · split at h
   · rename_i l hl
     exact PE.extract (l:=l.toList) hl h
   · cases h
 · split at h
   · rename_i b hb
     obtain rfl:=Option.some.inj h
     exact PE.not hb
   · cases h
 · split at h
   · rename_i m hm
     split at h
     · rename_i k hk
       obtain rfl:=Option.some.inj h
       exact PE.lss hm hk
     · cases h
   · cases h
 · split at h
   · rename_i m hm
     split at h
     · rename_i k hk
       obtain rfl:=Option.some.inj h
       exact PE.leq hm hk
     · cases h
   · cases h
 · split at h
   · rename_i m hm
     split at h
     · rename_i k hk
       obtain rfl:=Option.some.inj h
       exact PE.gtr hm hk
     · cases h
   · cases h
 · split at h
   · rename_i m hm
     split at h
     · rename_i k hk
       obtain rfl:=Option.some.inj h
       exact PE.geq hm hk
     · cases h
   · cases h
 · split at h
   · rename_i m hm
     split at h
     · rename_i k hk
       obtain rfl:=Option.some.inj h
       exact PE.eql hm hk
     · cases h
   · cases h
 · split at h
   · rename_i m hm
     split at h
     · rename_i k hk
       obtain rfl:=Option.some.inj h
       exact PE.neq hm hk
     · cases h
   · cases h
 · cases h
def gok (ops:Array Oper) (L:Zm):Option (Nat×Bool)→Option Bool
 | none=>some true
 | some (j,b)=>match ops[j]? with
   | some oj=>match oj.dst with
     | some t=>match lk L t with
       | some (.bool c)=>some (b == c)
       | _=>none
     | none=>none
   | none=>none
def prS (ops:Array Oper) (n:Nat) (L:Zm) (i:Nat):Option Zm:=match ops[i]? with
 | some o=>match o.dst with
   | some d=>bif Nat.blt d n then
       match gok ops L o.guard with
       | some true=>match pvl L o.op with
         | some v=>some ((d,v)::L)
         | none=>none
       | some false=>some ((d,undef)::L)
       | none=>none
     else none
   | none=>none
 | none=>none
section ops
variable {P:Program} {r:Option Nat} {ops:Array Oper} {n:Nat} {L L':Zm} {D:List Deferred} {H:Z8} {R:Z5} {K:Act→World→Prop}
 {bm:List Nat} {X:Act→World→Prop} {p p':Plan} {pend:Z3r} {i:Nat}
theorem Z6K (h:prS ops n L i=some L'):∃ o d,ops[i]?=some o∧o.dst=some d∧Nat.blt d n=true ∧
   ((∃ v,pvl L o.op=some v∧L'=(d,v)::L∧(o.guard=none∨∃ j b oj t,o.guard=some (j,b)∧ops[j]?=some oj∧oj.dst=some t∧lk L t=some (.bool b))) ∨
    (L'=(d,undef)::L∧∃ j b oj t c,o.guard=some (j,b)∧ops[j]?=some oj∧oj.dst=some t∧lk L t=some (.bool c)∧b=!c)):=by
 unfold prS at h
 split at h
 · rename_i o ho
   split at h
   · rename_i d hd
     cases hb:Nat.blt d n with
     | false=>rw [hb] at h;cases h
     | true =>
       rw [hb,cond_true] at h
       refine ⟨o,d,ho,hd,hb,?_⟩
       have hg:∀ x,gok ops L o.guard=some x→(o.guard=none∧x=true)∨∃ j b oj t c,o.guard=some (j,b)∧ops[j]?=some oj∧oj.dst=some t∧lk L t=some (.bool c)∧x=(b == c):=by
         intro x hx
         unfold gok at hx
         split at hx
         · rename_i h0;exact .inl ⟨h0,(Option.some.inj hx).symm⟩
         · rename_i j b h0
           split at hx
           · rename_i oj hj
             split at hx
             · rename_i t ht
               split at hx
               · rename_i c hc
                 exact .inr ⟨j,b,oj,t,c,h0,hj,ht,hc,(Option.some.inj hx).symm⟩
               · cases hx
             · cases hx
           · cases hx
       split at h
       · rename_i h0
         split at h
         · rename_i v hv
           refine .inl ⟨v,hv,(Option.some.inj h).symm,?_⟩
           rcases hg _ h0 with ⟨h1,_⟩ | ⟨j,b,oj,t,c,h1,h2,h3,h4,h5⟩
           · exact .inl h1
           · obtain rfl:=eq_of_beq h5.symm
             exact .inr ⟨j,b,oj,t,h1,h2,h3,h4⟩
         · cases h
       · rename_i h0
         refine .inr ⟨(Option.some.inj h).symm,?_⟩
         rcases hg _ h0 with ⟨_,h1⟩ | ⟨j,b,oj,t,c,h1,h2,h3,h4,h5⟩
         · cases h1
         · exact ⟨j,b,oj,t,c,h1,h2,h3,h4,by cases b<;>cases c<;>first | rfl | cases h5⟩
       · cases h
   · cases h
 · cases h
theorem Zio (h:prS ops n L i=some L') (hk:Sy n L' D H R K):Sy n L D H R (stp P r ops i K):=by
 obtain ⟨⟨dst,op,ty,pos,af,g⟩,d,ho,hd,hb,h1⟩:=Z6K h
 dsimp only at hd h1
 subst hd
 rcases h1 with ⟨v,hv,rfl,rfl | ⟨j,b,oj,t,rfl,hj,ht,hl⟩⟩ | ⟨rfl,j,b,oj,t,c,hg,hj,ht,hl,hbc⟩
 · exact sp ho (Z8L hv) hb hk
 · exact spG ho hj ht hl (Z8L hv) hb hk
 · exact spN ho hg hj ht hl hbc rfl hb hk
theorem Zip (h:prS ops n L i=some L') (hk:Sy n L' D H R (Dv P r ops bm X p pend)):Sy n L D H R (Dv P r ops bm X (.tk i p) pend):=by
 obtain ⟨⟨dst,op,ty,pos,af,g⟩,d,ho,hd,hb,h1⟩:=Z6K h
 dsimp only at hd h1
 subst hd
 rcases h1 with ⟨v,hv,rfl,rfl | ⟨j,b,oj,t,rfl,hj,ht,hl⟩⟩ | ⟨rfl,j,b,oj,t,c,hg,hj,ht,hl,hbc⟩
 · exact tk ho (Z8L hv) hb hk
 · exact tkG ho hj ht hl (Z8L hv) hb hk
 · exact tkN ho hg hj ht hl hbc rfl hb hk
def prK (ops:Array Oper) (n:Nat):Nat→List Nat→Zm→Option (List Nat×Zm)
 | 0,l,L=>some (l,L)
 | _+1,[],_=>none
 | k+1,i::l,L=>match prS ops n L i with
   | some L'=>prK ops n k l L'
   | none=>none
theorem pur (k:Nat) {l l':List Nat} (h:prK ops n k l L=some (l',L')) (hk:Sy n L' D H R (Z5l P r ops X l')):Sy n L D H R (Z5l P r ops X l):=by
 induction k generalizing l L with
 | zero =>
   simp only [prK,Option.some.injEq,Prod.mk.injEq] at h
   obtain ⟨rfl,rfl⟩:=h
   exact hk
 | succ k ih =>
   cases l with
   | nil=>cases h
   | cons i l =>
     unfold prK at h
     split at h
     · rename_i L1 h1
       exact Zio h1 (ih h)
     · cases h
def prP (ops:Array Oper) (n:Nat):Nat→Plan→Zm→Option (Plan×Zm)
 | 0,p,L=>some (p,L)
 | k+1,.tk i p,L=>match prS ops n L i with
   | some L'=>prP ops n k p L'
   | none=>none
 | _+1,_,_=>none
theorem Zl (k:Nat) (h:prP ops n k p L=some (p',L')) (hk:Sy n L' D H R (Dv P r ops bm X p' pend)):Sy n L D H R (Dv P r ops bm X p pend):=by
 induction k generalizing p L with
 | zero =>
   simp only [prP,Option.some.injEq,Prod.mk.injEq] at h
   obtain ⟨rfl,rfl⟩:=h
   exact hk
 | succ k ih =>
   cases p with
   | tk i p =>
     unfold prP at h
     split at h
     · rename_i L1 h1
       exact Zip h1 (ih h)
     · cases h
   | done=>cases h
   | ld i p=>cases h
   | big i p=>cases h
   | any p=>cases h
   | alt i p q=>cases h
   | stop=>cases h
theorem Zv {X:Act→World→Prop} (t:Nat) {b:Bool} (hb:lk L t=some (.bool b)) (h1:b=true→Sy n ((t,.bool true)::L) D H R X) (h0:b=false→Sy n ((t,.bool false)::L) D H R X):Sy n L D H R X:=ZfS hb h1 h0
theorem bgT (h:Sy n L D H R (Dv P r ops bm X p (keepP bm i pend))) (hp:∀ w,St H R w→Z0f bm i pend w:=by intro w hs;repeat' first | exact trivial | constructor):Sy n L D H R (fun a w=>Z0f bm i pend w∧Dv P r ops bm X p (keepP bm i pend) a w):=bg hp h
theorem lhI {T b off k:Nat} {o:Obj} [m:Mem1 b o H] {e:TypeId} {l:List Value} (vs:List Int) (hT:Z2a P T=some k) (ho:o=cel e l) (hv:l.drop off=Za vs) (hk:vs.length=k):∀ w,St H R w→Ld P T ⟨b,off,none⟩ (.agg (Za vs).toArray) w :=
 lhA (rest:=[]) (Za vs) hT ho (by rw [List.append_nil];exact hv) (by rw [List.length_map];exact hk)
theorem PE.fA {ty:TypeId} {pos:String} {af:Array Edge} {g:Option (Nat×Bool)} {d:Option Tmp} {T k o b off:Nat} {x:Operand} (ho:ZY P T k=some o) (hx:ev L x=some (.pointer (some ⟨b,off,none⟩))):PE P L ⟨d,.fieldAddr T x k,ty,pos,af,g⟩ (.pointer (some ⟨b,off+o,none⟩)):=PE.fieldAddr ho hx
end ops
theorem cS:(∀ (p:Prop) [Decidable p],(decide p=true)=p)∧(∀ (p:Prop) [Decidable p],(decide p=false)=¬ p)∧(∀ a b:Bool,((a&&b)=true)=(a=true∧b=true))∧(∀ a b:Bool,((a||b)=true)=(a=true∨b=true))∧(∀ b:Bool,((!b)=true)=(b=false))∧(∀ a b:Int,(¬ a≤b)=(b<a))∧(∀ a b:Int,(¬ a<b)=(b≤a)) :=
 ⟨fun _ _=>decide_eq_true_eq,fun p _=>propext decide_eq_false_iff_not,fun a b=>by simp,fun a b=>by simp,fun b=>by simp,fun a b=>propext Int.not_le,fun a b=>propext Int.not_lt⟩
def tks:Nat→Nat→Plan→Plan
 | _,0,p=>p
 | i,k+1,p=>.tk i (tks (i+1) k p)
theorem idH {H:Z8} {R:Z5}:∀ w,St H R w→St H R w:=fun _ h=>h
theorem ne0 {α:Type} {l:List α} (h:l.length≠0):l≠[]:=fun e=>h (by rw [e];rfl)
theorem nl {m n:Nat} (h:Nat.ble m n=true):m≤n:=Nat.le_of_ble_eq_true h
theorem dF {p:Prop} [i:Decidable p] (h:¬ p):decide p=false:=decide_eq_false h
theorem dT {p:Prop} [i:Decidable p] (h:p):decide p=true:=decide_eq_true h
section steps
variable {P:Program} {r:Option Nat} {n:Nat} {L:Zm} {D:List Deferred} {H:Z8} {R:Z5} {Q:Exit→Act→World→Prop}
theorem Zj {ι:Type} {inv:ι→Head} {j:ι} (hH:∀ w,St H R w→St (inv j).H (inv j).R w) (hL:Sub (inv j).L L:=by repeat' first | exact Sub.nil | apply Sub.cons | rfl | (simp [lk];omega)):Sy n L D H R (Z4G n D inv j):=Zkd hL hH
theorem Zf {ι:Type} {inv:ι→Head} {μ:ι→Nat} {i:ι} (j:ι) (hm:μ j<μ i) (hH:∀ w,St H R w→St (inv j).H (inv j).R w) (hL:Sub (inv j).L L:=by repeat' first | exact Sub.nil | apply Sub.cons | rfl | (simp [lk];omega)):Sy n L D H R (Z9y n D inv μ i):=Zx j hm hL hH
theorem Zc {ι:Type} {inv:ι→Head} {μ:ι→Nat} {i:ι} (j:ι) (hH:∀ w,St H R w→St (inv j).H (inv j).R w) (hm:μ j<μ i:=by dsimp only;omega) (hL:Sub (inv j).L L:=by repeat' first | exact Sub.nil | apply Sub.cons | rfl | (simp [lk];omega)):Sy n L D H R (Z9y n D inv μ i):=Zx j hm hL hH
theorem Z0b {ι:Type} {hd:ι→Head} (j:ι) (hH:∀ w,St H R w→St (hd j).H (hd j).R w) (hL:Sub (hd j).L L:=by repeat' first | exact Sub.nil | apply Sub.cons | rfl | (simp [lk];omega)):Sy n L D H R (Zen n D hd .normal):=ZbJ j hL hH
theorem Z3G {ι:Type} {hd:ι→Head} (j:ι) (hH:∀ w,St H R w→St (hd j).H (hd j).R w) (hL:Sub (hd j).L L:=by repeat' first | exact Sub.nil | apply Sub.cons | rfl | (simp [lk];omega)):Sy n L D H R (Z9z n D hd Q .normal):=Z7I j hL hH
def rg:Nat→Nat→List Nat
 | _,0=>[]
 | i,k+1=>i::rg (i+1) k
theorem sqt {id:Nat} {ops:Array Oper} {y:Code} (k:Nat) (hl:List.range ops.size=rg 0 k) (h:Sy n L D H R (Z5l P r ops (wpc P r y Q) (rg 0 k))):Sy n L D H R (wpc P r (.seq (.region id ops false) y) Q) :=
 Z0 (Zei _ hl h)
theorem sqr {id:Nat} {ops:Array Oper} (k:Nat) (hl:List.range ops.size=rg 0 k) (h:Sy n L D H R (Z5l P r ops (Q .normal) (rg 0 k))):Sy n L D H R (wpc P r (.region id ops false) Q):=Zei _ hl h
variable {fn:Func} {G:Value→Z8→Z5→Prop} {H':Z8} {R':Z5}
theorem rtA {t:Nat} {v u:Value} (hr:fn.results = #[.tmp t]) (hv:lk L t=some v) (he:ZR [v]=u) (hq:G u H' R') (hs:∀ w,St H R w→St H' R' w):Sy n L [] H R (Ret P fn G .ret):=Zg (vs:=[v]) hr (.cons (RV.tmp hv) .nil) he hq hs
theorem rtB {t t2:Nat} {v x u:Value} (hr:fn.results = #[.tmp t,.tmp t2]) (hv:lk L t=some v) (hx:lk L t2=some x) (he:ZR [v,x]=u) (hq:G u H' R') (hs:∀ w,St H R w→St H' R' w):Sy n L [] H R (Ret P fn G .ret):=Zg (vs:=[v,x]) hr (.cons (RV.tmp hv) (.cons (RV.tmp hx) .nil)) he hq hs
theorem rtC {t t2 t3:Nat} {v x y u:Value} (hr:fn.results = #[.tmp t,.tmp t2,.tmp t3]) (hv:lk L t=some v) (hx:lk L t2=some x) (hy:lk L t3=some y) (he:ZR [v,x,y]=u) (hq:G u H' R') (hs:∀ w,St H R w→St H' R' w):Sy n L [] H R (Ret P fn G .ret):=Zg (vs:=[v,x,y]) hr (.cons (RV.tmp hv) (.cons (RV.tmp hx) (.cons (RV.tmp hy) .nil))) he hq hs
end steps
theorem ZiH {P:Program} {n:Nat} {L:Zm} {H:Z8} {R:Z5} {c:LR} {bl:Nat} {p q:Tmp} {assign body:Code} {v u:Value} {QY:Value→Z8→Z5→Prop} [m:Mem1 bl (lob c .ready none) H] (hp:c.params = #[p,q]) (ha:c.assign=assign) (hb:c.body=body)
   (hk:Knows n L ⟨c.tmps,[]⟩) (hpn:Nat.blt p n=true) (hqn:Nat.blt q n=true) (h:Sy n ((q,u)::(p,v)::L) [] H R (wpc P (some bl) assign (RB P bl body QY))):Yd P bl [v,u] H R QY:=fun w hs=>by
 subst ha hb
 have hl:=hs.held _ m.mem
 refine ⟨c.fn,_,c.assign,c.body,run_yield (r:={ state:=.ready,pending:=none,fn:=c.fn,tmps:=c.tmps,params:=c.params,assign:=c.assign,body:=c.body,defers:=c.defers }) hl (by simp [hp]),?_⟩
 refine roundIn_of_wpIn (Z2m _ _) ?_
 have k1:Knows n ((p,v)::L) ⟨c.tmps.setIfInBounds p v,[]⟩:=by simpa [Act.put] using hk.put (d:=p) (by simpa using hpn) v
 have k2:Knows n ((q,u)::(p,v)::L) ⟨(c.tmps.setIfInBounds p v).setIfInBounds q u,[]⟩:=by simpa [Act.put] using k1.put (d:=q) (by simpa using hqn) u
 have h1:=h ⟨(c.tmps.setIfInBounds p v).setIfInBounds q u,[]⟩ w k2 rfl hs
 have e:(c.params.zip #[v,u]).foldl (fun tmps (x:Tmp×Value)=>tmps.setIfInBounds x.1 x.2) c.tmps=(c.tmps.setIfInBounds p v).setIfInBounds q u:=by simp [hp]
 dsimp only
 rw [e]
 exact h1
theorem sbA {A B:Zm} (h:Sub A B:=by repeat' first | exact Sub.nil | apply Sub.cons | rfl | (simp [lk];omega)):Sub A B:=h
theorem Zo:Tryz.prog.follows .mixedOrders=true:=by kernel_rfl
end Go.Proofs.YtcfdanhklbklkaaGreat
namespace Go.Proofs.YtcfdanhklbklkaaGreat.Ht
set_option linter.unusedSimpArgs false
set_option linter.unusedVariables false
structure HBin where
 warm:Int
 mark:Int
 lo:Int
 hi:Int
 deriving DecidableEq,Repr
structure Barn where
 cool:Int
 gangs:Int
 rise:List Int
 bins:List HBin
 deriving DecidableEq,Repr
def na (l:List Int) (k:Nat):Int:=l.getD k 0
@[reducible] def inB (n lo hi : Int) : Bool := decide (lo ≤ n) && decide (n ≤ hi)
def HBin.ok (x:HBin):Bool:=inB x.mark 0 60&&inB x.warm 0 x.mark&&inB x.lo 0 5&&inB x.hi 0 5
def Z24 (n:Int):Bool:=decide (n=0)||inB n 6 20
def srt:List Int→Bool
 | x::y::l=>decide (x≤y)&&srt (y::l)
 | _=>true
def Barn.check (b:Barn):Int :=
 bif !(inB b.bins.length 1 4) then 2 else
 bif !(inB b.cool 0 60)||!(inB b.gangs 0 3) then 3 else
 bif !(b.rise.all Z24) then 3 else
 bif !(b.bins.all HBin.ok) then 3 else
 bif !(srt b.rise)||!(b.bins.all fun x=>decide (x.lo≤x.hi)) then 4 else 0
structure Barn.ok (b:Barn):Prop where
 len:b.rise.length=6
 many:1≤b.bins.length∧b.bins.length≤4
 cool:0≤b.cool∧b.cool≤60
 gangs:0≤b.gangs∧b.gangs≤4
 rise:∀ n∈b.rise,n=0∨(6≤n∧n≤20)
 bins:∀ x∈b.bins,(0≤x.mark∧x.mark≤60)∧(0≤x.warm∧x.warm≤x.mark)∧(0≤x.lo∧x.lo≤5)∧(0≤x.hi∧x.hi≤5)
 srt:srt b.rise=true
 ord:∀ x∈b.bins,x.lo≤x.hi
theorem Barn.ok_of {b:Barn} (hl:b.rise.length=6) (h:b.check=0):b.ok:=by
 unfold Barn.check at h
 simp only [Bool.cond_eq_ite] at h
 split at h<;>try (exact absurd h (by decide))
 split at h<;>try (exact absurd h (by decide))
 split at h<;>try (exact absurd h (by decide))
 split at h<;>try (exact absurd h (by decide))
 split at h<;>try (exact absurd h (by decide))
 rename_i h1 h2 h3 h4 h5
 simp only [Bool.not_eq_true',Bool.not_eq_true,Bool.or_eq_true,not_or,Bool.not_eq_false',Bool.not_eq_false,inB,Bool.and_eq_true,decide_eq_true_eq,List.all_eq_true,Z24,HBin.ok] at h1 h2 h3 h4 h5
 refine ⟨hl,⟨by omega,by omega⟩,h2.1,⟨h2.2.1,by omega⟩,fun n hn=>?_,fun x hx=>?_,h5.1,fun x hx=>by simpa using h5.2 x hx⟩
 · have:=h3 n hn;simpa [Z24] using this
 · have:=h4 x hx;exact ⟨this.1.1.1,this.1.1.2,this.1.2,this.2⟩
def Barn.worst (b:Barn) (x:HBin):Int:=na b.rise x.hi.toNat
def Barn.least (b:Barn) (x:HBin):Int:=na b.rise x.lo.toNat
def Z0c (rise mark warm:Int):Int:=bif decide (rise=0) then 1000000 else bif decide (mark<warm) then 0 else (mark-warm) / rise
def Barn.days (b:Barn) (x:HBin) (warm:Int):Int:=Z0c (b.worst x) x.mark warm
def pad (l:List Int):List Int:=l++List.replicate (4-l.length) 0
abbrev HSt:=List Int
def Barn.state (b:Barn):HSt:=pad (b.bins.map fun x=>b.days x x.warm)
def Barn.lasts (b:Barn):HSt:=pad (b.bins.map fun x=>b.days x b.cool)
def Barn.most (b:Barn):HSt:=pad (b.bins.map fun x=>max (b.days x x.warm) (b.days x b.cool))
structure Dsk where
 n:Nat
 gangs:Int
 lasts:HSt
 most:HSt
 deriving DecidableEq
def Barn.dsk (b:Barn):Dsk:=⟨b.bins.length,b.gangs,b.lasts,b.most⟩
def ZL (n set:Nat):List Nat:=(List.range n).filter fun k=>set.testBit k
def Dsk.g (d:Dsk):Int:=min d.gangs d.n
def Dsk.may (d:Dsk) (full:Bool) (l:List Nat):Bool:=!(decide (d.g<(l.length:Int))||(full&&decide ((l.length:Int)<d.g)))
def Dsk.trs (d:Dsk) (full:Bool):List (List Nat):=((List.range (2 ^ d.n)).map (ZL d.n)).filter (d.may full)
def Dsk.up (d:Dsk) (s:HSt) (k:Nat):HSt:=s.set k (max (na s k) (na d.lasts k))
def dn (s:HSt):Nat→Option HSt
 | 0=>some s
 | k+1=>match dn s k with
   | none=>none
   | some t=>bif decide (na t k=1000000) then some t else bif decide (na t k-1<0) then none else some (t.set k (na t k-1))
def Dsk.next (d:Dsk) (s:HSt) (l:List Nat):Option HSt:=dn (l.foldl d.up s) d.n
def Z3i:List Nat→Nat→List Nat
 | [],_=>[]
 | z::zs,i=>(i%z)::Z3i zs (i / z)
def prd:List Nat→Nat
 | []=>1
 | z::zs=>z*prd zs
def inc:List Nat→List Nat→List Nat
 | z::zs,x::xs=>bif decide (x+1=z) then 0::inc zs xs else (x+1)::xs
 | _,xs=>xs
theorem Z88:∀ (zs:List Nat) (i:Nat),(∀ z∈zs,0<z)→Z3i zs (i+1)=inc zs (Z3i zs i)
 | [],i,_=>rfl
 | z::zs,i,h=>by
   have hz:=h z (by simp)
   unfold inc Z3i
   have hm:=Nat.mod_lt i hz
   by_cases hc:i%z+1=z
   · have e1:(i+1)%z=0:=by
       have:i+1=z*(i / z+1):=by have:=Nat.div_add_mod i z;rw [Nat.mul_add];omega
       rw [this,Nat.mul_mod_right]
     have e2:(i+1) / z=i / z+1:=by
       have:i+1=z*(i / z+1):=by have:=Nat.div_add_mod i z;rw [Nat.mul_add];omega
       rw [this,Nat.mul_div_cancel_left _ hz]
     rw [e1,e2,Z88 zs _ (fun y hy=>h y (by simp [hy]))]
     simp [hc]
   · have e0:i+1=z*(i / z)+(i%z+1):=by have:=Nat.div_add_mod i z;omega
     have hlt:i%z+1<z:=by omega
     have e1:(i+1)%z=i%z+1:=by
       conv=>lhs;rw [e0]
       rw [Nat.mul_add_mod,Nat.mod_eq_of_lt hlt]
     have e2:(i+1) / z=i / z:=by
       conv=>lhs;rw [e0]
       rw [Nat.mul_add_div hz,Nat.div_eq_of_lt hlt];omega
     rw [e1,e2]
     simp [hc]
theorem Z3x:∀ (zs:List Nat) (i:Nat),(Z3i zs i).length=zs.length
 | [],_=>rfl
 | _::zs,i=>by simp [Z3i,Z3x zs]
theorem Zan:∀ (zs:List Nat) (i:Nat),(∀ z∈zs,0<z)→∀ (k z:Nat),zs[k]?=some z→∃ x:Nat,(Z3i zs i)[k]?=some x∧x<z
 | [],_,_,k,z,h=>by simp at h
 | z::zs,i,h,0,z',hk=>by
   simp only [List.getElem?_cons_zero,Option.some.injEq] at hk
   subst hk
   exact ⟨i%z,rfl,Nat.mod_lt _ (h z (by simp))⟩
 | z::zs,i,h,k+1,z',hk=>by
   simpa [Z3i] using Zan zs (i / z) (fun y hy=>h y (by simp [hy])) k z' (by simpa using hk)
def Z9u:List Nat→List Nat→Nat
 | z::zs,x::xs=>x+z*Z9u zs xs
 | _,_=>0
theorem Z6m:∀ (zs xs:List Nat),xs.length=zs.length→(∀ (k z x:Nat),zs[k]?=some z→xs[k]?=some x→x<z)→Z3i zs (Z9u zs xs)=xs∧Z9u zs xs<prd zs
 | [],[],_,_=>⟨rfl,by decide⟩
 | [],_::_,h,_=>by simp at h
 | _::_,[],h,_=>by simp at h
 | z::zs,x::xs,hl,h=>by
   have hx:x<z:=h 0 z x rfl rfl
   obtain ⟨ih,ih2⟩:=Z6m zs xs (by simpa using hl) (fun k z' x' h1 h2=>h (k+1) z' x' (by simpa using h1) (by simpa using h2))
   have e1:(x+z*Z9u zs xs)%z=x:=by rw [Nat.add_mul_mod_self_left,Nat.mod_eq_of_lt hx]
   have e2:(x+z*Z9u zs xs) / z=Z9u zs xs:=by rw [Nat.add_mul_div_left _ _ (by omega),Nat.div_eq_of_lt hx];omega
   refine ⟨?_,?_⟩
   · unfold Z3i Z9u
     rw [e1,e2,ih]
   · unfold Z9u prd
     calc x+z*Z9u zs xs<z+z*Z9u zs xs:=by omega
       _=z*(Z9u zs xs+1):=by rw [Nat.mul_add];omega
       _≤z*prd zs:=Nat.mul_le_mul_left z ih2
def Dsk.zs (d:Dsk):List Nat:=(d.most.take d.n).map fun m=>bif decide (m=1000000) then 1 else m.toNat+1
def ZiZ (most:List Int) (xs:List Nat):HSt:=pad (List.zipWith (fun (m:Int) (x:Nat)=>bif decide (m=1000000) then (1000000:Int) else (x:Int)) most xs)
def Dsk.sat (d:Dsk) (i:Nat):HSt:=ZiZ (d.most.take d.n) (Z3i d.zs i)
def Dsk.nst (d:Dsk):Nat:=prd d.zs
def Dsk.sts (d:Dsk):List HSt:=(List.range d.nst).map d.sat
def Dsk.helped (d:Dsk) (A:List HSt) (s:HSt):Bool:=(d.trs true).any fun l=>match d.next s l with
 | some t=>A.contains t
 | none=>false
def Dsk.alive (d:Dsk):Nat→List HSt
 | 0=>d.sts
 | n+1=>(d.alive n).filter (d.helped (d.alive n))
def Dsk.lvl (d:Dsk):Nat→HSt→Int
 | 0,_=>1000000
 | n+1,s=>bif decide (d.lvl n s=1000000)&&!((d.alive (n+1)).contains s) then (n:Int) else d.lvl n s
structure Sml (s:HSt):Prop where
 len:s.length=4
 at_:∀ k<4,0≤na s k∧na s k≤1000000
theorem Z12 {s:List Int} {k j:Nat} {v:Int} (hk:k<s.length):na (s.set k v) j=if k=j then v else na s j:=by
 unfold na
 rw [List.getD_eq_getElem?_getD,List.getD_eq_getElem?_getD,List.getElem?_set]
 by_cases h:k=j
 · subst h;rw [if_pos rfl,if_pos rfl,if_pos hk];rfl
 · rw [if_neg h,if_neg h]
theorem Sml.set {s:HSt} (h:Sml s) {k:Nat} (hk:k<4) {v:Int} (hv:0≤v∧v≤1000000):Sml (s.set k v) where
 len:=by rw [List.length_set];exact h.len
 at_ j hj:=by rw [Z12 (by rw [h.len];exact hk)];split;exact hv;exact h.at_ j hj
theorem Dsk.up_sml {d:Dsk} (hd:Sml d.lasts) {s:HSt} (h:Sml s) {k:Nat} (hk:k<4):Sml (d.up s k):=by
 have h1:=hd.at_ k hk
 have h2:=h.at_ k hk
 exact h.set hk (by omega)
theorem Dsk.ups_sml {d:Dsk} (hd:Sml d.lasts):∀ {l:List Nat} {s:HSt},Sml s→(∀ k∈l,k<4)→Sml (l.foldl d.up s)
 | [],_,h,_=>h
 | k::l,s,h,hl=>ups_sml (s:=d.up s k) hd (d.up_sml hd h (hl k (by simp))) (fun j hj=>hl j (by simp [hj]))
theorem ZdN {s:HSt} (h:Sml s):∀ {k:Nat} {t:HSt},k≤4→dn s k=some t→Sml t
 | 0,t,_,e=>by simp only [dn,Option.some.injEq] at e;exact e▸h
 | k+1,t,hk,e=>by
   unfold dn at e
   split at e
   · cases e
   · rename_i u hu
     have hm:=ZdN h (by omega) hu
     have h1:=hm.at_ k (by omega)
     by_cases h2:na u k=1000000
     · rw [decide_eq_true h2,cond_true] at e;cases e;exact hm
     · rw [decide_eq_false h2,cond_false] at e
       by_cases h3:na u k-1<0
       · rw [decide_eq_true h3] at e;cases e
       · rw [decide_eq_false h3,cond_false] at e;cases e
         exact hm.set (by omega) (by omega)
theorem Zf3 {s:HSt} {n:Nat}:∀ {k:Nat},k≤n→dn s k=none→dn s n=none:=by
 intro k hk h
 induction n with
 | zero => obtain rfl : k = 0 := by omega
           exact h
 | succ n ih =>
   rcases Nat.lt_or_ge n k with h1 | h1
   · obtain rfl:k=n+1:=by omega
     exact h
   · unfold dn;rw [ih h1]
theorem Z75 {n set k:Nat} (h:k∈ZL n set):k<n:=by
 unfold ZL at h
 exact List.mem_range.1 (List.mem_filter.1 h).1
theorem Z0R (n set:Nat):(ZL n set).length≤n:=by
 unfold ZL
 exact Nat.le_trans (List.length_filter_le _ _) (by simp)
theorem Z3M (n set:Nat):ZL (n+1) set=ZL n set++(bif set.testBit n then [n] else []):=by
 unfold ZL
 rw [List.range_succ,List.filter_append]
 cases h:set.testBit n<;>simp [h]
theorem Dsk.trs_lt {d:Dsk} {full:Bool} {l:List Nat} (h:l∈d.trs full):∀ k∈l,k<d.n:=by
 intro k hk
 unfold Dsk.trs at h
 obtain ⟨h1,_⟩:=List.mem_filter.1 h
 obtain ⟨i,_,rfl⟩:=List.mem_map.1 h1
 exact Z75 hk
theorem Z9r {s t:List Int} (hs:s.length=4) (ht:t.length=4) (h:∀ k<4,na s k=na t k):s=t:=by
 refine List.ext_getElem? fun k=>?_
 rcases Nat.lt_or_ge k 4 with h1 | h1
 · have:=h k h1
   unfold na at this
   rw [List.getD_eq_getElem?_getD,List.getD_eq_getElem?_getD,List.getElem?_eq_getElem (by omega),List.getElem?_eq_getElem (by omega)] at this
   rw [List.getElem?_eq_getElem (by omega),List.getElem?_eq_getElem (by omega)]
   simpa using this
 · rw [List.getElem?_eq_none (by omega),List.getElem?_eq_none (by omega)]
structure Dsk.ok (d:Dsk):Prop where
 n:1≤d.n∧d.n≤4
 gangs:0≤d.gangs∧d.gangs≤4
 lasts:Sml d.lasts
 most:Sml d.most
 le:∀ k<d.n,na d.lasts k≤na d.most k
 ever:∀ k<d.n,(na d.lasts k=1000000∨na d.lasts k≤10)∧(na d.most k=1000000∨na d.most k≤10)∧(na d.lasts k=1000000↔na d.most k=1000000)
theorem Dsk.zs_len {d:Dsk} (hd:d.ok):d.zs.length=d.n:=by
 unfold Dsk.zs;rw [List.length_map,List.length_take,hd.most.len];have:=hd.n;omega
theorem Dsk.zs_get {d:Dsk} (hd:d.ok) {k:Nat} (hk:k<d.n):d.zs[k]?=some (bif decide (na d.most k=1000000) then 1 else (na d.most k).toNat+1):=by
 unfold Dsk.zs
 have h4:=hd.most.len
 have hn:=hd.n
 rw [List.getElem?_map,List.getElem?_take,if_pos hk]
 unfold na
 rw [List.getD_eq_getElem?_getD,List.getElem?_eq_getElem (by omega)]
 rfl
theorem Dsk.zs_pos {d:Dsk}:∀ z∈d.zs,0<z:=by
 intro z hz
 unfold Dsk.zs at hz
 obtain ⟨m,_,rfl⟩:=List.mem_map.1 hz
 cases h:decide (m=1000000)<;>simp
theorem Dsk.zw_len {d:Dsk} (hd:d.ok) {xs:List Nat} (hx:xs.length=d.n) (f:Int→Nat→Int):(List.zipWith f (d.most.take d.n) xs).length=d.n:=by
 rw [List.length_zipWith,List.length_take,hd.most.len];have:=hd.n;omega
theorem Z2J {l:List Int} (h:l.length≤4):(pad l).length=4:=by simp [pad];omega
theorem Dsk.toSt_at {d:Dsk} (hd:d.ok) {xs:List Nat} (hx:xs.length=d.n) {k:Nat} (hk:k<4):na (ZiZ (d.most.take d.n) xs) k=if k<d.n then (bif decide (na d.most k=1000000) then 1000000 else ((xs.getD k 0:Nat):Int)) else 0:=by
 have hl:=d.zw_len hd hx (fun (m:Int) (x:Nat)=>bif decide (m=1000000) then (1000000:Int) else (x:Int))
 have hn:=hd.n
 have h4:=hd.most.len
 unfold ZiZ pad
 by_cases h:k<d.n
 · rw [if_pos h]
   unfold na
   rw [List.getD_eq_getElem?_getD,List.getElem?_append_left (by omega),List.getElem?_zipWith,List.getElem?_take,if_pos h,List.getD_eq_getElem?_getD,List.getD_eq_getElem?_getD,List.getElem?_eq_getElem (by omega),List.getElem?_eq_getElem (by omega)]
   rfl
 · rw [if_neg h]
   unfold na
   rw [List.getD_eq_getElem?_getD,List.getElem?_append_right (by omega),List.getElem?_replicate]
   split<;>rfl
theorem Dsk.sat_len {d:Dsk} (hd:d.ok) (i:Nat):(d.sat i).length=4:=by
 unfold Dsk.sat ZiZ
 exact Z2J (by rw [d.zw_len hd (by rw [Z3x,d.zs_len hd])];exact hd.n.2)
theorem Dsk.sat_at {d:Dsk} (hd:d.ok) (i:Nat) {k:Nat} (hk:k<4):na (d.sat i) k=if k<d.n then (bif decide (na d.most k=1000000) then 1000000 else (((Z3i d.zs i).getD k 0:Nat):Int)) else 0 :=
 d.toSt_at hd (by rw [Z3x,d.zs_len hd]) hk
theorem Dsk.dig_lt {d:Dsk} (hd:d.ok) (i:Nat) {k:Nat} (hk:k<d.n):(Z3i d.zs i).getD k 0<(bif decide (na d.most k=1000000) then 1 else (na d.most k).toNat+1):=by
 obtain ⟨x,hx,hlt⟩:=Zan d.zs i d.zs_pos k _ (d.zs_get hd hk)
 rw [List.getD_eq_getElem?_getD,hx];exact hlt
theorem Dsk.sat_sml {d:Dsk} (hd:d.ok) (i:Nat):Sml (d.sat i) where
 len:=d.sat_len hd i
 at_ k hk:=by
   rw [d.sat_at hd i hk]
   split
   · rename_i h
     have:=d.dig_lt hd i h
     have h1:=hd.most.at_ k hk
     cases h2:decide (na d.most k=1000000) with
     | true=>simp
     | false=>rw [h2,cond_false] at this;rw [cond_false];omega
   · simp
theorem Dsk.sat_top {d:Dsk} (hd:d.ok) (i:Nat) {k:Nat} (hk:k<d.n):na (d.sat i) k=na d.most k↔(Z3i d.zs i).getD k 0+1=(bif decide (na d.most k=1000000) then 1 else (na d.most k).toNat+1):=by
 have hn:=hd.n
 rw [d.sat_at hd i (by omega),if_pos hk]
 have:=d.dig_lt hd i hk
 have h1:=hd.most.at_ k (by omega)
 cases h2:decide (na d.most k=1000000) with
 | true =>
   rw [h2,cond_true] at this
   rw [cond_true,cond_true]
   have:=of_decide_eq_true h2
   constructor<;>intro h<;>omega
 | false =>
   rw [cond_false,cond_false]
   constructor<;>intro h<;>omega
theorem Z6y:∀ (zs xs:List Nat) (a:Nat),xs.length=zs.length→(∀ j<a,xs.getD j 0+1=zs.getD j 0)→a<xs.length→xs.getD a 0+1≠zs.getD a 0 →
   ∀ k,(inc zs xs).getD k 0=if k<a then 0 else if k=a then xs.getD a 0+1 else xs.getD k 0
 | [],[],a,_,_,h,_,k=>by simp at h
 | [],_::_,_,hl,_,_,_,_=>by simp at hl
 | _::_,[],_,hl,_,_,_,_=>by simp at hl
 | z::zs,x::xs,0,hl,h,ha,hne,k=>by
   have h0:x+1≠z:=by simpa using hne
   unfold inc
   rw [decide_eq_false h0,cond_false]
   cases k with
   | zero=>simp
   | succ k=>simp
 | z::zs,x::xs,a+1,hl,h,ha,hne,k=>by
   have h0:x+1=z:=by have:=h 0 (by omega);simpa using this
   unfold inc
   rw [decide_eq_true h0,cond_true]
   cases k with
   | zero=>simp
   | succ k =>
     have ih:=Z6y zs xs a (by simpa using hl) (fun j hj=>by have:=h (j+1) (by omega);simpa using this) (by simpa using ha) (by simpa using hne) k
     simp only [List.getD_cons_succ] at ih ⊢
     rw [ih]
     by_cases h1:k<a
     · simp [h1]
     · by_cases h2:k=a
       · simp [h2]
       · simp [h1,h2]
theorem Z8a:∀ (zs:List Nat) (i:Nat),i<prd zs→(∀ z∈zs,0<z)→(∀ j<zs.length,(Z3i zs i).getD j 0+1=zs.getD j 0)→i+1=prd zs
 | [],i,h,_,_=>by simp only [prd] at h ⊢;omega
 | z::zs,i,h,hp,ht=>by
   have hz:=hp z (by simp)
   have h0:i%z+1=z:=by have:=ht 0 (by simp);simpa [Z3i] using this
   have hq:i / z<prd zs:=Nat.div_lt_of_lt_mul (by simpa [prd] using h)
   have ih:=Z8a zs (i / z) hq (fun y hy=>hp y (by simp [hy])) (fun j hj=>by have:=ht (j+1) (by simp;omega);simpa [Z3i] using this)
   have:=Nat.div_add_mod i z
   unfold prd
   rw [← ih,Nat.mul_add]
   omega
def rsz (s:HSt) (a:Nat):HSt:=(List.range 4).map fun j=>bif decide (j<a)&&!decide (na s j=1000000) then 0 else na s j
theorem Z1E {s:HSt} {a k:Nat} (hk:k<4):na (rsz s a) k=bif decide (k<a)&&!decide (na s k=1000000) then 0 else na s k:=by
 unfold na rsz
 rw [List.getD_eq_getElem?_getD,List.getElem?_map,List.getElem?_range hk]
 rfl
theorem ZW (s:HSt) (a:Nat):(rsz s a).length=4:=by simp [rsz]
theorem Zd9 {s:HSt} (hs:s.length=4):rsz s 0=s:=Z9r (ZW s 0) hs fun k hk=>by rw [Z1E hk];simp
theorem Zd8 {s:HSt} {a:Nat} (h:na s a=1000000):rsz s (a+1)=rsz s a:=Z9r (ZW s _) (ZW s _) fun k hk=>by
 rw [Z1E hk,Z1E hk]
 by_cases h1:k=a
 · subst h1;simp [h]
 · have:decide (k<a+1)=decide (k<a):=decide_eq_decide.2 (by omega)
   rw [this]
theorem ZfH {s:HSt} {a:Nat} (ha:a<4) (h:na s a≠1000000):(rsz s a).set a 0=rsz s (a+1):=Z9r (by rw [List.length_set];exact ZW s _) (ZW s _) fun k hk=>by
 rw [Z12 (by rw [ZW];exact ha),Z1E hk,Z1E hk]
 by_cases h1:a=k
 · subst h1;simp [h]
 · rw [if_neg h1]
   have:decide (k<a+1)=decide (k<a):=decide_eq_decide.2 (by omega)
   rw [this]
theorem Z60 {d:Dsk} (hd:d.ok) {k:Nat} (hk:k<d.n):d.zs.getD k 0=(bif decide (na d.most k=1000000) then 1 else (na d.most k).toNat+1):=by
 rw [List.getD_eq_getElem?_getD,d.zs_get hd hk];rfl
theorem Dsk.sat_next {d:Dsk} (hd:d.ok) {i a:Nat} (ha:a<d.n) (h:∀ j<a,na (d.sat i) j=na d.most j) (hne:na (d.sat i) a≠na d.most a) :
   (rsz (d.sat i) a).set a (na (d.sat i) a+1)=d.sat (i+1):=by
 have hn:=hd.n
 refine Z9r (by rw [List.length_set];exact ZW _ _) (d.sat_len hd _) fun k hk=>?_
 have hdl:(Z3i d.zs i).length=d.zs.length:=Z3x _ _
 have hz:=d.zs_len hd
 have hi:=Z6y d.zs (Z3i d.zs i) a hdl (fun j hj=>by rw [Z60 hd (by omega)];exact (d.sat_top hd i (by omega)).1 (h j hj)) (by omega) (fun e=>hne ((d.sat_top hd i ha).2 (by rw [← Z60 hd ha];exact e))) k
 rw [← Z88 _ _ d.zs_pos] at hi
 have hae:na d.most a≠1000000:=fun e=>by
   apply hne
   rw [d.sat_at hd i (by omega),if_pos ha,decide_eq_true e,cond_true,e]
 rw [Z12 (by rw [ZW];omega),Z1E hk,d.sat_at hd (i+1) hk]
 by_cases h1:a=k
 · subst h1
   rw [if_pos rfl,if_pos ha,decide_eq_false hae,cond_false,hi,if_neg (by omega),if_pos rfl,d.sat_at hd i hk,if_pos ha,decide_eq_false hae,cond_false]
   push_cast
   rfl
 · rw [if_neg h1]
   by_cases h2:k<a
   · rw [decide_eq_true h2,Bool.true_and,if_pos (by omega),hi,if_pos h2,d.sat_at hd i hk,if_pos (show k<d.n by omega)]
     by_cases h3:na d.most k=1000000
     · rw [decide_eq_true h3];rfl
     · have h4:=d.dig_lt hd i (show k<d.n by omega)
       have h5:=hd.most.at_ k hk
       have h6:=hd.ever k (by omega)
       rw [decide_eq_false h3] at h4 ⊢
       simp only [cond_false] at h4 ⊢
       rw [decide_eq_false (by omega)]
       rfl
   · rw [decide_eq_false h2,Bool.false_and,cond_false,d.sat_at hd i hk,hi,if_neg h2,if_neg (show ¬ k=a from fun e=>h1 e.symm)]
theorem Dsk.sat_last {d:Dsk} (hd:d.ok) {i:Nat} (hi:i<d.nst) (h:∀ j<d.n,na (d.sat i) j=na d.most j):i+1=d.nst :=
 Z8a _ _ hi d.zs_pos fun j hj=>by
   have hj':j<d.n:=by rw [d.zs_len hd] at hj;exact hj
   rw [Z60 hd hj'];exact (d.sat_top hd i hj').1 (h j hj')
theorem Z89:∀ (zs:List Nat) (i:Nat),i+1=prd zs→(∀ z∈zs,0<z)→∀ j<zs.length,(Z3i zs i).getD j 0+1=zs.getD j 0
 | [],_,_,_,j,hj=>by simp at hj
 | z::zs,i,h,hp,j,hj=>by
   have hz:=hp z (by simp)
   have hpp:0<prd zs:=by
     rcases Nat.eq_zero_or_pos (prd zs) with h0 | h0
     · rw [show prd (z::zs)=z*prd zs from rfl,h0] at h;omega
     · exact h0
   obtain ⟨q,hq⟩:∃ q,prd zs=q+1:=⟨prd zs-1,by omega⟩
   have e:i=z*q+(z-1):=by
     rw [show prd (z::zs)=z*prd zs from rfl,hq,Nat.mul_add] at h;omega
   have e1:i%z=z-1:=by rw [e,Nat.mul_add_mod,Nat.mod_eq_of_lt (by omega)]
   have e2:i / z=q:=by rw [e,Nat.mul_add_div hz,Nat.div_eq_of_lt (by omega)];omega
   cases j with
   | zero=>simp [Z3i,e1];omega
   | succ j =>
     have:=Z89 zs q (by omega) (fun y hy=>hp y (by simp [hy])) j (by simpa using hj)
     simpa [Z3i,e2] using this
theorem Dsk.sat_max {d:Dsk} (hd:d.ok) {i k:Nat} (h:i+1=d.nst) (hk:k<d.n):na (d.sat i) k=na d.most k :=
 (d.sat_top hd i hk).2 (by rw [← Z60 hd hk];exact Z89 _ _ h d.zs_pos k (by rw [d.zs_len hd];exact hk))
theorem Dsk.sts_get {d:Dsk} {i:Nat} (hi:i<d.nst):d.sts[i]?=some (d.sat i):=by unfold Dsk.sts;rw [List.getElem?_map,List.getElem?_range hi];rfl
theorem Dsk.sts_len (d:Dsk):d.sts.length=d.nst:=by simp [Dsk.sts]
theorem Zea:∀ (zs:List Nat) (m:Nat),0<m→(∀ z∈zs,z≤m)→prd zs≤m ^ zs.length
 | [],_,_,_=>by simp [prd]
 | z::zs,m,hm,h=>by
   have h1:=h z (by simp)
   have ih:=Zea zs m hm (fun y hy=>h y (by simp [hy]))
   unfold prd
   rw [List.length_cons,Nat.pow_succ,Nat.mul_comm (m ^ _)]
   exact Nat.mul_le_mul h1 ih
theorem Zbj:∀ (zs:List Nat),(∀ z∈zs,0<z)→0<prd zs
 | [],_=>by simp [prd]
 | z::zs,h=>by unfold prd;exact Nat.mul_pos (h z (by simp)) (Zbj zs fun y hy=>h y (by simp [hy]))
theorem Dsk.nst_le {d:Dsk} (hd:d.ok):0<d.nst∧d.nst≤14641:=by
 refine ⟨Zbj _ d.zs_pos,?_⟩
 have h1:=Zea d.zs 11 (by decide) (fun z hz=>by
   unfold Dsk.zs at hz
   obtain ⟨m,hm,rfl⟩:=List.mem_map.1 hz
   obtain ⟨k,hk⟩:=List.getElem?_of_mem hm
   rw [List.getElem?_take] at hk
   split at hk
   · rename_i hkn
     have h2:=(hd.ever k hkn).2.1
     have e:na d.most k=m:=by unfold na;rw [List.getD_eq_getElem?_getD,hk];rfl
     rw [e] at h2
     cases h3:decide (m=1000000) with
     | true=>simp
     | false=>rw [cond_false];have:=of_decide_eq_false h3;omega
   · cases hk)
 rw [d.zs_len hd] at h1
 have hn:=hd.n
 refine Nat.le_trans h1 (Nat.le_trans (Nat.pow_le_pow_right (by decide) hn.2) (by decide))
def zst (d:Dsk) (k:Nat):HSt:=(List.range 4).map fun j=>bif decide (j<k)&&decide (na d.most j=1000000) then 1000000 else 0
theorem Z70 {d:Dsk} {k j:Nat} (hj:j<4):na (zst d k) j=bif decide (j<k)&&decide (na d.most j=1000000) then 1000000 else 0:=by
 unfold na zst
 rw [List.getD_eq_getElem?_getD,List.getElem?_map,List.getElem?_range hj]
 rfl
theorem Z1O (d:Dsk) (k:Nat):(zst d k).length=4:=by simp [zst]
theorem Zg5 {d:Dsk} {k:Nat} (hk:k<4) (h:na d.most k=1000000):(zst d k).set k 1000000=zst d (k+1):=Z9r (by rw [List.length_set];exact Z1O _ _) (Z1O _ _) fun j hj=>by
 rw [Z12 (by rw [Z1O];exact hk),Z70 hj,Z70 hj]
 by_cases h1:k=j
 · subst h1;simp [h]
 · rw [if_neg h1,show decide (j<k+1)=decide (j<k) from decide_eq_decide.2 (by omega)]
theorem Zem {d:Dsk} {k:Nat} (h:na d.most k≠1000000):zst d k=zst d (k+1):=Z9r (Z1O _ _) (Z1O _ _) fun j hj=>by
 rw [Z70 hj,Z70 hj]
 by_cases h1:k=j
 · subst h1;simp [h]
 · rw [show decide (j<k+1)=decide (j<k) from decide_eq_decide.2 (by omega)]
theorem Z6n:∀ (zs:List Nat) (k:Nat),(Z3i zs 0).getD k 0=0
 | [],k=>by simp [Z3i]
 | z::zs,0=>by simp [Z3i]
 | z::zs,k+1=>by simpa [Z3i] using Z6n zs k
theorem Zg4 {d:Dsk} (hd:d.ok):zst d d.n=d.sat 0:=Z9r (Z1O _ _) (d.sat_len hd _) fun j hj=>by
 rw [Z70 hj,d.sat_at hd 0 hj,Z6n]
 by_cases h:j<d.n
 · rw [if_pos h,decide_eq_true h,Bool.true_and];cases decide (na d.most j=1000000)<;>rfl
 · rw [if_neg h,decide_eq_false h,Bool.false_and];rfl
theorem Z2t {α:Type} {L:List α} {p:α→Bool} {i:Nat} {x:α} (h:L[i]?=some x):(L.take (i+1)).filter p=(L.take i).filter p++(bif p x then [x] else []):=by
 rw [List.take_add_one,h,Option.toList_some,List.filter_append]
 cases hp:p x<;>simp [hp]
theorem Z8d {α:Type}:∀ {L:List α} {p:α→Bool} {i:Nat} {x:α},L[i]?=some x→p x=true→(L.filter p)[((L.take i).filter p).length]?=some x
 | [],_,_,_,h,_=>by simp at h
 | y::L,p,0,x,h,hp=>by
   simp only [List.getElem?_cons_zero,Option.some.injEq] at h
   subst h
   simp [List.filter_cons,hp]
 | y::L,p,i+1,x,h,hp=>by
   have ih:=Z8d (L:=L) (p:=p) (i:=i) (by simpa using h) hp
   rw [List.take_succ_cons]
   cases hy:p y
   · simpa [List.filter_cons,hy] using ih
   · simpa [List.filter_cons,hy] using ih
def Dsk.cnt (d:Dsk) (full:Bool) (i:Nat):Nat:=((((List.range (2 ^ d.n)).map (ZL d.n)).take i).filter (d.may full)).length
theorem Dsk.cnt_zero (d:Dsk) (full:Bool):d.cnt full 0=0:=by simp [Dsk.cnt]
theorem Dsk.cnt_end (d:Dsk) (full:Bool):d.cnt full (2 ^ d.n)=(d.trs full).length:=by
 unfold Dsk.cnt Dsk.trs;rw [List.take_of_length_le (by simp)]
theorem Dsk.cnt_get {d:Dsk} {full:Bool} {i:Nat} (hi:i<2 ^ d.n):((List.range (2 ^ d.n)).map (ZL d.n))[i]?=some (ZL d.n i):=by
 rw [List.getElem?_map,List.getElem?_range hi];rfl
theorem Dsk.cnt_yes {d:Dsk} {full:Bool} {i:Nat} (hi:i<2 ^ d.n) (h:d.may full (ZL d.n i)=true):d.cnt full (i+1)=d.cnt full i+1∧(d.trs full)[d.cnt full i]?=some (ZL d.n i):=by
 have hg:=d.cnt_get (full:=full) hi
 refine ⟨?_,Z8d hg h⟩
 unfold Dsk.cnt
 rw [Z2t hg,h,List.length_append];rfl
theorem Dsk.cnt_no {d:Dsk} {full:Bool} {i:Nat} (hi:i<2 ^ d.n) (h:d.may full (ZL d.n i)=false):d.cnt full (i+1)=d.cnt full i:=by
 have hg:=d.cnt_get (full:=full) hi
 unfold Dsk.cnt
 rw [Z2t hg,h,List.length_append];rfl
theorem Dsk.up_at {d:Dsk} {s:HSt} (hs:s.length=4) {j k:Nat} (hj:j<4):na (d.up s j) k=if j=k then max (na s k) (na d.lasts k) else na s k:=by
 unfold Dsk.up
 rw [Z12 (by omega)]
 by_cases h:j=k
 · subst h;simp
 · rw [if_neg h,if_neg h]
theorem Dsk.up_len {d:Dsk} (s:HSt) (j:Nat):(d.up s j).length=s.length:=by unfold Dsk.up;rw [List.length_set]
theorem Dsk.ups_len {d:Dsk}:∀ (l:List Nat) (s:HSt),(l.foldl d.up s).length=s.length
 | [],_=>rfl
 | j::l,s=>by rw [List.foldl_cons,ups_len l,d.up_len]
theorem Dsk.ups_at {d:Dsk}:∀ (l:List Nat) (s:HSt),s.length=4→(∀ j∈l,j<4)→∀ k,na (l.foldl d.up s) k=if k∈l then max (na s k) (na d.lasts k) else na s k
 | [],s,_,_,k=>by simp
 | j::l,s,hs,hl,k=>by
   rw [List.foldl_cons,ups_at l _ (by rw [d.up_len];exact hs) (fun i hi=>hl i (by simp [hi])),d.up_at hs (hl j (by simp))]
   by_cases h1:j=k
   · subst h1
     by_cases h2:j∈l
     · simp only [h2,if_true,List.mem_cons,true_or];omega
     · simp [h2]
   · have h1':¬ k=j:=fun e=>h1 e.symm
     simp [h1,h1']
theorem ZdM {s t:HSt}:∀ {m:Nat},dn s m=some t→t.length=s.length:=by
 intro m
 induction m generalizing t with
 | zero=>intro e;simp only [dn,Option.some.injEq] at e;rw [e]
 | succ m ih =>
   intro e
   unfold dn at e
   split at e
   · cases e
   · rename_i u hu
     have:=ih hu
     cases h1:decide (na u m=1000000) with
     | true=>rw [h1,cond_true] at e;cases e;exact this
     | false =>
       rw [h1,cond_false] at e
       cases h2:decide (na u m-1<0) with
       | true=>rw [h2,cond_true] at e;cases e
       | false=>rw [h2,cond_false] at e;cases e;rw [List.length_set];exact this
theorem ZhQ {s t:HSt} (hs:s.length=4):∀ {m:Nat},m≤4→dn s m=some t→∀ k,(k<m→na s k=1000000∨1≤na s k)∧na t k=if k<m∧na s k≠1000000 then na s k-1 else na s k:=by
 intro m
 induction m generalizing t with
 | zero=>intro _ e k;simp only [dn,Option.some.injEq] at e;subst e;simp
 | succ m ih =>
   intro hm e k
   unfold dn at e
   split at e
   · cases e
   · rename_i u hu
     obtain ⟨i1,i2⟩:=ih (by omega) hu k
     obtain ⟨_,j2⟩:=ih (by omega) hu m
     have hul:=ZdM hu
     rw [if_neg (by omega)] at j2
     by_cases h1:na u m=1000000
     · rw [decide_eq_true h1,cond_true] at e;cases e
       by_cases hk:k=m
       · subst hk
         rw [j2] at h1
         refine ⟨fun _=>.inl h1,?_⟩
         rw [i2,if_neg (by omega),if_neg (by omega)]
       · refine ⟨fun h=>i1 (by omega),?_⟩
         rw [i2]
         by_cases h2:k<m
         · simp [h2,Nat.lt_succ_of_lt h2]
         · rw [if_neg (by omega),if_neg (by omega)]
     · rw [decide_eq_false h1,cond_false] at e
       by_cases h3:na u m-1<0
       · rw [decide_eq_true h3] at e;cases e
       · rw [decide_eq_false h3,cond_false] at e;cases e
         rw [Z12 (by omega)]
         by_cases hk:m=k
         · subst hk
           rw [if_pos rfl,j2]
           rw [j2] at h1 h3
           refine ⟨fun _=>.inr (by omega),?_⟩
           rw [if_pos ⟨by omega,h1⟩]
         · rw [if_neg hk]
           refine ⟨fun h=>i1 (by omega),?_⟩
           rw [i2]
           by_cases h2:k<m
           · simp [h2,Nat.lt_succ_of_lt h2]
           · rw [if_neg (by omega),if_neg (by omega)]
theorem Zf4 {s:HSt} (hs:s.length=4):∀ {m:Nat},m≤4→(∀ k<m,na s k=1000000∨1≤na s k)→∃ t,dn s m=some t:=by
 intro m
 induction m with
 | zero=>intro _ _;exact ⟨s,rfl⟩
 | succ m ih =>
   intro hm h
   obtain ⟨u,hu⟩:=ih (by omega) (fun k hk=>h k (by omega))
   obtain ⟨_,j2⟩:=ZhQ hs (by omega) hu m
   rw [if_neg (by omega)] at j2
   have hm1:=h m (by omega)
   unfold dn
   rw [hu]
   dsimp only
   rw [j2]
   by_cases h1:na s m=1000000
   · rw [decide_eq_true h1];exact ⟨_,rfl⟩
   · rw [decide_eq_false h1,cond_false,decide_eq_false (by omega)];exact ⟨_,rfl⟩
def Dsk.mid (d:Dsk) (s:HSt) (l:List Nat) (k:Nat):Int:=if k∈l then max (na s k) (na d.lasts k) else na s k
theorem Dsk.next_at {d:Dsk} (hn:d.n≤4) {s t:HSt} (hs:s.length=4) {l:List Nat} (hl:∀ k∈l,k<d.n) (e:d.next s l=some t) :
   t.length=4∧∀ k,(k<d.n→d.mid s l k=1000000∨1≤d.mid s l k)∧na t k=if k<d.n∧d.mid s l k≠1000000 then d.mid s l k-1 else d.mid s l k:=by
 have h4:∀ j∈l,j<4:=fun j hj=>by have:=hl j hj;omega
 have hu:=d.ups_len l s
 refine ⟨by rw [ZdM e,hu,hs],fun k=>?_⟩
 have:=ZhQ (by rw [hu,hs]) hn e k
 rw [d.ups_at l s hs h4 k] at this
 exact this
theorem Dsk.next_some {d:Dsk} (hn:d.n≤4) {s:HSt} (hs:s.length=4) {l:List Nat} (hl:∀ k∈l,k<d.n) (h:∀ k<d.n,d.mid s l k=1000000∨1≤d.mid s l k):∃ t,d.next s l=some t:=by
 have h4:∀ j∈l,j<4:=fun j hj=>by have:=hl j hj;omega
 refine Zf4 (by rw [d.ups_len,hs]) hn fun k hk=>?_
 rw [d.ups_at l s hs h4 k]
 exact h k hk
structure Dsk.inS (d:Dsk) (s:HSt):Prop where
 len:s.length=4
 at_:∀ k<d.n,(na d.most k=1000000∧na s k=1000000)∨(na d.most k≠1000000∧0≤na s k∧na s k≤na d.most k)
 out:∀ k<4,d.n≤k→na s k=0
theorem Dsk.mem_sts {d:Dsk} (hd:d.ok) (s:HSt):s∈d.sts↔d.inS s:=by
 have hn:=hd.n
 constructor
 · intro h
   obtain ⟨i,_,rfl⟩:=List.mem_map.1 h
   refine ⟨d.sat_len hd i,fun k hk=>?_,fun k hk hk'=>?_⟩
   · rw [d.sat_at hd i (by omega),if_pos hk]
     have h1:=d.dig_lt hd i hk
     have h2:=hd.most.at_ k (by omega)
     by_cases h3:na d.most k=1000000
     · rw [decide_eq_true h3];exact .inl ⟨h3,rfl⟩
     · rw [decide_eq_false h3] at h1 ⊢
       simp only [cond_false] at h1 ⊢
       exact .inr ⟨h3,by omega,by omega⟩
   · rw [d.sat_at hd i hk,if_neg (by omega)]
 · intro h
   have hz:=d.zs_len hd
   let xs:List Nat:=(List.range d.n).map fun k=>if na d.most k=1000000 then 0 else (na s k).toNat
   have hxl:xs.length=d.n:=by simp [xs]
   have hxg:∀ k<d.n,xs.getD k 0=if na d.most k=1000000 then 0 else (na s k).toNat:=fun k hk=>by
     simp only [xs,List.getD_eq_getElem?_getD,List.getElem?_map,List.getElem?_range hk,Option.map_some,Option.getD_some]
   obtain ⟨h1,h2⟩:=Z6m d.zs xs (by omega) (fun k z x hk hx=>by
     have hkn:k<d.n:=by rw [← hz];exact (List.getElem?_eq_some_iff.1 hk).1
     rw [d.zs_get hd hkn] at hk
     cases hk
     have hx2:=hxg k hkn
     rw [List.getD_eq_getElem?_getD,hx,Option.getD_some] at hx2
     rw [hx2]
     rcases h.at_ k hkn with ⟨h3,h4⟩ | ⟨h3,h4⟩
     · rw [if_pos h3,decide_eq_true h3];simp
     · rw [if_neg h3,decide_eq_false h3,cond_false];omega)
   refine List.mem_map.2 ⟨Z9u d.zs xs,List.mem_range.2 h2,?_⟩
   refine Z9r (d.sat_len hd _) h.len fun k hk=>?_
   rw [d.sat_at hd _ hk,h1]
   by_cases hkn:k<d.n
   · rw [if_pos hkn,hxg k hkn]
     rcases h.at_ k hkn with ⟨h3,h4⟩ | ⟨h3,h4⟩
     · rw [decide_eq_true h3,cond_true,h4]
     · rw [decide_eq_false h3,cond_false,if_neg h3];omega
   · rw [if_neg hkn,h.out k hk (by omega)]
theorem Dsk.inS_sml {d:Dsk} (hd:d.ok) {s:HSt} (h:d.inS s):Sml s where
 len:=h.len
 at_ k hk:=by
   rcases Nat.lt_or_ge k d.n with h1 | h1
   · have:=h.at_ k h1
     have h2:=hd.most.at_ k hk
     omega
   · rw [h.out k hk h1];exact ⟨by decide,by decide⟩
theorem Dsk.inS_mid {d:Dsk} (hd:d.ok) {s:HSt} (h:d.inS s) (l:List Nat) {k:Nat} (hk:k<d.n):(na d.most k=1000000∧d.mid s l k=1000000)∨(na d.most k≠1000000∧0≤d.mid s l k∧d.mid s l k≤na d.most k):=by
 have h1:=h.at_ k hk
 have h2:=hd.le k hk
 have h3:=(hd.ever k hk).2.2
 have h4:=hd.most.at_ k (by have:=hd.n;omega)
 have h5:=hd.lasts.at_ k (by have:=hd.n;omega)
 unfold Dsk.mid
 by_cases h6:k∈l
 · rw [if_pos h6];omega
 · rw [if_neg h6];exact h1
theorem Dsk.next_inS {d:Dsk} (hd:d.ok) {s t:HSt} (h:d.inS s) {l:List Nat} (hl:∀ k∈l,k<d.n) (e:d.next s l=some t):d.inS t:=by
 obtain ⟨h1,h2⟩:=d.next_at hd.n.2 h.len hl e
 refine ⟨h1,fun k hk=>?_,fun k hk hk'=>?_⟩
 · obtain ⟨h3,h4⟩:=h2 k
   have h3:=h3 hk
   rcases d.inS_mid hd h l hk with ⟨h5,h6⟩ | ⟨h5,h6,h7⟩
   · rw [if_neg (by omega)] at h4;exact .inl ⟨h5,by omega⟩
   · have h8:=(hd.ever k hk).2.1
     rw [if_pos ⟨hk,by omega⟩] at h4
     exact .inr ⟨h5,by omega,by omega⟩
 · obtain ⟨_,h4⟩:=h2 k
   rw [if_neg (by omega)] at h4
   rw [h4]
   unfold Dsk.mid
   rw [if_neg (fun h=>by have:=hl k h;omega)]
   exact h.out k hk hk'
theorem Dsk.helped_iff {d:Dsk} {A:List HSt} {s:HSt}:d.helped A s=true↔∃ l∈d.trs true,∃ t,d.next s l=some t∧t∈A:=by
 unfold Dsk.helped
 rw [List.any_eq_true]
 constructor
 · rintro ⟨l,hl,h⟩
   refine ⟨l,hl,?_⟩
   cases hn:d.next s l with
   | none=>rw [hn] at h;cases h
   | some t=>rw [hn] at h;exact ⟨t,rfl,by simpa using h⟩
 · rintro ⟨l,hl,t,hn,ht⟩
   refine ⟨l,hl,?_⟩
   rw [hn];simpa using ht
theorem Dsk.alive_succ {d:Dsk} {n:Nat} {s:HSt}:s∈d.alive (n+1)↔s∈d.alive n∧d.helped (d.alive n) s=true:=List.mem_filter
theorem Dsk.alive_sts {d:Dsk}:∀ {n:Nat} {s:HSt},s∈d.alive n→s∈d.sts
 | 0,_,h=>h
 | _+1,_,h=>alive_sts (d.alive_succ.1 h).1
theorem Dsk.alive_le {d:Dsk} {s:HSt} {n:Nat}:∀ {m:Nat},n≤m→s∈d.alive m→s∈d.alive n
 | 0, h, hs => by obtain rfl : n = 0 := by omega
                  exact hs
 | m+1,h,hs=>by
   rcases Nat.lt_or_ge n (m+1) with h1 | h1
   · exact alive_le (by omega) (d.alive_succ.1 hs).1
   · obtain rfl:n=m+1:=by omega
     exact hs
theorem Dsk.alive_fix {d:Dsk} {n:Nat} (h:d.alive (n+1)=d.alive n):∀ m,d.alive (n+m)=d.alive n
 | 0=>rfl
 | m+1=>by
   have ih:=alive_fix h m
   show (d.alive (n+m)).filter (d.helped (d.alive (n+m)))=d.alive n
   rw [ih];exact h
theorem Dsk.lvl_spec {d:Dsk} {s:HSt} (hs:s∈d.sts):∀ {n:Nat},n≤1000000→(d.lvl n s=1000000∧s∈d.alive n)∨∃ j:Nat,j<n∧d.lvl n s=j∧s∈d.alive j∧s∉d.alive (j+1)
 | 0,_=>.inl ⟨rfl,hs⟩
 | n+1,hn=>by
   rcases lvl_spec hs (n:=n) (by omega) with ⟨h1,h2⟩ | ⟨j,h1,h2,h3,h4⟩
   · unfold Dsk.lvl
     rw [decide_eq_true h1,Bool.true_and]
     by_cases h:s∈d.alive (n+1)
     · rw [show (d.alive (n+1)).contains s=true by simpa using h];exact .inl ⟨h1,h⟩
     · rw [show (d.alive (n+1)).contains s=false by simpa using h];exact .inr ⟨n,by omega,rfl,h2,h⟩
   · unfold Dsk.lvl
     rw [decide_eq_false (by omega),Bool.false_and,cond_false]
     exact .inr ⟨j,by omega,h2,h3,h4⟩
def Kpt (d:Dsk) (s:HSt) (v:Int):Prop:=(v=1000000∧∀ m,s∈d.alive m)∨∃ j:Nat,j≤14641∧v=j∧s∈d.alive j∧s∉d.alive (j+1)
theorem kpt_unique {d:Dsk} {s:HSt} {v w:Int} (h:Kpt d s v) (h':Kpt d s w):v=w:=by
 rcases h with ⟨rfl,h1⟩ | ⟨j,_,rfl,h1,h2⟩<;>rcases h' with ⟨rfl,h3⟩ | ⟨i,_,rfl,h3,h4⟩
 · rfl
 · exact absurd (h1 _) h4
 · exact absurd (h3 _) h2
 · rcases Nat.lt_trichotomy i j with h | h | h
   · exact absurd (d.alive_le (by omega) h1) h4
   · rw [h]
   · exact absurd (d.alive_le (by omega) h3) h2
theorem Zi6 {d:Dsk} {s:HSt} (hs:s∈d.sts) {n:Nat} (hn:n≤14641) (hf:d.alive (n+1)=d.alive n):Kpt d s (d.lvl n s):=by
 rcases d.lvl_spec hs (n:=n) (by omega) with ⟨h1,h2⟩ | ⟨j,h1,h2,h3,h4⟩
 · refine .inl ⟨h1,fun m=>?_⟩
   rcases Nat.lt_or_ge m n with h | h
   · exact d.alive_le (by omega) h2
   · obtain ⟨k,rfl⟩:∃ k,m=n+k:=⟨m-n,by omega⟩
     rw [d.alive_fix hf];exact h2
 · exact .inr ⟨j,by omega,h2,h3,h4⟩
theorem Dsk.lvl_step {d:Dsk} {s:HSt} (hs:s∈d.sts) {n:Nat} (hn:n≤100000):d.lvl (n+1) s=bif (((d.alive n).filter fun s=>!d.helped (d.alive n) s).contains s) then (n:Int) else d.lvl n s:=by
 show (bif decide (d.lvl n s=1000000)&&!((d.alive (n+1)).contains s) then (n:Int) else d.lvl n s)=_
 congr 1
 have e:(((d.alive n).filter fun s=>!d.helped (d.alive n) s).contains s)=true↔s∈d.alive n∧d.helped (d.alive n) s=false:=by
   rw [List.contains_iff_mem,List.mem_filter];simp
 have e2:(decide (d.lvl n s=1000000)&&!(d.alive (n+1)).contains s)=true↔s∈d.alive n∧d.helped (d.alive n) s=false:=by
   rw [Bool.and_eq_true,decide_eq_true_eq,Bool.not_eq_true',← Bool.not_eq_true,List.contains_iff_mem,d.alive_succ]
   have h1:d.lvl n s=1000000↔s∈d.alive n:=by
     rcases d.lvl_spec hs (n:=n) (by omega) with ⟨h1,h2⟩ | ⟨j,h1,h2,h3,h4⟩
     · exact ⟨fun _=>h2,fun _=>h1⟩
     · exact ⟨fun h=>by omega,fun h=>absurd (d.alive_le (by omega) h) h4⟩
   rw [h1]
   cases d.helped (d.alive n) s<;>simp
 rw [Bool.eq_iff_iff,e,e2]
theorem Dsk.alive_same {d:Dsk} {n:Nat} (h:((d.alive n).filter fun s=>!d.helped (d.alive n) s).length=0):d.alive (n+1)=d.alive n:=by
 have h0:=List.length_eq_zero_iff.1 h
 show (d.alive n).filter (d.helped (d.alive n))=d.alive n
 rw [List.filter_eq_self]
 intro s hs
 have:=List.filter_eq_nil_iff.1 h0 s hs
 simpa using this
theorem Z8e {α:Type} (p:α→Bool):∀ (l:List α),(l.filter p).length+(l.filter fun x=>!p x).length=l.length
 | []=>rfl
 | x::l=>by
   have ih:=Z8e p l
   cases h:p x<;>simp [h]<;>omega
theorem Dsk.alive_less {d:Dsk} {n:Nat} (h:((d.alive n).filter fun s=>!d.helped (d.alive n) s).length≠0):(d.alive (n+1)).length<(d.alive n).length:=by
 have:=Z8e (d.helped (d.alive n)) (d.alive n)
 show ((d.alive n).filter (d.helped (d.alive n))).length<_
 omega
open Go
theorem Zc5:Z2a Tryz.prog 39=some 4:=by kernel_rfl
theorem Zcb:arN Tryz.prog 30=some (6,1):=by kernel_rfl
theorem Z2s:cal Tryz.prog 100=true:=by kernel_rfl
theorem Z4K:cal Tryz.prog 148=true:=by kernel_rfl
theorem Zdt:cal Tryz.prog 155=true:=by kernel_rfl
theorem ZgP:cal Tryz.prog 156=true:=by kernel_rfl
theorem Zdu:cal Tryz.prog 157=true:=by kernel_rfl
theorem ZgQ:cal Tryz.prog 158=true:=by kernel_rfl
theorem Zdv:cal Tryz.prog 159=true:=by kernel_rfl
theorem ZgR:cal Tryz.prog 160=true:=by kernel_rfl
theorem ZgS:cal Tryz.prog 161=true:=by kernel_rfl
theorem Z6b:cal Tryz.prog 224=true:=by kernel_rfl
theorem Zhc:cal Tryz.prog 235=true:=by kernel_rfl
theorem Zhd:cal Tryz.prog 236=true:=by kernel_rfl
theorem Zhe:cal Tryz.prog 237=true:=by kernel_rfl
theorem Zhf:cal Tryz.prog 238=true:=by kernel_rfl
theorem Zho:cal Tryz.prog 270=true:=by kernel_rfl
theorem Zhp:cal Tryz.prog 271=true:=by kernel_rfl
theorem Z1q:elN Tryz.prog 23=some 1:=by kernel_rfl
theorem ZbZ:elN Tryz.prog 31=some 4:=by kernel_rfl
theorem Z6t:ZY Tryz.prog 33 0=some 0:=by kernel_rfl
theorem Z46:ZY Tryz.prog 33 1=some 1:=by kernel_rfl
theorem Z3k:ZY Tryz.prog 33 2=some 2:=by kernel_rfl
theorem ZJ:ZY Tryz.prog 33 3=some 8:=by kernel_rfl
theorem Z8k:ZY Tryz.prog 37 0=some 0:=by kernel_rfl
theorem Z4P:ZY Tryz.prog 37 1=some 1:=by kernel_rfl
theorem Z4Q:ZY Tryz.prog 39 0=some 0:=by kernel_rfl
theorem Z3l:ZY Tryz.prog 39 1=some 1:=by kernel_rfl
theorem Z21:ZY Tryz.prog 39 2=some 2:=by kernel_rfl
theorem ZD:Z2y Tryz.prog 23=true:=by kernel_rfl
theorem Z1a:Z2y Tryz.prog 31=true:=by kernel_rfl
theorem Z4C:Z0h Tryz.prog 100=true:=by kernel_rfl
theorem Zka:Z0h Tryz.prog 277=true:=by kernel_rfl
theorem sc3:Z0h Tryz.prog 3=true:=by kernel_rfl
theorem Z2X:Z0h Tryz.prog 31=true:=by kernel_rfl
def brow (x:HBin):List Value:=[.int .i64 x.warm,.int .i64 x.mark,.int .i64 x.lo,.int .i64 x.hi]
def brows (l:List HBin):List (List Value):=l.map brow
def btl (b:Barn) (sl:Value):List Value:=[.int .i64 b.cool,.int .i64 b.gangs,.int .i64 (na b.rise 0),.int .i64 (na b.rise 1),.int .i64 (na b.rise 2),.int .i64 (na b.rise 3),.int .i64 (na b.rise 4),.int .i64 (na b.rise 5),sl]
def Barn.v (b:Barn) (sl:Value):Value:=.agg (btl b sl).toArray
def Barn.sl (b:Barn) (a:Option Addr) (c:Nat):Value:=.slice a b.bins.length c
abbrev irows (l:List Int):List (List Value):=l.map fun z=>[.int .i64 z]
theorem br_get {l:List HBin} {k:Nat} {x:HBin} (h:l[k]?=some x):(brows l)[k]?=some (brow x):=by simp [brows,h]
theorem Z6 (l:List Int):(Za l).length=l.length:=by simp [Za]
theorem Z0z {l:List Int} {k:Nat} {v:Int} (h:l[k]?=some v):(Za l)[k]?=some (.int .i64 v):=by simp [Za,h]
theorem Z7V {b:Barn} {sl:Value} {k:Nat} (hk:k<6):(btl b sl)[2+k]?=some (.int .i64 (na b.rise k)):=by
 match k,hk with
 | 0,_=>rfl
 | 1,_=>rfl
 | 2,_=>rfl
 | 3,_=>rfl
 | 4,_=>rfl
 | 5,_=>rfl
theorem St.barn {b:Barn} {sl:Value} {bk e:Nat} {H:Z8} {R:Z5} {w:World} (hr:b.rise.length=6) (hs:St ((bk,cel e (btl b sl))::H) R w) :
   St H (RowsA (some ⟨bk,2,none⟩) 1 (irows b.rise)::RowsA (some ⟨bk,0,none⟩) 9 [btl b sl]::R) w:=by
 have h1:=(St.freeze hs).also (f:=RowsA (some ⟨bk,0,none⟩) 9 [btl b sl]) (fun w' hw=>by
   have hb:=hw (fun w=>w.heap[bk]?=some (cel e (btl b sl))) (by simp)
   exact Z9e (junk:=[]) (e:=e) (by rw [hb];simp) (by simp [btl]))
 have h2:=h1.also (f:=RowsA (some ⟨bk,2,none⟩) 1 (irows b.rise)) (fun w' hw=>by
   have hb:=hw (fun w=>w.heap[bk]?=some (cel e (btl b sl))) (by simp)
   intro i row hi
   have hi6:i<6:=by
     have:=(List.getElem?_eq_some_iff.1 hi).1
     simpa [irows,hr] using this
   have e1:row=[.int .i64 (na b.rise i)]:=by
     simp only [irows,List.getElem?_map,Option.map_eq_some_iff] at hi
     obtain ⟨z,hz,rfl⟩:=hi
     simp [na,hz]
   subst e1
   refine ⟨rfl,bk,2,rfl,fun j x hx=>?_⟩
   match j,hx with
   | 0,hx =>
     rw [Z0H hb,Nat.mul_one,Nat.add_zero]
     simp only [List.getElem?_cons_zero] at hx
     rw [← hx]
     simpa using Z7V hi6)
 exact h2.facts (fun g hg=>by
   rcases List.mem_cons.1 hg with h3 | h3
   · simp [h3]
   · rcases List.mem_cons.1 h3 with h4 | h4<;>simp [h4])
def Zcc (l:List Int) (i:Nat):Bool:=match l[i]?,l[i+1]? with
 | some x,some y=>decide (y<x)
 | _,_=>false
theorem Z7H:∀ (l:List Int),srt l=!((List.range l.length).any (Zcc l))
 | []=>rfl
 | [x]=>rfl
 | x::y::l=>by
   have ih:=Z7H (y::l)
   unfold srt
   rw [ih]
   rw [show (x::y::l).length=(y::l).length+1 from rfl,List.range_succ_eq_map (n:=(y::l).length),List.any_cons,List.any_map]
   have e:(Zcc (x::y::l)) ∘ Nat.succ=Zcc (y::l):=by funext i;rfl
   rw [e]
   have e2:Zcc (x::y::l) 0=decide (y<x):=rfl
   rw [e2]
   by_cases h:x≤y
   · simp [h,Int.not_lt.2 h]
   · simp [h,Int.not_le.1 h]
theorem Zb6 {l:List Int} {k:Nat} {x y:Int} (hx:l[k]?=some x) (hy:l[k+1]?=some y) (h:y<x):srt l=false:=by
 rw [Z7H,Bool.not_eq_false']
 rw [List.any_eq_true]
 refine ⟨k,List.mem_range.2 (List.getElem?_eq_some_iff.1 hx).1,?_⟩
 unfold Zcc
 rw [hx,hy];simpa using h
theorem Zi4 {l:List Int} (h:∀ i,i+1<l.length→Zcc l i=false):srt l=true:=by
 rw [Z7H,Bool.not_eq_true']
 rw [List.any_eq_false]
 intro i _
 rcases Nat.lt_or_ge (i+1) l.length with h1 | h1
 · simp [h i h1]
 · unfold Zcc
   rw [List.getElem?_eq_none h1]
   cases l[i]?<;>simp
theorem Zy {α:Type} {xs:List α} {p:α→Bool} {k:Nat} {x:α} (hx:xs[k]?=some x) (hn:∀ y∈xs.take k,p y=false) (h:p x=true):xs.findIdx? p=some k:=by
 induction xs generalizing k with
 | nil=>simp at hx
 | cons y ys ih =>
   cases k with
   | zero=>simp only [List.getElem?_cons_zero,Option.some.injEq] at hx;subst hx;simp [List.findIdx?_cons,h]
   | succ k =>
     have hy:=hn y (by simp)
     have:=ih (by simpa using hx) (fun z hz=>hn z (by simp [hz]))
     simp [List.findIdx?_cons,hy,this]
theorem Zs {α:Type} {xs:List α} {p:α→Bool} (hn:∀ y∈xs,p y=false):xs.findIdx? p=none:=by
 rw [List.findIdx?_eq_none_iff];exact hn
theorem ZT {α:Type} {xs:List α} {p:α→Bool} {k:Nat} {x:α} (hx:xs[k]?=some x) (hn:∀ y∈xs.take k,p y=false) (h:p x=false):∀ y∈xs.take (k+1),p y=false:=by
 intro y hy
 rw [List.take_add_one,hx] at hy
 rcases List.mem_append.1 hy with h1 | h1
 · exact hn y h1
 · simp only [Option.toList_some,List.mem_singleton] at h1;subst h1;exact h
theorem Z0v {α:Type} (xs:List α) (p:α→Bool):Value.bool (decide (0≤(match xs.findIdx? p with | some k=>(k:Int) | none => -1))) = .bool (xs.any p):=by
 congr 1
 cases h:xs.findIdx? p with
 | none =>
   have:=List.findIdx?_eq_none_iff.1 h
   have h2:xs.any p=false:=by simpa using this
   rw [h2];rfl
 | some k =>
   have h2:xs.any p=true:=by
     rw [← Bool.not_eq_false];intro h3
     have:xs.findIdx? p=none:=List.findIdx?_eq_none_iff.2 (by simpa using h3)
     rw [this] at h;cases h
   rw [h2];simp
theorem ZQ {α:Type} (xs:List α) (p:α→Bool):Value.bool (!xs.any fun x=>!p x) = .bool (xs.all p):=by
 congr 1
 induction xs with
 | nil=>rfl
 | cons x xs ih=>simp [← ih]
theorem Z71 (n lo hi:Int) (H:Z8) (R:Z5) :
    FnV Tryz.prog 100 [.int .i64 n,.int .i64 lo,.int .i64 hi] H R (.bool (inB n lo hi)):=by
 refine Ze Tryz.func100 rfl Tryz.ntmps100 rfl ?_
 refine sqt 1 rfl (pur 1 rfl (sqt 9 rfl (pur 4 rfl ?_)))
 refine Zv 10 rfl ?_ ?_<;>intro g10
 refine pur 5 rfl (Z4 ?_)
 exact rtA rfl rfl rfl ⟨by simp_all only [ZR,inB,Bool.true_and,Bool.false_and,cond_true,cond_false],rfl,rfl⟩ drp
 refine pur 5 rfl (Z4 ?_)
 exact rtA rfl rfl rfl ⟨by simp_all only [ZR,inB,Bool.true_and,Bool.false_and,cond_true,cond_false],rfl,rfl⟩ drp
theorem Z9Q (n:Int) (H:Z8) (R:Z5) :
    FnV Tryz.prog 159 [.int .i64 n] H R (.bool (inB n 0 5)):=by
 refine Ze Tryz.func159 rfl Tryz.ntmps159 rfl ?_
 refine sqt 1 rfl (pur 1 rfl (sqt 3 rfl (pur 1 rfl ?_)))
 refine clV rfl Z2s rfl rfl (Z71 _ _ _ _ _) ?_
 refine pur 1 rfl (Z4 ?_)
 exact rtA rfl rfl rfl ⟨rfl,rfl,rfl⟩ drp
theorem Z3T (n m:Int) (a:Option Addr) (c:Nat) (H:Z8) (R:Z5) [hR:MemRows a 1 [[.int .i64 m]] R] :
    FnV Tryz.prog 163 [.int .i64 n,.slice a 1 c] H R (.int .i64 (max n m)):=by
 refine Ze Tryz.func163 rfl Tryz.ntmps163 rfl ?_
 refine sqt 1 rfl (pur 1 rfl (Z0 (sqt 3 rfl (pur 1 rfl (sp rfl (PE.lenSl ZD rfl) rfl (pur 1 rfl (Z3 ?_)))))))
 refine Zi (a:=a) (sz:=1) (rows:=[[.int .i64 m]]) (by simp) (fun b off he=>?_)
 subst he
 refine Zd (ι:={k:Nat // k≤1}) (fun k=>⟨[(0,.int .i64 (bif k.1 == 0 then n else max n m)),(7,.slice (some ⟨b,off,none⟩) 1 c),(8,.int .i64 1),(9,.int .i64 k.1)],H,R⟩) (fun k=>1-k.1) ⟨0,by omega⟩ ?_ (fun k=>?_)
 exact Zj idH
 obtain ⟨k,hk⟩:=k
 dsimp only
 refine sqt 1 rfl (pur 1 rfl (Z0 ?_))
 refine Z2 rfl ?_ ?_<;>intro hc0
 simp only [cS] at hc0
 obtain rfl:k=0:=by omega
 refine Z1 (Z0 (Z3 (sqt 3 rfl (sp rfl (PE.indexAddr Z1q rfl rfl (by omega) (by omega)) rfl (spL rfl rfl (lf0 sc3 (row:=[.int .i64 m]) rfl rfl) rfl (pur 1 rfl (sqr 4 rfl (pur 2 rfl (sp rfl (PE.max rfl rfl) rfl (pur 1 rfl (sqr 2 rfl (sp rfl (PE.add rfl rfl (by omega)) rfl (pur 1 rfl ?_)))))))))))))
 exact Zf ⟨1,by omega⟩ (by simp) idH
 try simp only [cS] at hc0
 refine Z7 (Z9 (Z9 (Zk (sqt 2 rfl (pur 2 rfl (Z4 ?_))))))
 obtain rfl:k=1:=by omega
 exact rtA rfl rfl rfl ⟨rfl,rfl,rfl⟩ drp
theorem Z1u (xs:List Int) (a:Option Addr) (c g:Nat) (fst cap:List Value) (p:Int→Bool) (hg:cal Tryz.prog g=true) (hl:xs.length≤9223372036854775807) (H:Z8) (R:Z5) [hR:MemRows a 1 (irows xs) R] (hp:∀ x,x∈xs→FnV Tryz.prog g (fst++[.int .i64 x]++cap) H R (.bool (p x))) :
    FnV Tryz.prog 224 [.slice a xs.length c,.func (.func g) fst.toArray cap.toArray] H R (.int .i64 (match xs.findIdx? p with | some k=>(k:Int) | none => -1)):=by
 refine Ze Tryz.func224 rfl Tryz.ntmps224 rfl ?_
 refine sqt 1 rfl (pur 1 rfl (Z0 (sqt 3 rfl (pur 1 rfl (sp rfl (PE.lenSl ZD rfl) rfl (pur 1 rfl (Z3 ?_)))))))
 refine Zd (ι:={k:Nat // k≤xs.length∧∀ x∈xs.take k,p x=false}) (fun k=>⟨[(0,.slice a xs.length c),(1,.func (.func g) fst.toArray cap.toArray),(7,.int .i64 xs.length),(8,.int .i64 k.1)],H,R⟩) (fun k=>xs.length-k.1) ⟨0,by simp⟩ ?_ (fun k=>?_)
 exact Zj idH
 obtain ⟨k,hk,hn⟩:=k
 dsimp only
 refine sqt 1 rfl (pur 1 rfl (Z0 ?_))
 refine Z2 rfl ?_ ?_<;>intro hc0
 simp only [cS] at hc0
 obtain ⟨x,hx⟩:∃ x,xs[k]?=some x:=⟨_,List.getElem?_eq_getElem (by omega)⟩
 have hxm:=List.mem_of_getElem? hx
 refine Zi (a:=a) (sz:=1) (rows:=irows xs) (by cases xs<;>simp_all [irows]) (fun b off he=>?_)
 subst he
 refine Z1 (Z0 (Z3 (sqt 2 rfl (pur 2 rfl (sqt 6 rfl (pur 3 rfl (sp rfl (PE.indexAddr Z1q rfl rfl (by omega) (by omega)) rfl (spL rfl rfl (lf0 sc3 (by simp [irows,hx];rfl) rfl) rfl ?_))))))))
 refine Z5f rfl rfl (hg) rfl rfl (hp x hxm) ?_
 refine Z2 rfl ?_ ?_<;>intro hc1
 refine sqt 2 rfl (pur 2 rfl (Z4 ?_))
 first | (exact rtA rfl rfl rfl ⟨by rw [Zy hx hn hc1];rfl,rfl,rfl⟩ idH) | (exact rtA rfl rfl rfl ⟨by rw [Zs (by simpa using hn)];rfl,rfl,rfl⟩ idH)
 refine Z1 (sqr 2 rfl (sp rfl (PE.add rfl rfl (by omega)) rfl (pur 1 rfl ?_)))
 exact Zc ⟨k+1,by omega,ZT hx hn hc1⟩ idH
 simp only [cS] at hc0
 obtain rfl:k=xs.length:=by omega
 refine Z7 (Z9 (Z9 (Zk (sqt 1 rfl (pur 1 rfl (Z4 ?_))))))
 first | (exact rtA rfl rfl rfl ⟨by rw [Zy hx hn hc1];rfl,rfl,rfl⟩ idH) | (exact rtA rfl rfl rfl ⟨by rw [Zs (by simpa using hn)];rfl,rfl,rfl⟩ idH)
theorem Z10 (xs:List Int) (a:Option Addr) (c g:Nat) (fst cap:List Value) (p:Int→Bool) (hg:cal Tryz.prog g=true) (hl:xs.length≤9223372036854775807) (H:Z8) (R:Z5) [hR:MemRows a 1 (irows xs) R] (hp:∀ x,x∈xs→FnV Tryz.prog g (fst++[.int .i64 x]++cap) H R (.bool (p x))) :
    FnV Tryz.prog 148 [.slice a xs.length c,.func (.func g) fst.toArray cap.toArray] H R (.bool (xs.any p)):=by
 refine Ze Tryz.func148 rfl Tryz.ntmps148 rfl ?_
 refine sqt 1 rfl (pur 1 rfl (sqt 5 rfl (pur 2 rfl ?_)))
 refine clV rfl Z6b rfl rfl (Z1u xs a c g fst cap p hg hl _ _ hp) ?_
 refine pur 2 rfl (Z4 ?_)
 exact rtA rfl rfl rfl ⟨by simp only [ZR];exact Z0v _ _,rfl,rfl⟩ drp
theorem Z1t (x:Int) (g bf:Nat) (fst cap:List Value) (p:Bool) (hg:cal Tryz.prog g=true) (H:Z8) (R:Z5) [hM:Mem1 bf (cel 100 [.func (.func g) fst.toArray cap.toArray]) H] (hp:FnV Tryz.prog g (fst++[.int .i64 x]++cap) H R (.bool p)) :
    FnV Tryz.prog 235 [.int .i64 x,.pointer (some ⟨bf,0,none⟩)] H R (.bool !p):=by
 refine Ze Tryz.func235 rfl Tryz.ntmps235 rfl ?_
 refine sqt 1 rfl (pur 1 rfl (sqt 5 rfl (spL rfl rfl (lh Z4C rfl rfl) rfl (pur 1 rfl ?_))))
 refine Z5f rfl rfl (hg) rfl rfl (hp) ?_
 refine pur 2 rfl (Z4 ?_)
 exact rtA rfl rfl rfl ⟨rfl,rfl,rfl⟩ drp
theorem Z0l (xs:List Int) (a:Option Addr) (c g:Nat) (fst cap:List Value) (p:Int→Bool) (hg:cal Tryz.prog g=true) (hl:xs.length≤9223372036854775807) (H:Z8) (R:Z5) [hR:MemRows a 1 (irows xs) R] (hp:∀ b x,x∈xs→FnV Tryz.prog g (fst++[.int .i64 x]++cap) ((b,cel 100 [.func (.func g) fst.toArray cap.toArray])::H) R (.bool (p x))) :
    FnV Tryz.prog 155 [.slice a xs.length c,.func (.func g) fst.toArray cap.toArray] H R (.bool (xs.all p)):=by
 refine Ze Tryz.func155 rfl Tryz.ntmps155 rfl ?_
 refine sqt 2 rfl (bx rfl rfl rfl (fun b3=>pur 1 rfl (sqt 5 rfl (pur 1 rfl (sp rfl (PE.makeFunc rfl rfl) rfl ?_)))))
 refine clV rfl Z4K rfl rfl (Z10 xs a c 235 [] [_] (fun x=>!p x) Zhc hl _ _ (hp:=fun x hx=>Z1t x g _ fst cap (p x) hg _ _ (hp:=hp _ x hx))) ?_
 refine pur 2 rfl (Z4 ?_)
 exact rtA rfl rfl rfl ⟨by simp only [ZR];rw [ZQ],rfl,rfl⟩ drp
theorem Za0 (xs:List HBin) (a:Option Addr) (c g:Nat) (fst cap:List Value) (p:HBin→Bool) (hg:cal Tryz.prog g=true) (hl:xs.length≤9223372036854775807) (H:Z8) (R:Z5) [hR:MemRows a 4 (brows xs) R] (hp:∀ x,x∈xs→FnV Tryz.prog g (fst++[.agg (brow x).toArray]++cap) H R (.bool (p x))) :
    FnV Tryz.prog 270 [.slice a xs.length c,.func (.func g) fst.toArray cap.toArray] H R (.int .i64 (match xs.findIdx? p with | some k=>(k:Int) | none => -1)):=by
 refine Ze Tryz.func270 rfl Tryz.ntmps270 rfl ?_
 refine sqt 1 rfl (pur 1 rfl (Z0 (sqt 3 rfl (pur 1 rfl (sp rfl (PE.lenSl Z1a rfl) rfl (pur 1 rfl (Z3 ?_)))))))
 refine Zd (ι:={k:Nat // k≤xs.length∧∀ x∈xs.take k,p x=false}) (fun k=>⟨[(0,.slice a xs.length c),(1,.func (.func g) fst.toArray cap.toArray),(7,.int .i64 xs.length),(8,.int .i64 k.1)],H,R⟩) (fun k=>xs.length-k.1) ⟨0,by simp⟩ ?_ (fun k=>?_)
 exact Zj idH
 obtain ⟨k,hk,hn⟩:=k
 dsimp only
 refine sqt 1 rfl (pur 1 rfl (Z0 ?_))
 refine Z2 rfl ?_ ?_<;>intro hc0
 simp only [cS] at hc0
 obtain ⟨x,hx⟩:∃ x,xs[k]?=some x:=⟨_,List.getElem?_eq_getElem (by omega)⟩
 have hxm:=List.mem_of_getElem? hx
 refine Zi (a:=a) (sz:=4) (rows:=brows xs) (by cases xs<;>simp_all [brows]) (fun b off he=>?_)
 subst he
 refine Z1 (Z0 (Z3 (sqt 2 rfl (pur 2 rfl (sqt 6 rfl (pur 3 rfl (sp rfl (PE.indexAddr ZbZ rfl rfl (by omega) (by omega)) rfl (spL rfl rfl (lfA Zc5 (row:=brow x) (by simp [brows,hx]) rfl) rfl ?_))))))))
 refine Z5f rfl rfl (hg) rfl rfl (hp x hxm) ?_
 refine Z2 rfl ?_ ?_<;>intro hc1
 refine sqt 2 rfl (pur 2 rfl (Z4 ?_))
 first | (exact rtA rfl rfl rfl ⟨by rw [Zy hx hn hc1];rfl,rfl,rfl⟩ idH) | (exact rtA rfl rfl rfl ⟨by rw [Zs (by simpa using hn)];rfl,rfl,rfl⟩ idH)
 refine Z1 (sqr 2 rfl (sp rfl (PE.add rfl rfl (by omega)) rfl (pur 1 rfl ?_)))
 exact Zc ⟨k+1,by omega,ZT hx hn hc1⟩ idH
 simp only [cS] at hc0
 obtain rfl:k=xs.length:=by omega
 refine Z7 (Z9 (Z9 (Zk (sqt 1 rfl (pur 1 rfl (Z4 ?_))))))
 first | (exact rtA rfl rfl rfl ⟨by rw [Zy hx hn hc1];rfl,rfl,rfl⟩ idH) | (exact rtA rfl rfl rfl ⟨by rw [Zs (by simpa using hn)];rfl,rfl,rfl⟩ idH)
theorem Z9V (xs:List HBin) (a:Option Addr) (c g:Nat) (fst cap:List Value) (p:HBin→Bool) (hg:cal Tryz.prog g=true) (hl:xs.length≤9223372036854775807) (H:Z8) (R:Z5) [hR:MemRows a 4 (brows xs) R] (hp:∀ x,x∈xs→FnV Tryz.prog g (fst++[.agg (brow x).toArray]++cap) H R (.bool (p x))) :
    FnV Tryz.prog 236 [.slice a xs.length c,.func (.func g) fst.toArray cap.toArray] H R (.bool (xs.any p)):=by
 refine Ze Tryz.func236 rfl Tryz.ntmps236 rfl ?_
 refine sqt 1 rfl (pur 1 rfl (sqt 5 rfl (pur 2 rfl ?_)))
 refine clV rfl Zho rfl rfl (Za0 xs a c g fst cap p hg hl _ _ hp) ?_
 refine pur 2 rfl (Z4 ?_)
 exact rtA rfl rfl rfl ⟨by simp only [ZR];exact Z0v _ _,rfl,rfl⟩ drp
theorem Z9R (x:HBin) (g bf:Nat) (fst cap:List Value) (p:Bool) (hg:cal Tryz.prog g=true) (H:Z8) (R:Z5) [hM:Mem1 bf (cel 277 [.func (.func g) fst.toArray cap.toArray]) H] (hp:∀ b,FnV Tryz.prog g (fst++[.agg (brow x).toArray]++cap) ((b,cel 39 (brow x))::H) R (.bool p)) :
    FnV Tryz.prog 237 [.agg (brow x).toArray,.pointer (some ⟨bf,0,none⟩)] H R (.bool !p):=by
 refine Ze Tryz.func237 rfl Tryz.ntmps237 rfl ?_
 refine sqt 2 rfl (bx rfl rfl rfl (fun b2=>pur 1 rfl (sqt 5 rfl (spL rfl rfl (lh Zka rfl rfl) rfl (spL rfl rfl (lhA [_,_,_,_] Zc5 rfl rfl rfl) rfl ?_)))))
 refine Z5f rfl rfl (hg) rfl rfl (hp _) ?_
 refine pur 2 rfl (Z4 ?_)
 exact rtA rfl rfl rfl ⟨rfl,rfl,rfl⟩ drp
theorem Z3P (xs:List HBin) (a:Option Addr) (c g:Nat) (fst cap:List Value) (p:HBin→Bool) (hg:cal Tryz.prog g=true) (hl:xs.length≤9223372036854775807) (H:Z8) (R:Z5) [hR:MemRows a 4 (brows xs) R] (hp:∀ b b2 x,x∈xs→FnV Tryz.prog g (fst++[.agg (brow x).toArray]++cap) ((b2,cel 39 (brow x))::(b,cel 277 [.func (.func g) fst.toArray cap.toArray])::H) R (.bool (p x))) :
    FnV Tryz.prog 157 [.slice a xs.length c,.func (.func g) fst.toArray cap.toArray] H R (.bool (xs.all p)):=by
 refine Ze Tryz.func157 rfl Tryz.ntmps157 rfl ?_
 refine sqt 2 rfl (bx rfl rfl rfl (fun b3=>pur 1 rfl (sqt 5 rfl (pur 1 rfl (sp rfl (PE.makeFunc rfl rfl) rfl ?_)))))
 refine clV rfl Zhd rfl rfl (Z9V xs a c 237 [] [_] (fun x=>!p x) Zhe hl _ _ (hp:=fun x hx=>Z9R x g _ fst cap (p x) hg _ _ (hp:=fun b=>hp _ _ x hx))) ?_
 refine pur 2 rfl (Z4 ?_)
 exact rtA rfl rfl rfl ⟨by simp only [ZR];rw [ZQ],rfl,rfl⟩ drp
theorem Z9N (n:Int) (H:Z8) (R:Z5) :
    FnV Tryz.prog 156 [.int .i64 n] H R (.bool (Z24 n)):=by
 refine Ze Tryz.func156 rfl Tryz.ntmps156 rfl ?_
 refine sqt 1 rfl (pur 1 rfl (sqt 7 rfl (pur 3 rfl ?_)))
 refine Zv 5 rfl ?_ ?_<;>intro g5
 refine pur 4 rfl (Z4 ?_)
 exact rtA rfl rfl rfl ⟨by simp_all only [ZR,Z24,Bool.true_or,Bool.false_or,cond_true,cond_false],rfl,rfl⟩ drp
 refine pur 1 rfl ?_
 refine Z6e rfl rfl rfl rfl Z2s rfl rfl (Z71 _ _ _ _ _) ?_
 refine pur 2 rfl (Z4 ?_)
 exact rtA rfl rfl rfl ⟨by simp_all only [ZR,Z24,Bool.true_or,Bool.false_or,cond_true,cond_false],rfl,rfl⟩ drp
theorem Z9O (x:HBin) (H:Z8) (R:Z5) :
    FnV Tryz.prog 158 [.agg (brow x).toArray] H R (.bool x.ok):=by
 refine Ze Tryz.func158 rfl Tryz.ntmps158 rfl ?_
 refine sqt 2 rfl (bx rfl rfl rfl (fun b1=>pur 1 rfl (sqt 23 rfl (sp rfl (PE.fA Z3l rfl) rfl (spL rfl rfl (lh sc3 rfl rfl) rfl ?_)))))
 refine clV rfl Z2s rfl rfl (Z71 _ _ _ _ _) ?_
 refine pur 1 rfl ?_
 refine Zv 6 rfl ?_ ?_<;>intro g6
 refine spG rfl rfl rfl rfl (PE.fA Z4Q rfl) rfl ?_
 refine Z0E rfl rfl rfl rfl rfl (lh sc3 rfl rfl) rfl ?_
 refine spG rfl rfl rfl rfl (PE.fA Z3l rfl) rfl ?_
 refine Z0E rfl rfl rfl rfl rfl (lh sc3 rfl rfl) rfl ?_
 refine Z6e rfl rfl rfl rfl Z2s rfl rfl (Z71 _ _ _ _ _) ?_
 refine pur 2 rfl ?_
 refine Zv 13 rfl ?_ ?_<;>intro g13
 refine spG rfl rfl rfl rfl (PE.fA Z21 rfl) rfl ?_
 refine spG rfl rfl rfl rfl (PE.fA Z8k rfl) rfl ?_
 refine Z0E rfl rfl rfl rfl rfl (lh sc3 rfl rfl) rfl ?_
 refine Z6e rfl rfl rfl rfl Zdv rfl rfl (Z9Q _ _ _) ?_
 refine pur 2 rfl ?_
 refine Zv 19 rfl ?_ ?_<;>intro g19
 refine spG rfl rfl rfl rfl (PE.fA Z21 rfl) rfl ?_
 refine spG rfl rfl rfl rfl (PE.fA Z4P rfl) rfl ?_
 refine Z0E rfl rfl rfl rfl rfl (lh sc3 rfl rfl) rfl ?_
 refine Z6e rfl rfl rfl rfl Zdv rfl rfl (Z9Q _ _ _) ?_
 refine pur 2 rfl (Z4 ?_)
 exact rtA rfl rfl rfl ⟨by simp_all only [ZR,HBin.ok,Bool.true_and,Bool.false_and,Bool.and_true,Bool.and_false,cond_true,cond_false],rfl,rfl⟩ drp
 refine pur 6 rfl (Z4 ?_)
 exact rtA rfl rfl rfl ⟨by simp_all only [ZR,HBin.ok,Bool.true_and,Bool.false_and,Bool.and_true,Bool.and_false,cond_true,cond_false],rfl,rfl⟩ drp
 refine pur 12 rfl (Z4 ?_)
 exact rtA rfl rfl rfl ⟨by simp_all only [ZR,HBin.ok,Bool.true_and,Bool.false_and,Bool.and_true,Bool.and_false,cond_true,cond_false],rfl,rfl⟩ drp
 refine pur 19 rfl (Z4 ?_)
 exact rtA rfl rfl rfl ⟨by simp_all only [ZR,HBin.ok,Bool.true_and,Bool.false_and,Bool.and_true,Bool.and_false,cond_true,cond_false],rfl,rfl⟩ drp
theorem Z9P (x:HBin) (H:Z8) (R:Z5) :
    FnV Tryz.prog 161 [.agg (brow x).toArray] H R (.bool (decide (x.lo≤x.hi))):=by
 refine Ze Tryz.func161 rfl Tryz.ntmps161 rfl ?_
 refine sqt 2 rfl (bx rfl rfl rfl (fun b1=>pur 1 rfl (sqt 8 rfl (sp rfl (PE.fA Z21 rfl) rfl (sp rfl (PE.fA Z8k rfl) rfl (spL rfl rfl (lh sc3 rfl rfl) rfl (sp rfl (PE.fA Z21 rfl) rfl (sp rfl (PE.fA Z4P rfl) rfl (spL rfl rfl (lh sc3 rfl rfl) rfl (pur 2 rfl (Z4 ?_)))))))))))
 exact rtA rfl rfl rfl ⟨rfl,rfl,rfl⟩ drp
theorem ZeL (n:Int) (H:Z8) (R:Z5) :
    FnV Tryz.prog 271 [.int .i64 n] H R (.bool false):=by
 refine Ze Tryz.func271 rfl Tryz.ntmps271 rfl ?_
 refine sqt 1 rfl (pur 1 rfl (sqt 4 rfl (pur 4 rfl (Z4 ?_))))
 exact rtA rfl rfl rfl ⟨by simp [ZR],rfl,rfl⟩ drp
theorem Zgu (x y:Int) (H:Z8) (R:Z5) :
    FnV Tryz.prog 238 [.int .i64 x,.int .i64 y] H R (.bool (decide (x<y))):=by
 refine Ze Tryz.func238 rfl Tryz.ntmps238 rfl ?_
 refine sqt 1 rfl (pur 1 rfl (sqt 13 rfl (pur 1 rfl ?_)))
 refine clV rfl Zhp rfl rfl (ZeL x _ _) ?_
 refine pur 11 rfl (Z4 ?_)
 exact rtA rfl rfl rfl ⟨rfl,rfl,rfl⟩ drp
theorem Z91 (xs:List Int) (a:Option Addr) (c:Nat) (hl:xs.length≤9223372036854775807) (H:Z8) (R:Z5) [hR:MemRows a 1 (irows xs) R] :
    FnV Tryz.prog 160 [.slice a xs.length c] H R (.bool (srt xs)):=by
 refine Ze Tryz.func160 rfl Tryz.ntmps160 rfl ?_
 refine sqt 1 rfl (pur 1 rfl (Z0 (sqt 4 rfl (pur 1 rfl (sp rfl (PE.lenSl ZD rfl) rfl (sp rfl (PE.sub rfl rfl (by omega)) rfl (pur 1 rfl (Z3 ?_))))))))
 refine Zd (ι:={k:Nat // k≤xs.length∧∀ i,k≤i+1→i+1<xs.length→Zcc xs i=false}) (fun k=>⟨[(0,.slice a xs.length c),(3,.int .i64 ((k.1:Int)-1))],H,R⟩) (fun k=>k.1) ⟨xs.length,by omega,fun i h1 h2=>by omega⟩ ?_ (fun k=>?_)
 exact Zj idH
 obtain ⟨k,hk,hn⟩:=k
 dsimp only
 refine Z0 (sqt 2 rfl (pur 2 rfl ?_))
 refine Z2 rfl ?_ ?_<;>intro hc0<;>try simp only [cS] at hc0
 obtain ⟨k,rfl⟩:∃ j,k=j+2:=⟨k-2,by omega⟩
 obtain ⟨y,hy⟩:∃ y,xs[k+1]?=some y:=⟨_,List.getElem?_eq_getElem (by omega)⟩
 obtain ⟨x,hx⟩:∃ x,xs[k]?=some x:=⟨_,List.getElem?_eq_getElem (by omega)⟩
 rw [show (((k+2:Nat):Int)-1)=(k+1:Nat) from by omega]
 refine Zi (a:=a) (sz:=1) (rows:=irows xs) (by cases xs<;>simp_all) (fun b off he=>?_)
 subst he
 refine Z1 (Z0 (Z3 (Z0 ?_)))
 refine Zb [0,0,3,7,0,0,32,112,240,511] (tks 0 3 (.ld 3 (tks 4 4 (.ld 8 (.big 9 .done))))) Zo (by kernel_rfl) ?_
 refine Zl 2 rfl (tk rfl (PE.indexAddr Z1q rfl rfl (by omega) (by omega)) rfl (ld rfl rfl (lf0 (x:=.int .i64 y) sc3 (by simp [irows];exact ⟨y,hy,rfl⟩) rfl) rfl (Zl 2 rfl (tk rfl (PE.sub rfl rfl (by omega)) rfl (tk rfl (PE.indexAddr Z1q rfl rfl (by omega) (by omega)) rfl (ld rfl rfl (lf0 (x:=.int .i64 x) sc3 (by rw [show (((k+1:Nat):Int)-1).toNat=k from by omega];simp [irows];exact ⟨x,hx,rfl⟩) rfl) rfl ?_))))))
 refine clV rfl Zhf rfl rfl (Zgu y x _ _) ?_
 refine bgT ?_
 refine Z2 rfl ?_ ?_<;>intro hc1<;>try simp only [cS] at hc1
 have hbn:=Zb6 hx hy hc1
 refine sqt 1 rfl (pur 1 rfl (Z4 ?_))
 exact rtA rfl rfl rfl ⟨by simp only [ZR];rw [hbn],rfl,rfl⟩ drp
 refine Z1 (sqr 3 rfl (pur 1 rfl (sp rfl (PE.sub rfl rfl (by omega)) rfl (pur 1 rfl ?_))))
 refine Zx ⟨k+1,by omega,fun i h1 h2=>?_⟩ (by dsimp only;omega) (by dsimp only;rw [show ((k+1:Nat):Int)-1=((k+1:Nat):Int)-1 from rfl];exact sbA) idH
 rcases Nat.lt_or_ge k i with h3 | h3
 · exact hn i (by omega) h2
 · obtain rfl:i=k:=by omega
   unfold Zcc
   rw [hx,hy]
   simp only [decide_eq_false_iff_not]
   omega
 have hbn:=Zi4 (l:=xs) (fun i hi=>hn i (by omega) hi)
 refine Z7 (Z9 (Z9 (Zk (sqt 1 rfl (pur 1 rfl (Z4 ?_))))))
 exact rtA rfl rfl rfl ⟨by simp only [ZR];rw [hbn],rfl,rfl⟩ drp
theorem Z6a (xs:List Int) (n:Nat) (hn:xs.length=n) (a:Option Addr) (c g:Nat) (fst cap:List Value) (p:Int→Bool) (hg:cal Tryz.prog g=true) (hl:xs.length≤9223372036854775807) (H:Z8) (R:Z5) [hR:MemRows a 1 (irows xs) R] (hp:∀ b x,x∈xs→FnV Tryz.prog g (fst++[.int .i64 x]++cap) ((b,cel 100 [.func (.func g) fst.toArray cap.toArray])::H) R (.bool (p x))) :
 FnV Tryz.prog 155 [.slice a n c,.func (.func g) fst.toArray cap.toArray] H R (.bool (xs.all p)):=by subst hn;exact Z0l xs a c g fst cap p hg hl H R hp
theorem Z77 (xs:List Int) (n:Nat) (hn:xs.length=n) (a:Option Addr) (c:Nat) (hl:xs.length≤9223372036854775807) (H:Z8) (R:Z5) [hR:MemRows a 1 (irows xs) R]:FnV Tryz.prog 160 [.slice a n c] H R (.bool (srt xs)):=by subst hn;exact Z91 xs a c hl H R
theorem Z2Z (b:Barn) (ab:Option Addr) (cb:Nat) (hl:b.bins.length≤9223372036854775807) (hr:b.rise.length=6) (H:Z8) (R:Z5) [hB:MemRows ab 4 (brows b.bins) R] :
    FnV Tryz.prog 92 [b.v (b.sl ab cb)] H R (.int .i64 b.check):=by
 refine Ze Tryz.func92 rfl Tryz.ntmps92 rfl ?_
 refine sqt 2 rfl (bx rfl rfl rfl (fun b1=>?_))
 refine Sy.heap (fun w h=>St.barn (b:=b) (sl:=b.sl ab cb) hr (h.pull b1)) ?_
 refine pur 1 rfl (Z0 (Z3 (sqt 6 rfl (sp rfl (PE.fA ZJ rfl) rfl (spL rfl rfl (lfB (sz:=9) Z2X rfl) rfl (sp rfl (PE.lenSl Z1a rfl) rfl ?_))))))
 refine clV rfl Z2s rfl rfl (Z71 _ _ _ _ _) ?_
 refine pur 2 rfl ?_
 refine Z2 rfl ?_ ?_<;>intro hc0
 refine sqt 1 rfl (pur 1 rfl (Z4 ?_))
 exact rtA rfl rfl rfl ⟨congrArg (Value.int .i64) (by simp_all only [ZR,Barn.check,cond_true,cond_false,Bool.not_true,Bool.not_false,Bool.not_eq_true',Bool.not_eq_false',Bool.true_or,Bool.or_true,Bool.false_or,Bool.or_false]),rfl,rfl⟩ drp
 refine sqt 11 rfl (sp rfl (PE.fA Z6t rfl) rfl (spL rfl rfl (lfB (sz:=9) sc3 rfl) rfl ?_))
 refine clV rfl Z2s rfl rfl (Z71 _ _ _ _ _) ?_
 refine pur 2 rfl ?_
 refine Zv 14 rfl ?_ ?_<;>intro g14
 refine pur 6 rfl ?_
 refine Zt rfl ?_
 refine sqt 1 rfl (pur 1 rfl (Z4 ?_))
 exact rtA rfl rfl rfl ⟨congrArg (Value.int .i64) (by simp_all only [ZR,Barn.check,cond_true,cond_false,Bool.not_true,Bool.not_false,Bool.not_eq_true',Bool.not_eq_false',Bool.true_or,Bool.or_true,Bool.false_or,Bool.or_false]),rfl,rfl⟩ drp
 refine spG rfl rfl rfl rfl (PE.fA Z46 rfl) rfl ?_
 refine Z0E rfl rfl rfl rfl rfl (lfB (sz:=9) sc3 rfl) rfl ?_
 refine Z6e rfl rfl rfl rfl Z2s rfl rfl (Z71 _ _ _ _ _) ?_
 refine pur 3 rfl ?_
 refine Z2 rfl ?_ ?_<;>intro hc1
 refine sqt 1 rfl (pur 1 rfl (Z4 ?_))
 exact rtA rfl rfl rfl ⟨congrArg (Value.int .i64) (by simp_all only [ZR,Barn.check,cond_true,cond_false,Bool.not_true,Bool.not_false,Bool.not_eq_true',Bool.not_eq_false',Bool.true_or,Bool.or_true,Bool.false_or,Bool.or_false]),rfl,rfl⟩ drp
 refine sqt 5 rfl (sp rfl (PE.fA Z3k rfl) rfl (sp rfl (PE.slArr Zcb rfl) rfl ?_))
 refine clV rfl Zdt rfl rfl (Z6a b.rise 6 hr (some ⟨b1,2,none⟩) 6 156 [] [] Z24 ZgP (by omega) _ _ (fun _ x _=>Z9N x _ _)) ?_
 refine pur 2 rfl ?_
 refine Z2 rfl ?_ ?_<;>intro hc2
 refine sqt 1 rfl (pur 1 rfl (Z4 ?_))
 exact rtA rfl rfl rfl ⟨congrArg (Value.int .i64) (by simp_all only [ZR,Barn.check,cond_true,cond_false,Bool.not_true,Bool.not_false,Bool.not_eq_true',Bool.not_eq_false',Bool.true_or,Bool.or_true,Bool.false_or,Bool.or_false]),rfl,rfl⟩ drp
 refine sqt 5 rfl (sp rfl (PE.fA ZJ rfl) rfl (spL rfl rfl (lfB (sz:=9) Z2X rfl) rfl ?_))
 refine clV rfl Zdu rfl rfl (Z3P b.bins ab cb 158 [] [] HBin.ok ZgQ hl _ _ (fun _ _ x _=>Z9O x _ _)) ?_
 refine pur 2 rfl ?_
 refine Z2 rfl ?_ ?_<;>intro hc3
 refine sqt 1 rfl (pur 1 rfl (Z4 ?_))
 exact rtA rfl rfl rfl ⟨congrArg (Value.int .i64) (by simp_all only [ZR,Barn.check,cond_true,cond_false,Bool.not_true,Bool.not_false,Bool.not_eq_true',Bool.not_eq_false',Bool.true_or,Bool.or_true,Bool.false_or,Bool.or_false]),rfl,rfl⟩ drp
 refine sqt 11 rfl (sp rfl (PE.fA Z3k rfl) rfl (sp rfl (PE.slArr Zcb rfl) rfl ?_))
 refine clV rfl ZgR rfl rfl (Z77 b.rise 6 hr (some ⟨b1,2,none⟩) 6 (by omega) _ _) ?_
 refine pur 2 rfl ?_
 refine Zv 35 rfl ?_ ?_<;>intro g35
 refine pur 6 rfl ?_
 refine Zt rfl ?_
 refine sqt 1 rfl (pur 1 rfl (Z4 ?_))
 exact rtA rfl rfl rfl ⟨congrArg (Value.int .i64) (by simp_all only [ZR,Barn.check,cond_true,cond_false,Bool.not_true,Bool.not_false,Bool.not_eq_true',Bool.not_eq_false',Bool.true_or,Bool.or_true,Bool.false_or,Bool.or_false]),rfl,rfl⟩ drp
 refine spG rfl rfl rfl rfl (PE.fA ZJ rfl) rfl ?_
 refine Z0E rfl rfl rfl rfl rfl (lfB (sz:=9) Z2X rfl) rfl ?_
 refine Z6e rfl rfl rfl rfl Zdu rfl rfl (Z3P b.bins ab cb 161 [] [] (fun x=>decide (x.lo≤x.hi)) ZgS hl _ _ (fun _ _ x _=>Z9P x _ _)) ?_
 refine pur 3 rfl ?_
 refine Z2 rfl ?_ ?_<;>intro hc4
 refine sqt 1 rfl (pur 1 rfl (Z4 ?_))
 exact rtA rfl rfl rfl ⟨congrArg (Value.int .i64) (by simp_all only [ZR,Barn.check,cond_true,cond_false,Bool.not_true,Bool.not_false,Bool.not_eq_true',Bool.not_eq_false',Bool.true_or,Bool.or_true,Bool.false_or,Bool.or_false]),rfl,rfl⟩ drp
 refine Z1 (sqt 1 rfl (pur 1 rfl (Z4 ?_)))
 exact rtA rfl rfl rfl ⟨congrArg (Value.int .i64) (by simp_all only [ZR,Barn.check,cond_true,cond_false,Bool.not_true,Bool.not_false,Bool.not_eq_true',Bool.not_eq_false',Bool.true_or,Bool.or_true,Bool.false_or,Bool.or_false]),rfl,rfl⟩ drp
theorem Z1r:Z2a Tryz.prog 33=some 9:=by kernel_rfl
theorem ZeS:cal Tryz.prog 95=true:=by kernel_rfl
theorem Zif {l:List Int} {k:Nat} (h:k<l.length):na l k∈l:=by
 unfold na;rw [List.getD_eq_getElem?_getD,List.getElem?_eq_getElem h];exact List.getElem_mem h
theorem na_get {l:List Int} {k:Nat} (h:k<l.length):l[k]?=some (na l k):=by
 unfold na;rw [List.getD_eq_getElem?_getD,List.getElem?_eq_getElem h];rfl
theorem Barn.worst_range {b:Barn} (hb:b.ok) {x:HBin} (hx:x∈b.bins):b.worst x=0∨(6≤b.worst x∧b.worst x≤20):=by
 have h1:=(hb.bins x hx).2.2.2
 exact hb.rise _ (Zif (by rw [hb.len];omega))
theorem Barn.days_range {b:Barn} (hb:b.ok) {x:HBin} (hx:x∈b.bins) {w:Int} (hw:0≤w):b.days x w=1000000∨(0≤b.days x w∧b.days x w≤10):=by
 have h1:=b.worst_range hb hx
 have h2:=(hb.bins x hx).1
 unfold Barn.days Z0c
 by_cases h0:b.worst x=0
 · rw [h0];exact .inl rfl
 · rw [decide_eq_false h0,cond_false]
   by_cases h3:x.mark<w
   · rw [decide_eq_true h3,cond_true];exact .inr (by omega)
   · rw [decide_eq_false h3,cond_false]
     refine .inr ⟨Int.ediv_nonneg (by omega) (by omega),?_⟩
     have:(x.mark-w) / b.worst x<11:=Int.ediv_lt_of_lt_mul (by omega) (by omega)
     omega
theorem Z7t {l:List Int} (h:l.length≤4):(pad l).length=4:=by simp [pad];omega
theorem ZfD {l:List Int} {k:Nat} (h:k<l.length):(pad l)[k]?=l[k]?:=by unfold pad;rw [List.getElem?_append_left h]
theorem Z8H {l:List Int} {k:Nat} (h:l.length≤k) (h4:k<4):(pad l)[k]?=some 0:=by
 unfold pad
 rw [List.getElem?_append_right h,List.getElem?_replicate,if_pos (by omega)]
theorem Z2x (y:List Int) (i:Nat) (x:Int):Za (y.set i x)=(Za y).set i (.int .i64 x):=by simp [Za,List.map_set]
theorem Z4q {l:List Value} {k:Nat} {v:Value} (h:k<l.length):spl l k [v]=l.set k v:=by
 simp only [spl,List.length_singleton,List.append_assoc,List.singleton_append]
 rw [List.set_eq_take_append_cons_drop,if_pos h]
theorem ZfE {l:List Int} (h:l.length<4) (v:Int):spl (Za (pad l)) (0+l.length*1) [.int .i64 v]=Za (pad (l++[v])):=by
 rw [show 0+l.length*1=l.length by omega,Z4q (by rw [Z6,Z7t (by omega)];exact h),← Z2x]
 unfold pad
 have e:(4-l.length)=(4-(l.length+1))+1:=by omega
 rw [e,List.replicate_succ,List.set_append_right _ _ (Nat.le_refl _),Nat.sub_self,List.set_cons_zero,List.length_append,List.length_singleton,List.append_assoc]
 rfl
def stv (s:HSt):Value:=.agg (Za s).toArray
def dcs (b:Barn) (sl:Value) (lasts most:List Int) (m:Nat):List Value:=btl b sl++(Za lasts++(Za most++[.map (some m)]))
theorem Z5j {b:Barn} {sl:Value} {y z:List Int} {m:Nat} (hy:y.length=4) (hz:z.length=4):(dcs b sl y z m).length=18:=by simp [dcs,btl,hy,hz]
theorem Z6l {b:Barn} {sl:Value} {y z:List Int} {m k i:Nat} (hy:y.length=4) (hk:k<4) (e:i=9+k):(dcs b sl y z m)[i]?=some (.int .i64 (na y k)):=by
 subst e
 show (([_,_,_,_,_,_,_,_,_]++(Za y++(Za z++[.map (some m)])):List Value))[9+k]?=_
 rw [List.getElem?_append_right (by simp)]
 simp only [List.length_cons,List.length_nil,Nat.zero_add,Nat.add_sub_cancel_left]
 rw [List.getElem?_append_left (by rw [Z6];omega)]
 exact Z0z (na_get (by omega))
theorem Z5k {b:Barn} {sl:Value} {y z:List Int} {m k i:Nat} (hy:y.length=4) (hz:z.length=4) (hk:k<4) (e:i=13+k):(dcs b sl y z m)[i]?=some (.int .i64 (na z k)):=by
 subst e
 show (([_,_,_,_,_,_,_,_,_]++(Za y++(Za z++[.map (some m)])):List Value))[13+k]?=_
 rw [List.getElem?_append_right (by simp;omega)]
 simp only [List.length_cons,List.length_nil,Nat.zero_add]
 rw [List.getElem?_append_right (by rw [Z6];omega),Z6,hy,show 13+k-9-4=k by omega,List.getElem?_append_left (by rw [Z6];omega)]
 exact Z0z (na_get (by omega))
theorem Z3Z {b:Barn} {sl:Value} {y z:List Int} {m:Nat} (hy:y.length=4) (hz:z.length=4):(dcs b sl y z m)[17]?=some (.map (some m)):=by
 show (([_,_,_,_,_,_,_,_,_]++(Za y++(Za z++[.map (some m)])):List Value))[17]?=_
 rw [List.getElem?_append_right (by simp)]
 simp only [List.length_cons,List.length_nil,Nat.zero_add]
 rw [List.getElem?_append_right (by rw [Z6];omega),Z6,hy,List.getElem?_append_right (by rw [Z6];omega),Z6,hz]
 rfl
theorem Zcz {b:Barn} {sl:Value} {y z:List Int} {m k i:Nat} (v:Int) (hy:y.length=4) (hz:z.length=4) (hk:k<4) (e:i=9+k):spl (dcs b sl y z m) i [.int .i64 v]=dcs b sl (y.set k v) z m:=by
 subst e
 rw [Z4q (by rw [Z5j hy hz];omega)]
 show (([_,_,_,_,_,_,_,_,_]++(Za y++(Za z++[.map (some m)])):List Value)).set (9+k) _=[_,_,_,_,_,_,_,_,_]++(Za (y.set k v)++(Za z++[.map (some m)]))
 rw [List.set_append_right _ _ (by simp)]
 simp only [List.length_cons,List.length_nil,Nat.zero_add,Nat.add_sub_cancel_left]
 rw [List.set_append_left _ _ (by rw [Z6];omega),Z2x]
theorem ZcA {b:Barn} {sl:Value} {y z:List Int} {m k i:Nat} (v:Int) (hy:y.length=4) (hz:z.length=4) (hk:k<4) (e:i=13+k):spl (dcs b sl y z m) i [.int .i64 v]=dcs b sl y (z.set k v) m:=by
 subst e
 rw [Z4q (by rw [Z5j hy hz];omega)]
 show (([_,_,_,_,_,_,_,_,_]++(Za y++(Za z++[.map (some m)])):List Value)).set (13+k) _=[_,_,_,_,_,_,_,_,_]++(Za y++(Za (z.set k v)++[.map (some m)]))
 rw [List.set_append_right _ _ (by simp;omega)]
 simp only [List.length_cons,List.length_nil,Nat.zero_add]
 rw [List.set_append_right _ _ (by rw [Z6];omega),Z6,hy,show 13+k-9-4=k by omega,List.set_append_left _ _ (by rw [Z6];omega),Z2x]
theorem Z5K {α:Type} {l l':List α} {k:Nat} {v:α} (hl:l.length=l'.length) (h:l'[k]?=some v):(l'.take k++l.drop k).set k v=l'.take (k+1)++l.drop (k+1):=by
 have hk:k<l'.length:=(List.getElem?_eq_some_iff.1 h).1
 rw [List.set_append_right _ _ (by rw [List.length_take];omega),List.length_take,show k-min k l'.length=0 by omega,List.take_add_one,h,show l.drop k=l[k]'(by omega)::l.drop (k+1) from List.drop_eq_getElem_cons (by omega),List.set_cons_zero,List.append_assoc]
 rfl
theorem Z58 (b:Barn) (ab:Option Addr) (cb:Nat) (n:Int) (hl:b.bins.length≤9223372036854775807) (H:Z8) (R:Z5) :
    FnV Tryz.prog 162 [b.v (b.sl ab cb),.int .i64 n] H R (.bool (inB n 0 ((b.bins.length:Int)-1))):=by
 refine Ze Tryz.func162 rfl Tryz.ntmps162 rfl ?_
 refine sqt 2 rfl (bx rfl rfl rfl (fun b2=>pur 1 rfl (sqt 7 rfl (pur 1 rfl (sp rfl (PE.fA ZJ rfl) rfl (spL rfl rfl (lh Z2X rfl rfl) rfl (sp rfl (PE.lenSl Z1a rfl) rfl (sp rfl (PE.sub rfl rfl (by omega)) rfl ?_))))))))
 refine clV rfl Z2s rfl rfl (Z71 _ _ _ _ _) ?_
 refine pur 1 rfl (Z4 ?_)
 exact rtA rfl rfl rfl ⟨rfl,rfl,rfl⟩ drp
theorem Z7c (b:Barn) (ab:Option Addr) (cb:Nat) (k:Nat) (x:HBin) (hx:b.bins[k]?=some x) (hh:0≤x.hi∧x.hi≤5) (H:Z8) (R:Z5) [hB:MemRows ab 4 (brows b.bins) R] :
    FnV Tryz.prog 95 [b.v (b.sl ab cb),.int .i64 k] H R (.int .i64 (b.worst x)):=by
 have hk:=(List.getElem?_eq_some_iff.1 hx).1
 refine Ze Tryz.func95 rfl Tryz.ntmps95 rfl ?_
 refine sqt 2 rfl (bx rfl rfl rfl (fun b2=>pur 1 rfl (sqt 11 rfl (sp rfl (PE.fA ZJ rfl) rfl (spL rfl rfl (lh Z2X rfl rfl) rfl (pur 1 rfl ?_))))))
 refine Zi (a:=ab) (sz:=4) (rows:=brows b.bins) (by intro h0;simp [brows] at h0;simp [h0] at hx) (fun ba oa he=>?_)
 subst he
 refine sp rfl (PE.indexAddr ZbZ rfl rfl (by omega) (by omega)) rfl (sp rfl (PE.fA Z21 rfl) rfl (sp rfl (PE.fA Z4P rfl) rfl (spL rfl rfl (lf (j:=3) sc3 (br_get hx) rfl) rfl (sp rfl (PE.fA Z3k rfl) rfl (sp rfl (PE.indexArr Zcb rfl rfl (by omega) (by omega)) rfl (spL rfl rfl (lh sc3 rfl (by rw [show 0+2+x.hi.toNat*1=2+x.hi.toNat by omega];exact Z7V (by omega))) rfl (pur 1 rfl (Z4 ?_))))))))
 exact rtA rfl rfl rfl ⟨rfl,rfl,rfl⟩ drp
theorem Zdn (b:Barn) (ab:Option Addr) (cb:Nat) (hok:b.ok) (k:Nat) (x:HBin) (hx:b.bins[k]?=some x) (w:Int) (hw:0≤w∧w≤1000000) (H:Z8) (R:Z5) [hB:MemRows ab 4 (brows b.bins) R] :
    FnV Tryz.prog 99 [b.v (b.sl ab cb),.int .i64 k,.int .i64 w] H R (.int .i64 (b.days x w)):=by
 have hk:=(List.getElem?_eq_some_iff.1 hx).1
 have hm:=List.mem_of_getElem? hx
 have hh:=(hok.bins x hm).2.2.2
 have hmk:=(hok.bins x hm).1
 have hwr:=b.worst_range hok hm
 refine Ze Tryz.func99 rfl Tryz.ntmps99 rfl ?_
 refine sqt 2 rfl (bx rfl rfl rfl (fun b3=>pur 1 rfl (Z0 (Z3 (sqt 5 rfl (spL rfl rfl (lhA (btl b (b.sl ab cb)) Z1r rfl rfl rfl) rfl (pur 1 rfl ?_)))))))
 refine clV rfl ZeS rfl rfl (Z7c b ab cb k x hx hh _ _) ?_
 refine pur 2 rfl ?_
 refine Z2 rfl ?_ ?_<;>intro hc0<;>try simp only [cS] at hc0
 refine sqt 1 rfl (pur 1 rfl (Z4 ?_))
 exact rtA rfl rfl rfl ⟨by simp only [ZR,Barn.days,Z0c];first | (rw [dT hc0];rfl) | (rw [dF hc0,dT hc1];rfl) | (rw [dF hc0,dF (by omega)];rfl),rfl,rfl⟩ drp
 refine sqt 9 rfl (pur 1 rfl (sp rfl (PE.fA ZJ rfl) rfl (spL rfl rfl (lh Z2X rfl rfl) rfl (pur 1 rfl ?_))))
 refine Zi (a:=ab) (sz:=4) (rows:=brows b.bins) (by intro h0;simp [brows] at h0;simp [h0] at hx) (fun ba oa he=>?_)
 subst he
 refine sp rfl (PE.indexAddr ZbZ rfl rfl (by omega) (by omega)) rfl (sp rfl (PE.fA Z3l rfl) rfl (spL rfl rfl (lf sc3 (br_get hx) rfl) rfl (pur 2 rfl ?_)))
 refine Z2 rfl ?_ ?_<;>intro hc1<;>try simp only [cS] at hc1
 refine sqt 1 rfl (pur 1 rfl (Z4 ?_))
 exact rtA rfl rfl rfl ⟨by simp only [ZR,Barn.days,Z0c];first | (rw [dT hc0];rfl) | (rw [dF hc0,dT hc1];rfl) | (rw [dF hc0,dF (by omega)];rfl),rfl,rfl⟩ drp
 refine Z1 (Z0 ?_)
 refine Zb [0,1,0,7,15,31,0,127,0,0,768,2047,4095] (.tk 0 (.ld 1 (tks 2 3 (.ld 5 (.tk 6 (.tk 7 (.ld 8 (.tk 9 (.big 10 (.tk 11 (.tk 12 .done))))))))))) Zo (by kernel_rfl) ?_
 refine tk rfl (PE.fA ZJ rfl) rfl (ld rfl rfl (lh Z2X rfl rfl) rfl (Zl 1 rfl (tk rfl (PE.indexAddr ZbZ rfl rfl (by omega) (by omega)) rfl (tk rfl (PE.fA Z3l rfl) rfl (ld rfl rfl (lf sc3 (br_get hx) rfl) rfl (Zl 1 rfl (tk rfl (PE.sub rfl rfl (by omega)) rfl (ld rfl rfl (lhA (btl b (b.sl (some ⟨ba,oa,none⟩) cb)) Z1r rfl rfl rfl) rfl (Zl 1 rfl ?_)))))))))
 refine clV rfl ZeS rfl rfl (Z7c b (some ⟨ba,oa,none⟩) cb k x hx hh _ _) ?_
 refine bg (fun w hs=>⟨trivial,(lf sc3 (br_get hx) rfl) w hs,(lh Z2X rfl rfl) w hs,trivial⟩) ?_
 refine tk rfl (PE.quo rfl rfl (by omega)) rfl (Zl 1 rfl (Z4 ?_))
 exact rtA rfl rfl rfl ⟨by simp only [ZR,Barn.days,Z0c];first | (rw [dT hc0];rfl) | (rw [dF hc0,dT hc1];rfl) | (rw [dF hc0,dF (by omega)];rfl),rfl,rfl⟩ drp
theorem Zcp (b:Barn) (ab:Option Addr) (cb:Nat) (w r:Int) (t:Bool) (hw : -1000000≤w∧w≤1000000) (hr:0≤r∧r≤1000000) (hc : -1000000≤b.cool∧b.cool≤1000000) (H:Z8) (R:Z5) :
    FnV Tryz.prog 94 [b.v (b.sl ab cb),.int .i64 w,.int .i64 r,.bool t] H R (.int .i64 ((bif t then min w b.cool else w)+r)):=by
 refine Ze Tryz.func94 rfl Tryz.ntmps94 rfl ?_
 refine sqt 2 rfl (bx rfl rfl rfl (fun b4=>pur 1 rfl (Z0 (sqt 1 rfl (pur 1 rfl ?_)))))
 refine Z2 rfl ?_ ?_<;>intro hc0
 subst hc0
 refine sqr 5 rfl (pur 1 rfl (sp rfl (PE.fA Z6t rfl) rfl (spL rfl rfl (lh sc3 rfl rfl) rfl (sp rfl (PE.min rfl rfl) rfl (pur 1 rfl (sqt 4 rfl (pur 2 rfl (sp rfl (PE.add rfl rfl (by omega)) rfl (pur 1 rfl (Z4 ?_))))))))))
 exact rtA rfl rfl rfl ⟨rfl,rfl,rfl⟩ drp
 subst hc0
 refine Z1 (sqt 4 rfl (pur 2 rfl (sp rfl (PE.add rfl rfl (by omega)) rfl (pur 1 rfl (Z4 ?_)))))
 exact rtA rfl rfl rfl ⟨rfl,rfl,rfl⟩ drp
theorem ZM:Z2a Tryz.prog 140=some 4:=by kernel_rfl
theorem Z0w:arN Tryz.prog 140=some (4,1):=by kernel_rfl
theorem Zdw:cal Tryz.prog 163=true:=by kernel_rfl
theorem Zcr:cal Tryz.prog 44=true:=by kernel_rfl
theorem ZhC:cal Tryz.prog 92=true:=by kernel_rfl
theorem ZjK:cal Tryz.prog 96=true:=by kernel_rfl
theorem ZhD:cal Tryz.prog 99=true:=by kernel_rfl
theorem Z1p:ZF Tryz.prog 140=some 4:=by kernel_rfl
theorem cn3:ZF Tryz.prog 3=some 1:=by kernel_rfl
theorem Zg6:ZF Tryz.prog 39=some 4:=by kernel_rfl
theorem Z0W:ZY Tryz.prog 143 0=some 0:=by kernel_rfl
theorem Z7h:ZY Tryz.prog 143 1=some 9:=by kernel_rfl
theorem Z5q:ZY Tryz.prog 143 2=some 13:=by kernel_rfl
theorem Zil:ZP Tryz.prog 143=some [(0,9),(9,4),(13,4),(17,1)]:=by kernel_rfl
theorem Z18:slE Tryz.prog 23=some (3,1):=by kernel_rfl
theorem Z1k:Zr Tryz.prog 140=some ([.int .i64 0,.int .i64 0,.int .i64 0,.int .i64 0]):=by kernel_rfl
theorem ZiJ:Zr Tryz.prog 143=some ([.int .i64 0,.int .i64 0,.int .i64 0,.int .i64 0,.int .i64 0,.int .i64 0,.int .i64 0,.int .i64 0,.slice none 0 0,.int .i64 0,.int .i64 0,.int .i64 0,.int .i64 0,.int .i64 0,.int .i64 0,.int .i64 0,.int .i64 0,.map none]):=by kernel_rfl
theorem zl3:Zr Tryz.prog 3=some ([.int .i64 0]):=by kernel_rfl
theorem Z9q:Zr Tryz.prog 39=some ([.int .i64 0,.int .i64 0,.int .i64 0,.int .i64 0]):=by kernel_rfl
theorem Barn.map_get {b:Barn} (hok:b.ok) (f:HBin→Int) {k:Nat} {x:HBin} (hx:b.bins[k]?=some x):(pad (b.bins.map f))[k]?=some (f x):=by
 have hk:=(List.getElem?_eq_some_iff.1 hx).1
 rw [ZfD (by simpa using hk),List.getElem?_map,hx];rfl
theorem Barn.map_sml {b:Barn} (hok:b.ok) {f:HBin→Int} (hf:∀ x∈b.bins,0≤f x∧f x≤1000000):Sml (pad (b.bins.map f)) where
 len:=Z7t (by rw [List.length_map];exact hok.many.2)
 at_ k hk:=by
   unfold na
   rw [List.getD_eq_getElem?_getD]
   rcases Nat.lt_or_ge k b.bins.length with h | h
   · obtain ⟨x,hx⟩:∃ x,b.bins[k]?=some x:=⟨_,List.getElem?_eq_getElem h⟩
     rw [b.map_get hok f hx];exact hf x (List.mem_of_getElem? hx)
   · rw [Z8H (by simpa using h) hk];exact ⟨by decide,by decide⟩
theorem Barn.days_sml {b:Barn} (hb:b.ok) {x:HBin} (hx:x∈b.bins) {w:Int} (hw:0≤w):0≤b.days x w∧b.days x w≤1000000:=by
 have:=b.days_range hb hx hw;omega
theorem Barn.state_sml {b:Barn} (hb:b.ok):Sml b.state:=b.map_sml hb fun x hx=>b.days_sml hb hx (hb.bins x hx).2.1.1
theorem Barn.lasts_sml {b:Barn} (hb:b.ok):Sml b.lasts:=b.map_sml hb fun x hx=>b.days_sml hb hx hb.cool.1
theorem Barn.most_sml {b:Barn} (hb:b.ok):Sml b.most:=b.map_sml hb fun x hx=>by
 have h1:=b.days_sml hb hx (hb.bins x hx).2.1.1
 have h2:=b.days_sml hb hx hb.cool.1
 omega
theorem Z36 {m:List Int} (h:m.length=4):∃ a b c d,m=[a,b,c,d]:=by
 match m,h with
 | [a,b,c,d],_=>exact ⟨a,b,c,d,rfl⟩
theorem Z2f {l:List Int} {k:Nat} {v:Int} (h:l[k]?=some v):na l k=v:=by unfold na;rw [List.getD_eq_getElem?_getD,h];rfl
theorem Z8S {l l':List Int} {k:Nat} (hl:l.length=l'.length) (hk:k≤l.length):(l'.take k++l.drop k).length=l.length:=by simp;omega
theorem ZiA {l l':List Int} {k:Nat} {v:Int} (hl:l.length=l'.length) (h:l[k]?=some v):(l'.take k++l.drop k)[k]?=some v:=by
 have hk:=(List.getElem?_eq_some_iff.1 h).1
 rw [List.getElem?_append_right (by rw [List.length_take];omega),List.length_take,show k-min k l'.length=0 by omega,List.getElem?_drop]
 simpa using h
theorem ZiB {l l':List Int} {k:Nat} {v:Int} (hl:l.length=l'.length) (h:l'[k]?=some v):(l'.take (k+1)++l.drop (k+1))[k]?=some v:=by
 have hk:=(List.getElem?_eq_some_iff.1 h).1
 rw [List.getElem?_append_left (by rw [List.length_take];omega),List.getElem?_take,if_pos (by omega)];exact h
theorem ZbL {l l':List Int} {n:Nat} (h:l.length=n) (h':l'.length=n):(pad l').take n++(pad l).drop n=pad l':=by
 unfold pad
 rw [List.take_append_of_le_length (by omega),List.take_of_length_le (by omega),List.drop_append,List.drop_of_length_le (by omega),h,h',Nat.sub_self]
 rfl
def nxv:Option HSt→Value
 | none=>.tuple #[stv [0,0,0,0],.bool false]
 | some t=>.tuple #[stv t,.bool true]
abbrev il (l:List Nat):List Int:=l.map fun (n:Nat)=>(n:Int)
theorem Z4Z {s:List Int} {k i:Nat} {v:Int} (hs:s.length=4) (hk:k<4) (e:i=k):spl (Za s) i [.int .i64 v]=Za (s.set k v):=by
 subst e;rw [Z4q (by rw [Z6];omega),Z2x]
theorem Z5N {s:List Int} {k i:Nat} (hs:s.length=4) (hk:k<4) (e:i=k):(Za s)[i]?=some (.int .i64 (na s k)):=by
 subst e;exact Z0z (na_get (by omega))
theorem Z5a (b:Barn) (ab:Option Addr) (cb:Nat) (hok:b.ok) (H:Z8) (R:Z5) [hB:MemRows ab 4 (brows b.bins) R] :
    FnV Tryz.prog 44 [b.v (b.sl ab cb)] H R (stv b.state):=by
 refine Ze Tryz.func44 rfl Tryz.ntmps44 rfl ?_
 refine sqt 2 rfl (bx rfl rfl rfl (fun b1=>alc rfl Z1k rfl (fun b2=>sqt 1 rfl (alc rfl Z1k rfl (fun b3=>Z0 (sqt 4 rfl (sp rfl (PE.fA ZJ rfl) rfl (spL rfl rfl (lh Z2X rfl rfl) rfl (sp rfl (PE.lenSl Z1a rfl) rfl (pur 1 rfl (Z3 ?_)))))))))))
 refine Zd (ι:={k:Nat // k≤b.bins.length}) (fun k=>⟨[(1,.pointer (some ⟨b1,0,none⟩)),(2,.pointer (some ⟨b2,0,none⟩)),(3,.pointer (some ⟨b3,0,none⟩)),(7,b.sl ab cb),(8,.int .i64 b.bins.length),(9,.int .i64 k.1)],(b3,cel 140 (Za (pad ((b.bins.take k.1).map fun x=>b.days x x.warm))))::(b2,cel 140 [.int .i64 0,.int .i64 0,.int .i64 0,.int .i64 0])::(b1,cel 33 (btl b (b.sl ab cb)))::H,R⟩) (fun k=>b.bins.length-k.1) ⟨0,by omega⟩ ?_ (fun k=>?_)
 exact Zj idH
 obtain ⟨k,hk⟩:=k
 dsimp only at hk ⊢
 have hmn:=hok.many
 refine sqt 1 rfl (pur 1 rfl (Z0 ?_))
 refine Z2 rfl ?_ ?_<;>intro hc0<;>try simp only [cS] at hc0
 obtain ⟨x,hx⟩:∃ x,b.bins[k]?=some x:=⟨_,List.getElem?_eq_getElem (by omega)⟩
 have hm:=List.mem_of_getElem? hx
 have hwm:=(hok.bins x hm).2.1
 have hmk:=(hok.bins x hm).1
 have hll:((b.bins.take k).map fun x=>b.days x x.warm).length=k:=by simp;omega
 refine Zi (a:=ab) (sz:=4) (rows:=brows b.bins) (by intro h0;simp [brows] at h0;simp [h0] at hx) (fun ba oa he=>?_)
 subst he
 refine Z1 (Z0 (Z3 (sqt 6 rfl (pur 1 rfl (sp rfl (PE.indexAddr ZbZ rfl rfl (by omega) (by omega)) rfl (spL rfl rfl (lfA Zc5 (row:=brow x) (br_get hx) rfl) rfl (alc rfl Z9q rfl (fun b5=>pur 1 rfl ?_))))))))
 refine sto rfl rfl rfl Zg6 rfl rfl rfl rfl ?_
 refine sqr 8 rfl (pur 1 rfl (spL rfl rfl (lhA (btl b (b.sl (some ⟨ba,oa,none⟩) cb)) Z1r rfl rfl rfl) rfl (pur 1 rfl (sp rfl (PE.fA Z4Q rfl) rfl (spL rfl rfl (lh sc3 rfl rfl) rfl ?_)))))
 refine clV rfl ZhD rfl rfl (Zdn b (some ⟨ba,oa,none⟩) cb hok k x hx x.warm (by omega) _ _) ?_
 refine sp rfl (PE.indexArr Z0w rfl rfl (by omega) (by omega)) rfl ?_
 refine ZH (l':=Za (pad ((b.bins.take (k+1)).map fun x=>b.days x x.warm))) rfl rfl rfl cn3 rfl rfl rfl (by rw [List.take_add_one,hx,Option.toList_some,List.map_append];have:=ZfE (l:=(b.bins.take k).map fun x=>b.days x x.warm) (by omega) (b.days x x.warm);rw [hll] at this;exact this) (by rw [Z6,Z7t (by omega)];show 0+((k:Nat):Int).toNat*1+1≤4;omega) ?_
 refine sqr 2 rfl (sp rfl (PE.add rfl rfl (by omega)) rfl (pur 1 rfl ?_))
 exact Zc ⟨k+1,by omega⟩ (fun w h=>h.del b5)
 obtain rfl:k=b.bins.length:=by omega
 rw [List.take_length]
 have hsl:=(b.state_sml hok).len
 refine Z7 (Z9 (Z9 (Zk (sqt 2 rfl (spL rfl rfl (lhI b.state ZM rfl rfl (hsl)) rfl ?_)))))
 refine Z4z rfl rfl rfl Z1p rfl (by rw [Z6];exact hsl) rfl (ZA _) ?_
 refine Z4 ?_
 exact Zg (vs:=[_]) rfl (.cons (RV.cell rfl (lhI b.state ZM rfl rfl (hsl))) .nil) rfl ⟨rfl,rfl,rfl⟩ drp
theorem Zcq (b:Barn) (ab:Option Addr) (cb:Nat) (hok:b.ok) (H:Z8) (R:Z5) [hB:MemRows ab 4 (brows b.bins) R] :
    Fn Tryz.prog 96 [b.v (b.sl ab cb)] H R (fun v H' R'=>∃ bd m,v = .pointer (some ⟨bd,0,none⟩)∧H'=(m,Zz true [])::H∧R'=RowsA (some ⟨bd,0,none⟩) 18 [dcs b (b.sl ab cb) b.lasts b.most m]::R):=by
 refine Ze Tryz.func96 rfl Tryz.ntmps96 rfl ?_
 refine sqt 2 rfl (bx rfl rfl rfl (fun b1=>pur 1 rfl (Z0 ?_)))
 refine ZbI (ι:=Nat×Nat) (fun x=>⟨[(1,.pointer (some ⟨b1,0,none⟩)),(3,.pointer (some ⟨x.1,0,none⟩))],(x.1,cel 143 (dcs b (b.sl ab cb) [0,0,0,0] b.state x.2))::(x.2,Zz true [])::(b1,cel 33 (btl b (b.sl ab cb)))::H,R⟩) ?_ ?_
 refine Zb [0,0,2,0,15,31,63] (.ld 0 (.ld 1 (.any (.alt 2 (.big 3 (.tk 4 (.big 5 (.tk 6 .done)))) (.alt 3 (.big 2 (.tk 4 (.big 5 (.tk 6 .done)))) .stop))))) Zo (by kernel_rfl) ?_
 refine ld rfl rfl (lhA (btl b (b.sl ab cb)) Z1r rfl rfl rfl) rfl (ld rfl rfl (lhA (btl b (b.sl ab cb)) Z1r rfl rfl rfl) rfl ?_)
 refine Z1o ?_ ?_
 refine clV rfl Zcr rfl rfl (Z5a b ab cb hok _ _) ?_
 refine bg (fun w hs=>⟨trivial,(lhA (btl b (b.sl ab cb)) Z1r rfl rfl rfl) w hs,trivial⟩) ?_
 refine mkm rfl rfl true (fun m=>?_)
 refine bg (fun w hs=>⟨(lhA (btl b (b.sl ab cb)) Z1r rfl rfl rfl) w hs,trivial⟩) ?_
 obtain ⟨s0,s1,s2,s3,hs4⟩:=Z36 (b.state_sml hok).len
 rw [show stv b.state = .agg #[.int .i64 s0,.int .i64 s1,.int .i64 s2,.int .i64 s3] by rw [hs4];rfl]
 refine tk rfl (PE.build (out:=dcs b (b.sl ab cb) [0,0,0,0] [s0,s1,s2,s3] m) Zil ZiJ rfl rfl) rfl (bx rfl rfl rfl (fun b10=>bgT ?_))
 rw [← hs4]
 refine Zl 1 rfl ?_
 exact Z0b (b10,m) idH
 refine Z1o ?_ ?_
 refine mkm rfl rfl true (fun m=>?_)
 refine bg (fun w hs=>⟨(lhA (btl b (b.sl ab cb)) Z1r rfl rfl rfl) w hs,(lhA (btl b (b.sl ab cb)) Z1r rfl rfl rfl) w hs,trivial⟩) ?_
 refine clV rfl Zcr rfl rfl (Z5a b ab cb hok _ _) ?_
 refine bg (fun w hs=>⟨trivial,(lhA (btl b (b.sl ab cb)) Z1r rfl rfl rfl) w hs,trivial⟩) ?_
 obtain ⟨s0,s1,s2,s3,hs4⟩:=Z36 (b.state_sml hok).len
 rw [show stv b.state = .agg #[.int .i64 s0,.int .i64 s1,.int .i64 s2,.int .i64 s3] by rw [hs4];rfl]
 refine tk rfl (PE.build (out:=dcs b (b.sl ab cb) [0,0,0,0] [s0,s1,s2,s3] m) Zil ZiJ rfl rfl) rfl (bx rfl rfl rfl (fun b10=>bgT ?_))
 rw [← hs4]
 refine Zl 1 rfl ?_
 exact Z0b (b10,m) idH
 exact Z3f
 rintro ⟨b10,m⟩
 dsimp only
 refine Z0 (sqt 4 rfl (sp rfl (PE.fA ZJ rfl) rfl (spL rfl rfl (lh Z2X rfl rfl) rfl (sp rfl (PE.lenSl Z1a rfl) rfl (pur 1 rfl (Z3 ?_))))))
 have hmn:=hok.many
 have hl4:=(b.lasts_sml hok).len
 have hm4:=(b.most_sml hok).len
 have hs4:=(b.state_sml hok).len
 refine Zd (ι:={k:Nat // k≤b.bins.length}) (fun k=>⟨[(1,.pointer (some ⟨b1,0,none⟩)),(3,.pointer (some ⟨b10,0,none⟩)),(13,.int .i64 b.bins.length),(14,.int .i64 k.1)],(b10,cel 143 (dcs b (b.sl ab cb) (b.lasts.take k.1++([0,0,0,0]:List Int).drop k.1) (b.most.take k.1++b.state.drop k.1) m))::(m,Zz true [])::(b1,cel 33 (btl b (b.sl ab cb)))::H,R⟩) (fun k=>b.bins.length-k.1) ⟨0,by omega⟩ ?_ (fun k=>?_)
 exact Zj idH
 obtain ⟨k,hk⟩:=k
 dsimp only at hk ⊢
 refine sqt 1 rfl (pur 1 rfl (Z0 ?_))
 refine Z2 rfl ?_ ?_<;>intro hc0<;>try simp only [cS] at hc0
 obtain ⟨x,hx⟩:∃ x,b.bins[k]?=some x:=⟨_,List.getElem?_eq_getElem (by omega)⟩
 have hv1:b.lasts[k]?=some (b.days x b.cool):=b.map_get hok _ hx
 have hv2:b.most[k]?=some (max (b.days x x.warm) (b.days x b.cool)):=b.map_get hok _ hx
 have hv0:b.state[k]?=some (b.days x x.warm):=b.map_get hok _ hx
 have hcl:=hok.cool
 have y1:(b.lasts.take k++([0,0,0,0]:List Int).drop k).length=4:=Z8S (by rw [hl4];rfl) (by simp;omega)
 have y2:(b.lasts.take (k+1)++([0,0,0,0]:List Int).drop (k+1)).length=4:=Z8S (by rw [hl4];rfl) (by simp;omega)
 have z1:(b.most.take k++b.state.drop k).length=4:=by rw [Z8S (by rw [hm4,hs4]) (by omega)];exact hs4
 have p1:∀ {i:Nat},i=9+k→spl (dcs b (b.sl ab cb) (b.lasts.take k++([0,0,0,0]:List Int).drop k) (b.most.take k++b.state.drop k) m) i [.int .i64 (b.days x b.cool)]=dcs b (b.sl ab cb) (b.lasts.take (k+1)++([0,0,0,0]:List Int).drop (k+1)) (b.most.take k++b.state.drop k) m:=fun e=>by
   rw [Zcz _ y1 z1 (by omega) e,Z5K (by rw [hl4];rfl) hv1]
 have p2:∀ {i:Nat},i=13+k→spl (dcs b (b.sl ab cb) (b.lasts.take (k+1)++([0,0,0,0]:List Int).drop (k+1)) (b.most.take k++b.state.drop k) m) i [.int .i64 (max (b.days x x.warm) (b.days x b.cool))]=dcs b (b.sl ab cb) (b.lasts.take (k+1)++([0,0,0,0]:List Int).drop (k+1)) (b.most.take (k+1)++b.state.drop (k+1)) m:=fun e=>by
   rw [ZcA _ y2 z1 (by omega) e,Z5K (by rw [hm4,hs4]) hv2]
 have q1:∀ {i:Nat},i=9+k→(dcs b (b.sl ab cb) (b.lasts.take (k+1)++([0,0,0,0]:List Int).drop (k+1)) (b.most.take k++b.state.drop k) m)[i]?=some (.int .i64 (b.days x b.cool)):=fun e=>by
   rw [Z6l y2 (by omega) e,Z2f (ZiB (by rw [hl4];rfl) hv1)]
 have q2:∀ {i:Nat},i=13+k→(dcs b (b.sl ab cb) (b.lasts.take (k+1)++([0,0,0,0]:List Int).drop (k+1)) (b.most.take k++b.state.drop k) m)[i]?=some (.int .i64 (b.days x x.warm)):=fun e=>by
   rw [Z5k y2 z1 (by omega) e,Z2f (ZiA (by rw [hm4,hs4]) hv0)]
 refine Z1 (Z0 (Z3 (sqt 2 rfl (pur 2 rfl (Z0 ?_)))))
 refine Zb [0,0,0,0,0,16,60,1,129,511,1023] (.tk 0 (.tk 1 (.ld 2 (.tk 3 (.tk 4 (.ld 5 (.tk 7 (.tk 8 (.big 6 (.tk 9 (.big 10 .done))))))))))) Zo (by kernel_rfl) ?_
 refine Zl 2 rfl (ld rfl rfl (lhA (btl b (b.sl ab cb)) Z1r rfl rfl rfl) rfl (Zl 1 rfl (tk rfl (PE.fA Z6t rfl) rfl (ld rfl rfl (lh sc3 rfl rfl) rfl (tk rfl (PE.nilCheck rfl) rfl (tk rfl (PE.fA Z7h rfl) rfl ?_))))))
 refine clV rfl ZhD rfl rfl (Zdn b ab cb hok k x hx b.cool (by omega) _ _) ?_
 refine bgT (tk rfl (PE.indexArr Z0w rfl rfl (by omega) (by omega)) rfl ?_)
 refine ZH (l':=dcs b (b.sl ab cb) (b.lasts.take (k+1)++([0,0,0,0]:List Int).drop (k+1)) (b.most.take k++b.state.drop k) m) rfl rfl rfl cn3 rfl rfl rfl (p1 (by show 0+9+((k:Nat):Int).toNat*1=_;omega)) (by rw [Z5j y1 z1];show 0+9+((k:Nat):Int).toNat*1+1≤18;omega) ?_
 refine bgT ?_
 refine Zb [0,0,0,0,4,20,60,124,0,0,256,1280,3840,7936,16128,32764,1,65537,262143,524287] (tks 0 7 (.ld 7 (tks 8 5 (.ld 13 (.tk 16 (.tk 17 (.big 14 (.big 15 (.tk 18 (.big 19 .done)))))))))) Zo (by kernel_rfl) ?_
 refine Zl 4 rfl (tk rfl (PE.nilCheck rfl) rfl (tk rfl (PE.fA Z5q rfl) rfl (tk rfl (PE.indexArr Z0w rfl rfl (by omega) (by omega)) rfl (ld rfl rfl (lh sc3 rfl (q2 (by show 0+13+((k:Nat):Int).toNat*1=_;omega))) rfl (Zl 2 rfl (tk rfl (PE.nilCheck rfl) rfl (tk rfl (PE.fA Z7h rfl) rfl (tk rfl (PE.indexArr Z0w rfl rfl (by omega) (by omega)) rfl (ld rfl rfl (lh sc3 rfl (q1 (by show 0+9+((k:Nat):Int).toNat*1=_;omega))) rfl (tk rfl (PE.nilCheck rfl) rfl (tk rfl (PE.fA Z5q rfl) rfl ?_)))))))))))
 refine bsl (out:=[_]) rfl Z18 zl3 rfl rfl rfl rfl rfl rfl (fun b41=>?_)
 refine bg (fun w hs=>⟨trivial,(lh sc3 rfl (q2 (by show 0+13+((k:Nat):Int).toNat*1=_;omega))) w hs,trivial⟩) ?_
 refine Sy.heap (fun w h=>St.intRows (l:=[b.days x b.cool]) (h.pull b41)) ?_
 refine clV rfl Zdw rfl rfl (Z3T (b.days x x.warm) (b.days x b.cool) (some ⟨b41,0,none⟩) 1 _ _) ?_
 refine bgT (tk rfl (PE.indexArr Z0w rfl rfl (by omega) (by omega)) rfl ?_)
 refine ZH (l':=dcs b (b.sl ab cb) (b.lasts.take (k+1)++([0,0,0,0]:List Int).drop (k+1)) (b.most.take (k+1)++b.state.drop (k+1)) m) rfl rfl rfl cn3 rfl rfl rfl (p2 (by show 0+13+((k:Nat):Int).toNat*1=_;omega)) (by rw [Z5j y2 z1];show 0+13+((k:Nat):Int).toNat*1+1≤18;omega) ?_
 refine bgT (sqr 2 rfl (sp rfl (PE.add rfl rfl (by omega)) rfl (pur 1 rfl ?_)))
 exact Zc ⟨k+1,by omega⟩ (fun w h=>h.ftail)
 obtain rfl:k=b.bins.length:=by omega
 have e1:(b.lasts.take b.bins.length++([0,0,0,0]:List Int).drop b.bins.length)=b.lasts:=by
   have:=ZbL (l:=[]) (l':=[]) (n:=0) rfl rfl
   have h1:(pad (b.bins.map fun x=>b.days x b.cool)).take b.bins.length++(pad (b.bins.map fun _=>(0:Int))).drop b.bins.length=pad (b.bins.map fun x=>b.days x b.cool):=ZbL (List.length_map _) (List.length_map _)
   have h2:pad (b.bins.map fun _=>(0:Int))=[0,0,0,0]:=by
     have:∀ n,n≤4→pad (List.replicate n (0:Int))=[0,0,0,0]:=by decide
     rw [List.map_const']
     exact this _ (by omega)
   rw [h2] at h1
   exact h1
 have e2:(b.most.take b.bins.length++b.state.drop b.bins.length)=b.most:=ZbL (List.length_map _) (List.length_map _)
 rw [e1,e2]
 refine Z7 (Z9 (Z9 (Zk (sqt 2 rfl (pur 2 rfl (Z4 ?_))))))
 refine Sy.heap (fun w h=>St.rows (sz:=18) (rows:=[dcs b (b.sl ab cb) b.lasts b.most m]) (rest:=[]) (by simpa using h.pull b10) (by simp [dcs,btl,hl4,hm4])) ?_
 exact rtA rfl rfl rfl ⟨b10,m,rfl,rfl,rfl⟩ (fun w h=>h.del b1)
theorem Z2r (b:Barn) (ab:Option Addr) (cb:Nat) (hl:b.bins.length≤9223372036854775807) (hr:b.rise.length=6) (H:Z8) (R:Z5) [hB:MemRows ab 4 (brows b.bins) R] :
    Fn Tryz.prog 42 [b.v (b.sl ab cb)] H R (fun v H' R'=>(b.check≠0∧v = .tuple #[.pointer none,.int .i64 b.check]∧H'=H∧R'=R)∨(b.check=0∧∃ bd m,v = .tuple #[.pointer (some ⟨bd,0,none⟩),.int .i64 0]∧H'=(m,Zz true [])::H∧R'=RowsA (some ⟨bd,0,none⟩) 18 [dcs b (b.sl ab cb) b.lasts b.most m]::R)):=by
 refine Ze Tryz.func42 rfl Tryz.ntmps42 rfl ?_
 refine sqt 3 rfl (bx rfl rfl rfl (fun b1=>pur 2 rfl (Z0 (sqt 3 rfl (spL rfl rfl (lhA (btl b (b.sl ab cb)) Z1r rfl rfl rfl) rfl ?_)))))
 refine clV rfl ZhC rfl rfl (Z2Z b ab cb hl hr _ _) ?_
 refine pur 1 rfl (sqt 2 rfl (pur 2 rfl ?_))
 refine Z2 rfl ?_ ?_<;>intro hc0<;>try simp only [cS] at hc0
 refine sqt 3 rfl (pur 3 rfl (Z4 ?_))
 exact rtB rfl rfl rfl rfl (.inl ⟨hc0,rfl,rfl,rfl⟩) drp
 have hck:b.check=0:=by omega
 have hok:=Barn.ok_of hr hck
 refine Z1 (sqt 4 rfl (spL rfl rfl (lhA (btl b (b.sl ab cb)) Z1r rfl rfl rfl) rfl ?_))
 refine cl rfl ZjK rfl rfl (Zcq b ab cb hok _ _) ?_
 rintro _ _ _ ⟨bd,m,rfl,rfl,rfl⟩
 refine pur 2 rfl (Z4 ?_)
 exact rtB rfl rfl rfl rfl (.inr ⟨hck,bd,m,rfl,rfl,rfl⟩) (fun w h=>h.del b1)
theorem Zdq (b:Barn) (hok:b.ok) (ab:Option Addr) (cb bd m:Nat) (s:HSt) (hs:Sml s) (l:List Nat) (hl:∀ k∈l,k<b.bins.length) (hll:l.length≤1000000) (al:Option Addr) (cl:Nat) (H:Z8) (R:Z5) [hD:MemRows (some ⟨bd,0,none⟩) 18 [dcs b (b.sl ab cb) b.lasts b.most m] R] [hL:MemRows al 1 (irows (il l)) R] :
    FnV Tryz.prog 166 [.pointer (some ⟨bd,0,none⟩),stv s,.slice al l.length cl] H R (nxv (b.dsk.next s l)):=by
 refine Ze Tryz.func166 rfl Tryz.ntmps166 rfl ?_
 refine sqt 3 rfl (bx rfl rfl rfl (fun b4=>alc rfl Z1k rfl (fun b6=>pur 1 rfl (Z0 (sqt 3 rfl (pur 1 rfl (sp rfl (PE.lenSl ZD rfl) rfl (pur 1 rfl (Z3 ?_)))))))))
 have hmn:=hok.many
 have hls:=b.lasts_sml hok
 have hl4:=hls.len
 have hm4:=(b.most_sml hok).len
 refine Zd (ι:={k:Nat // k≤l.length}) (fun k=>⟨[(0,.pointer (some ⟨bd,0,none⟩)),(2,.slice al l.length cl),(4,.pointer (some ⟨b4,0,none⟩)),(6,.pointer (some ⟨b6,0,none⟩)),(11,.slice al l.length cl),(12,.int .i64 l.length),(13,.int .i64 k.1)],(b4,cel 140 (Za ((l.take k.1).foldl b.dsk.up s)))::(b6,cel 140 [.int .i64 0,.int .i64 0,.int .i64 0,.int .i64 0])::H,R⟩) (fun k=>l.length-k.1) ⟨0,by omega⟩ ?_ (fun k=>?_)
 ·
  exact Zj (fun w h=>h.perm (.swap _ _ _))
 obtain ⟨k,hk⟩:=k
 dsimp only at hk ⊢
 have hu:Sml ((l.take k).foldl b.dsk.up s):=b.dsk.ups_sml hls hs (fun j hj=>by have:=hl j (List.mem_of_mem_take hj);omega)
 refine sqt 1 rfl (pur 1 rfl (Z0 ?_))
 refine Z2 rfl ?_ ?_<;>intro hc0<;>try simp only [cS] at hc0
 obtain ⟨j,hj⟩:∃ j,l[k]?=some j:=⟨_,List.getElem?_eq_getElem (by omega)⟩
 have hjn:=hl j (List.mem_of_getElem? hj)
 have hj4:j<4:=by omega
 have eu:((l.take (k+1)).foldl b.dsk.up s)=b.dsk.up ((l.take k).foldl b.dsk.up s) j:=by rw [List.take_add_one,hj,Option.toList_some,List.foldl_append];rfl
 have hu':=b.dsk.up_sml hls hu hj4
 generalize ((l.take k).foldl b.dsk.up s)=u at hu hu' eu ⊢
 have hju:=hu.at_ j hj4
 have hjl:=hls.at_ j hj4
 refine Zi (a:=al) (sz:=1) (rows:=irows (il l)) (by intro h0;simp [il] at h0;simp [h0] at hj) (fun bl' ol' he=>?_)
 subst he
 refine Z1 (Z0 (Z3 (sqt 3 rfl (sp rfl (PE.indexAddr Z1q rfl rfl (by omega) (by omega)) rfl (spL rfl rfl (lf0 (x:=.int .i64 j) sc3 (by simp [irows,il,hj];rfl) rfl) rfl (pur 1 rfl ?_))))))
 refine Zb [0,0,2,6,0,0,16,80,240,496,1008,2046,4095,8191] (tks 0 3 (.ld 3 (tks 4 5 (.ld 9 (.big 10 (.big 11 (.tk 12 (.big 13 .done)))))))) Zo (by kernel_rfl) ?_
 refine Zl 2 rfl (tk rfl (PE.indexArr Z0w rfl rfl (by omega) (by omega)) rfl (ld rfl rfl (lh sc3 rfl (Z5N hu.len hj4 (by show 0+((j:Nat):Int).toNat*1=_;omega))) rfl (Zl 2 rfl (tk rfl (PE.nilCheck rfl) rfl (tk rfl (PE.fA Z7h rfl) rfl (tk rfl (PE.indexArr Z0w rfl rfl (by omega) (by omega)) rfl (ld rfl rfl (lfB (sz:=18) (x:=.int .i64 (na b.lasts j)) sc3 (Z6l hl4 hj4 (by show 0+9+((j:Nat):Int).toNat*1=_;omega))) rfl ?_)))))))
 refine bsl (out:=[_]) rfl Z18 zl3 rfl rfl rfl rfl rfl rfl (fun b27=>?_)
 refine bg (fun w hs=>⟨trivial,(lh sc3 rfl (Z5N hu.len hj4 (by show 0+((j:Nat):Int).toNat*1=_;omega))) w hs,trivial⟩) ?_
 refine Sy.heap (fun w h=>St.intRows (l:=[na b.lasts j]) (h.pull b27)) ?_
 refine clV rfl Zdw rfl rfl (Z3T (na u j) (na b.lasts j) (some ⟨b27,0,none⟩) 1 _ _) ?_
 refine bgT (tk rfl (PE.indexArr Z0w rfl rfl (by omega) (by omega)) rfl ?_)
 refine ZH (l':=Za (b.dsk.up u j)) rfl rfl rfl cn3 rfl rfl rfl (Z4Z hu.len hj4 (by show 0+((j:Nat):Int).toNat*1=_;omega)) (by rw [Z6,hu.len];show 0+((j:Nat):Int).toNat*1+1≤4;omega) ?_
 refine bgT (sqr 2 rfl (sp rfl (PE.add rfl rfl (by omega)) rfl (pur 1 rfl ?_)))
 exact Zc ⟨k+1,by omega⟩ (fun w h=>by dsimp only;rw [eu];exact h.ftail)
 obtain rfl:k=l.length:=by omega
 rw [List.take_length] at hu ⊢
 refine Z7 (Z9 (Z9 (Zk (Z0 (sqt 7 rfl (pur 1 rfl (sp rfl (PE.nilCheck rfl) rfl (sp rfl (PE.fA Z0W rfl) rfl (sp rfl (PE.fA ZJ rfl) rfl (spL rfl rfl (lfB (sz:=18) Z2X rfl) rfl (sp rfl (PE.lenSl Z1a rfl) rfl (pur 1 rfl (Z3 ?_)))))))))))))
 obtain ⟨u,hu0⟩:∃ u,l.foldl b.dsk.up s=u:=⟨_,rfl⟩
 rw [hu0] at hu ⊢
 refine Zd (ι:={x:Nat×HSt // x.1≤b.bins.length∧dn u x.1=some x.2}) (fun x=>⟨[(0,.pointer (some ⟨bd,0,none⟩)),(2,.slice al l.length cl),(4,.pointer (some ⟨b4,0,none⟩)),(6,.pointer (some ⟨b6,0,none⟩)),(36,.int .i64 b.bins.length),(37,.int .i64 x.1.1)],(b4,cel 140 (Za x.1.2))::(b6,cel 140 [.int .i64 0,.int .i64 0,.int .i64 0,.int .i64 0])::H,R⟩) (fun x=>b.bins.length-x.1.1) ⟨(0,u),by omega,rfl⟩ ?_ (fun x=>?_)
 exact Zj idH
 obtain ⟨⟨k,t⟩,hk,ht⟩:=x
 dsimp only at hk ht ⊢
 have htm:=ZdN hu (by omega) ht
 refine sqt 1 rfl (pur 1 rfl (Z0 ?_))
 refine Z2 rfl ?_ ?_<;>intro hc1<;>try simp only [cS] at hc1
 have hk4:k<4:=by omega
 have hkt:=htm.at_ k hk4
 refine Z1 (Z0 (Z3 (sqt 2 rfl (pur 2 rfl (Z0 (sqt 4 rfl (pur 1 rfl (sp rfl (PE.indexArr Z0w rfl rfl (by omega) (by omega)) rfl (spL rfl rfl (lh sc3 rfl (Z5N htm.len hk4 (by show 0+((k:Nat):Int).toNat*1=_;omega))) rfl (pur 1 rfl ?_))))))))))
 refine Z2 rfl ?_ ?_<;>intro hc2<;>try simp only [cS] at hc2
 have hd1:dn u (k+1)=some t:=by unfold dn;rw [ht];dsimp only;rw [dT hc2];rfl
 refine Z7 (Z9 (Zk (sqr 2 rfl (sp rfl (PE.add rfl rfl (by omega)) rfl (pur 1 rfl ?_)))))
 first | exact Zf ⟨(k+1,t),by dsimp only;omega,hd1⟩ (by dsimp only;omega) idH | exact Zf ⟨(k+1,t.set k (na t k-1)),by dsimp only;omega,hd1⟩ (by dsimp only;omega) idH
 refine Z1 (sqt 6 rfl (pur 1 rfl (sp rfl (PE.indexArr Z0w rfl rfl (by omega) (by omega)) rfl (spL rfl rfl (lh sc3 rfl (Z5N htm.len hk4 (by show 0+((k:Nat):Int).toNat*1=_;omega))) rfl (sp rfl (PE.sub rfl rfl (by omega)) rfl (sp rfl (PE.indexArr Z0w rfl rfl (by omega) (by omega)) rfl ?_))))))
 refine ZH (l':=Za (t.set k (na t k-1))) rfl rfl rfl cn3 rfl rfl rfl (Z4Z htm.len hk4 (by show 0+((k:Nat):Int).toNat*1=_;omega)) (by rw [Z6,htm.len];show 0+((k:Nat):Int).toNat*1+1≤4;omega) ?_
 refine sqt 4 rfl (pur 1 rfl (sp rfl (PE.indexArr Z0w rfl rfl (by omega) (by omega)) rfl (spL rfl rfl (lh (v:=.int .i64 (na t k-1)) sc3 rfl (by rw [Z5N (k:=k) (by rw [List.length_set];exact htm.len) hk4 (by show 0+((k:Nat):Int).toNat*1=_;omega),Z12 (by rw [htm.len];exact hk4),if_pos rfl])) rfl (pur 1 rfl ?_))))
 refine Z2 rfl ?_ ?_<;>intro hc3<;>try simp only [cS] at hc3
 have hd0:dn u (k+1)=none:=by unfold dn;rw [ht];dsimp only;rw [dF hc2,cond_false,dT hc3];rfl
 have hdn:b.dsk.next s l=none:=by unfold Dsk.next;rw [hu0];exact Zf3 (show k+1≤b.bins.length by omega) hd0
 refine sqt 3 rfl (sp rfl (PE.zero (.inr (by rw [Z0w];rfl)) Z1k) rfl ?_)
 refine sto rfl rfl rfl Z1p rfl rfl rfl rfl ?_
 refine pur 1 rfl (Z4 ?_)
 first
   | exact Zg (vs:=[_,_]) rfl (.cons (RV.cell rfl (lhA [_,_,_,_] ZM rfl rfl rfl)) (.cons (RV.tmp rfl) .nil)) rfl ⟨by rw [hdn];rfl,rfl,rfl⟩ drp
   | exact Zg (vs:=[_,_]) rfl (.cons (RV.cell rfl (lhI t ZM rfl rfl (htm.len))) (.cons (RV.tmp rfl) .nil)) rfl ⟨by rw [show b.dsk.next s l=some t by unfold Dsk.next;rw [hu0];exact ht];rfl,rfl,rfl⟩ drp
 have hd1:dn u (k+1)=some (t.set k (na t k-1)):=by unfold dn;rw [ht];dsimp only;rw [dF hc2,cond_false,dF (by omega)];rfl
 refine Z1 (sqr 2 rfl (sp rfl (PE.add rfl rfl (by omega)) rfl (pur 1 rfl ?_)))
 first | exact Zf ⟨(k+1,t),by dsimp only;omega,hd1⟩ (by dsimp only;omega) idH | exact Zf ⟨(k+1,t.set k (na t k-1)),by dsimp only;omega,hd1⟩ (by dsimp only;omega) idH
 obtain rfl:k=b.bins.length:=by omega
 refine Z7 (Z9 (Z9 (Zk (sqt 3 rfl (spL rfl rfl (lhI t ZM rfl rfl (htm.len)) rfl ?_)))))
 refine Z4z rfl rfl rfl Z1p rfl (by rw [Z6];exact htm.len) rfl (ZA _) ?_
 refine pur 1 rfl (Z4 ?_)
 first
   | exact Zg (vs:=[_,_]) rfl (.cons (RV.cell rfl (lhA [_,_,_,_] ZM rfl rfl rfl)) (.cons (RV.tmp rfl) .nil)) rfl ⟨by rw [hdn];rfl,rfl,rfl⟩ drp
   | exact Zg (vs:=[_,_]) rfl (.cons (RV.cell rfl (lhI t ZM rfl rfl (htm.len))) (.cons (RV.tmp rfl) .nil)) rfl ⟨by rw [show b.dsk.next s l=some t by unfold Dsk.next;rw [hu0];exact ht];rfl,rfl,rfl⟩ drp
end Go.Proofs.YtcfdanhklbklkaaGreat.Ht
