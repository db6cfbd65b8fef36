/- Walks of the functions of the program, and the laws that join them: what the last theorem of this claim needs, in order. -/
import Derived.Test.YtclnhdkneegfkaaGreatWs1
namespace Go.Proofs.YtclnhdkneegfkaaGreat
set_option linter.unusedSimpArgs false
set_option linter.unusedVariables false
open Go
class Pull (b:Nat) (o:outParam Obj) (H:Zf) (T:outParam Zf):Prop where
 perm:H.Perm ((b,o)::T)
instance Pull.head (b:Nat) (o:Obj) (H:Zf):Pull b o ((b,o)::H) H:=⟨.refl _⟩
instance (priority:=low) Pull.cons (b:Nat) (o:Obj) (p:Nat×Obj) (H T:Zf) [m:Pull b o H T]:Pull b o (p::H) (p::T):=⟨(m.perm.cons p).trans (.swap _ _ _)⟩
instance (priority:=low) Pull.app (b:Nat) (o:Obj) (G H T:Zf) [m:Pull b o H T]:Pull b o (G++H) (G++T):=⟨(List.Perm.append_left G m.perm).trans List.perm_middle⟩
theorem St.pull {H T:Zf} {R:Z6} {w:World} (b:Nat) {o:Obj} [m:Pull b o H T] (h:St H R w):St ((b,o)::T) R w:=h.perm m.perm
theorem St.del {H T:Zf} {R:Z6} {w:World} (b:Nat) {o:Obj} [m:Pull b o H T] (h:St H R w):St T R w:=(h.perm m.perm).tail
theorem Z0p {n:Nat} {L:Zv} {D:List Deferred} {H T:Zf} {R:Z6} {X:Act→World→Prop} (b:Nat) {o:Obj} [m:Pull b o H T] (h:Sy n L D ((b,o)::T) R X):Sy n L D H R X:=Sy.heap (fun _ hs=>hs.pull b) h
theorem Z0D (k:Nat) (z:List Value):(List.replicate k z).flatten=Z0q k z:=by
 apply List.ext_getElem?
 intro j
 unfold Z0q
 rcases Nat.eq_zero_or_pos z.length with h0 | h0
 · have hz:z=[]:=List.eq_nil_of_length_eq_zero h0
   subst hz
   simp
 by_cases hj:j<k*z.length
 · have h1:j / z.length<k:=by rw [Nat.div_lt_iff_lt_mul h0];exact hj
   have h2:j%z.length<z.length:=Nat.mod_lt _ h0
   have h3:=Z4c (sz:=z.length) (rows:=List.replicate k z) (fun r hr=>by rw [List.eq_of_mem_replicate hr]) (i:=j / z.length) (j:=j%z.length) (row:=z) (x:=z[j%z.length]) (by simp [h1]) (by simp [h2])
   rw [Nat.div_add_mod'] at h3
   rw [h3]
   simp [hj,h2]
 · have h1:((List.replicate k z).flatten)[j]?=none:=List.getElem?_eq_none (by rw [ZX (sz:=z.length) (fun r hr=>by rw [List.eq_of_mem_replicate hr]),List.length_replicate];omega)
   rw [h1]
   symm
   rw [List.getElem?_eq_none_iff]
   simp only [List.length_map,List.length_range]
   omega
theorem Z1c:∀ (l:List Int),(l.map fun z=>[Value.int .i64 z]).flatten=Zw l
 | []=>rfl
 | x::l=>by simp only [List.map_cons,List.flatten_cons,Z1c l,Zw];rfl
theorem St.intRows {b e:Nat} {l:List Int} {H:Zf} {R:Z6} {w:World} (h:St ((b,cel e (Zw l))::H) R w):St H (RowsA (some ⟨b,0,none⟩) 1 (l.map fun z=>[.int .i64 z])::R) w :=
 St.rows (e:=e) (rest:=[]) (by rw [Z1c,List.append_nil];exact h) (by simp)
theorem OSl.freeze {e sz:Nat} {rows:List (List Value)} (o:OSl e sz rows):∃ a c,o.fs = .slice a rows.length c∧∀ {H:Zf} {R:Z6} {w:World},St (o.G++H) R w→St H (RowsA a sz rows::R) w:=by
 obtain ⟨fs,G,hl,his⟩:=o
 rcases his with ⟨rfl,rfl,rfl⟩ | ⟨b,cap,junk,rfl,rfl,_,_,_⟩
 · exact ⟨none,0,rfl,fun {H R w} h=>(St.also (H:=H) (R:=R) h (f:=RowsA none sz []) (fun w' _=>fun i row hi=>by simp at hi))⟩
 · exact ⟨_,cap,rfl,fun {H R w} h=>St.rows (rest:=junk) h hl⟩
theorem Zk6 (n:Nat) (v:Value):Z0q n [v]=List.replicate n v:=by
 rw [← Z0D]
 induction n with
 | zero=>rfl
 | succ n ih=>rw [List.replicate_succ,List.flatten_cons,ih,List.replicate_succ];rfl
theorem Zgs (n:Nat):Z0q n [.int .i64 0]=Zw (List.replicate n 0):=by rw [Zk6,Zw,List.map_replicate]
theorem KV.put_mem:∀ {l:KV} {k:List Int} {v:Value} {e:List Int×Value},e∈l.put k v→e=(k,v)∨e∈l
 | [],k,v,e,h=>by simp only [KV.put,List.mem_singleton] at h;exact .inl h
 | (a,u)::l,k,v,e,h=>by
   unfold KV.put at h
   cases hc:decide (a=k)<;>rw [hc] at h
   · rcases List.mem_cons.1 h with h | h
     · exact .inr (by simp [h])
     · rcases KV.put_mem h with h | h
       · exact .inl h
       · exact .inr (by simp [h])
   · rcases List.mem_cons.1 h with h | h
     · exact .inl h
     · exact .inr (by simp [h])
def zvl (P:Program) (T:Nat):Option Value:=(P.info? T).bind (·.zero)
theorem Z5w {P:Program} {T:Nat} {v:Value} (h:zvl P T=some v) (w:World):(zeroValue T).run P w = .ok v w:=by
 unfold zvl at h
 rw [Option.bind_eq_some_iff] at h
 obtain ⟨i,hi,hz⟩:=h
 simp [zeroValue,typeInfo,program,hi,hz,Sem.run_bind,Sem.run_pure,Sem.run,Result.andThen]
section scope
variable {P:Program} {b:Frame} {a:Act} {k:List Item} {cs:List Frame} {w:World} {Q:Exit→Act→World→Prop} {F:Fence} {m:Nat}
theorem Z0U {c:Code}:step P (lone (b.atR a (.code (.scope c)::k)) cs w) = .next (lone (b.atR a (.code c::.inScope c::k)) cs w) :=
 step_lone_go (by simp [stepG,stepG.exec,Frame.atR])
theorem Z6i {c:Code}:step P (lone (b.atR a (.inScope c::k)) cs w) = .next (lone (b.atR a k) cs w) :=
 step_lone_go (by simp [stepG,stepG.exec,Frame.atR])
theorem Z9G {c:Code} (h:c.wpIn F m P (Exit.noGoto Q) a w):(Code.scope c).wpIn F m P Q a w:=by
 intro b k cs hro hb hr
 have h0:(lone (b.atR a (.code (.scope c)::k)) cs w).fenced P F:=fenced_calm hb hr rfl
 obtain ⟨e,a₁,w₁,hq,harr⟩:=h b (.inScope c::k) cs hro hb hr
 cases e with
 | normal=>exact ⟨.normal,a₁,w₁,hq,.head h0 Z0U (StepsIn.trans harr (.one (fenced_calm hb hr rfl) Z6i))⟩
 | exit id =>
   have hx:exitTo id (.inScope c::k)=exitTo id k:=by simp [exitTo]
   exact ⟨.exit id,a₁,w₁,hq,fun k' hk=>.head h0 Z0U (harr.1 k' (by rw [hx];exact hk)),
     fun hr' hk=>let ⟨k₁,h1,h2⟩:=harr.2 hr' (by rw [hx];exact hk);⟨k₁,h1,.head h0 Z0U h2⟩⟩
 | goto l=>exact hq.elim
 | ret=>exact ⟨_,a₁,w₁,hq,.of_steps (.one h0 Z0U) harr⟩
 | panic ch=>exact ⟨_,a₁,w₁,hq,.of_steps (.one h0 Z0U) harr⟩
 | outgrown=>exact ⟨_,a₁,w₁,hq,.of_steps (.one h0 Z0U) harr⟩
variable {r:Option Nat} {n:Nat} {L:Zv} {D:List Deferred} {H:Zf} {R:Z6}
theorem Ze4 {c:Code} (h:Sy n L D H R (wpc P r c (Exit.noGoto Q))):Sy n L D H R (wpc P r (.scope c) Q):=fun a w ha hd hs=>Z9G (h a w ha hd hs)
end scope
section own
variable {P:Program} {r:Option Nat} {ops:Array Oper} {n:Nat} {L:Zv} {D:List Deferred} {H:Zf} {R:Z6} {K:Act→World→Prop}
 {i d:Nat} {ty:TypeId} {pos:String} {af:Array Edge}
theorem Zgh (z:List Value) (n:Nat):(madeCells z.toArray (n*z.length)).toList=Z0q n z:=by
 simp [madeCells,Z0q]
theorem ZbN {T e s y:Nat} (hp:apT P T=some (e,s,y)) {zl:List Value} (hz:Z09 P e=some zl) {kl kc:IntKind} {l c:Nat} (hlc:l≤c) (hb:y*c≤281474976710656) (h63:c≤9223372036854775807) (w:World) :
   (Instr.makeSlice T (.int kl l) (.int kc c)).run P w = .ok (.slice (some ⟨w.heap.size,0,none⟩) l c) (w.alloc (cel e (Z0q c zl)))∧zl.length=s:=by
 unfold apT at hp
 split at hp
 case h_2=>cases hp
 rename_i e' hu
 split at hp
 case h_2=>cases hp
 rename_i i hi
 split at hp
 case h_2=>cases hp
 rename_i z hzz
 cases hzs:Nat.beq z.cells.size i.size with
 | false=>rw [hzs] at hp;cases hp
 | true =>
 rw [hzs,cond_true] at hp
 cases hp
 have hzs:=Nat.eq_of_beq_eq_true hzs
 have hzl:z.cells.toList=zl:=by
   have:Z09 P e=some z.cells.toList:=by simp [Z09,hi,hzz]
   rw [this] at hz;exact Option.some.inj hz
 have:=run_make (P:=P) w T e i z hu hi hzz kl kc l c (by omega) (by omega) (by omega) (by omega)
 refine ⟨?_,by rw [← hzl];simpa using hzs⟩
 rw [this]
 simp only [Int.toNat_natCast]
 congr 2
 unfold cel
 congr 1
 apply Array.toList_inj.1
 rw [← Zgh,← hzl]
 simp [hzs]
theorem Za0 {T e j t:TypeId} {bb:Bool} {oj:Oper} {s k:Nat} {parts:List (Nat×Operand)} {vs:List (Nat×Value)} {z out:List Value}
   (ho:ops[i]?=some ⟨some d,.buildSlice T k parts.toArray,ty,pos,af,some (j,bb)⟩) (hj:ops[j]?=some oj) (ht:oj.dst=some t) (hb:lk L t=some (.bool bb)) (hp:slE P T=some (e,s)) (hz:Z09 P e=some z) (hzs:z.length=s) (hks:Nat.ble (k*s) 16777216=true) (hs0:Nat.blt 0 (k*s)=true)
   (hx:evp L parts=some vs) (hf:Z2f (fun i=>some (i*s,s)) (Z0q k z) vs=some out) (hd:Nat.blt d n=true)
   (h:∀ b,Sy n ((d,.slice (some ⟨b,0,none⟩) k k)::L) D ((b,cel e out)::H) R K):Sy n L D H R (stp P r ops i K):=fun a w ha hD hs=>by
 unfold slE at hp
 split at hp
 · rename_i e' hu
   rw [Option.map_eq_some_iff] at hp
   obtain ⟨ie,hi,he⟩:=hp
   cases he
   obtain ⟨zv,hz1,hz2⟩:=Z1a hz
   have h3:=Z4D _ _ _ _ hf
   have e1:(parts.toArray.map fun (k,x)=>(k,a.eval x))=vs.toArray:=by rw [List.map_toArray,Z4B ha.reads _ _ hx]
   have hks':¬ (k*ie.size > 2 ^ 24):=Nat.not_lt.2 (Nat.le_of_ble_eq_true hks)
   have hs0':¬ (k*ie.size=0):=fun h0=>by rw [h0] at hs0;cases hs0
   refine ZC ho (by simp [Region.wanted,Z0b ha hj ht hb]) (v:=.slice (some ⟨w.heap.size,0,none⟩) k k) (w':=w.alloc (cel e out)) ?_ (h _ _ _ (ha.put (by simpa using hd) _) hD (hs.alloc _))
   have e2:(Array.map (fun x=>zv.cells[x%zv.cells.size]!) (Array.range (k*ie.size)))=(Z0q k z).toArray:=by
     rw [hz1,← List.toArray_range,List.map_toArray];simp only [Z0q,hzs,List.size_toArray]
   simp only [execOp,e1,Instr.buildSlice,Sem.run_bind,run_underlying hu,Result.andThen,sizeOf,typeInfo,program,hi,Sem.run,Sem.run_pure,hks',hs0',if_false,hz2,hz1]
   rw [hz1] at e2
   rw [e2,h3]
   simp [newRow,newObj,Sem.run_bind,Sem.run,Sem.run_pure,Result.andThen]
 · cases hp
theorem mkS {T e s y:Nat} {x z:Operand} {kl kc:IntKind} {l c:Nat} {zl:List Value} (ho:ops[i]?=some ⟨some d,.makeSlice T x z,ty,pos,af,none⟩) (hp:apT P T=some (e,s,y)) (hz:Z09 P e=some zl)
   (hx:ev L x=some (.int kl l)) (hy:ev L z=some (.int kc c)) (hlc:l≤c) (hb:y*c≤281474976710656∧c≤9223372036854775807) (hd:Nat.blt d n=true)
   (h:∀ b,Sy n ((d,.slice (some ⟨b,0,none⟩) l c)::L) D ((b,cel e (Z0q c zl))::H) R K):Sy n L D H R (stp P r ops i K):=fun a w ha hD hs=>by
 obtain ⟨h1,_⟩:=ZbN hp hz hlc hb.1 hb.2 (kl:=kl) (kc:=kc) w
 refine ZC ho (Zq _ rfl _) (v:=.slice (some ⟨w.heap.size,0,none⟩) l c) (w':=w.alloc (cel e (Z0q c zl))) ?_ (h _ _ _ (ha.put (by simpa using hd) _) hD (hs.alloc _))
 simp only [execOp,ha.reads _ _ hx,ha.reads _ _ hy,Sem.run_bind,h1,Result.andThen,Sem.run_pure]
theorem mkO {T e s y:Nat} {x z:Operand} {kl kc:IntKind} {c:Nat} {zl:List Value} (ho:ops[i]?=some ⟨some d,.makeSlice T x z,ty,pos,af,none⟩) (hp:apT P T=some (e,s,y)) (hz:Z09 P e=some zl)
   (hx:ev L x=some (.int kl 0)) (hy:ev L z=some (.int kc c)) (hb:y*c≤281474976710656∧c≤9223372036854775807) (hd:Nat.blt d n=true)
   (h:∀ o:OSl e s [],o.here→Sy n ((d,o.fs)::L) D (o.G++H) R K):Sy n L D H R (stp P r ops i K):=fun a w ha hD hs=>by
 obtain ⟨h1,h2⟩:=ZbN hp hz (Nat.zero_le c) hb.1 hb.2 (kl:=kl) (kc:=kc) w
 have h3:=h ⟨.slice (some ⟨w.heap.size,0,none⟩) 0 c,[(w.heap.size,cel e (Z0q c zl))],by simp,.inr ⟨w.heap.size,c,Z0q c zl,rfl,by simp,by rw [← h2];simp [Z0q],Nat.zero_le _,hb.2⟩⟩ ⟨_,_,rfl⟩
 refine ZC ho (Zq _ rfl _) (v:=.slice (some ⟨w.heap.size,0,none⟩) 0 c) (w':=w.alloc (cel e (Z0q c zl))) ?_ (h3 _ _ (ha.put (by simpa using hd) _) hD (hs.alloc _))
 simp only [execOp,ha.reads _ _ hx,ha.reads _ _ hy,Sem.run_bind,Result.andThen,Sem.run_pure]
 rw [show (Instr.makeSlice T (.int kl 0) (.int kc c)).run P w=_ from h1]
end own
section join
variable {P:Program} {r:Option Nat} {n:Nat} {L:Zv} {D:List Deferred} {H:Zf} {R:Z6} {Q:Exit→Act→World→Prop}
def Z82 {ι:Type} (n:Nat) (D:List Deferred) (hd:ι→Head) (Q:Exit→Act→World→Prop):Exit→Act→World→Prop
 | .normal,a,w=>∃ j,Z5d n D hd j a w
 | e,a,w=>Q e a w
theorem ZL {c:Code} {ι:Type} (hd:ι→Head) (h1:Sy n L D H R (wpc P r c (Z82 n D hd Q)))
   (h2:∀ j,Sy n (hd j).L D (hd j).H (hd j).R (Q .normal)):Sy n L D H R (wpc P r c Q):=fun a w ha hD hs=>by
 refine wpIn_mono (h1 a w ha hD hs) fun e a' w' he=>?_
 cases e
 case normal=>obtain ⟨j,g1,g2,g3⟩:=he;exact h2 j a' w' g1 g2 g3
 all_goals exact he
theorem ZR {ι:Type} {hd:ι→Head} (j:ι) (hL:Sub (hd j).L L) (hH:∀ w,St H R w→St (hd j).H (hd j).R w) :
 Sy n L D H R (Z82 n D hd Q .normal):=fun a w ha hD hs=>⟨j,ha.sub hL.lk,hD,hH w hs⟩
theorem ZiX {ι:Type} {hd:ι→Head} {i:Nat} (h:Sy n L D H R (Q (.exit i))):Sy n L D H R (Z82 n D hd Q (.exit i)):=h
end join
class SubF (A B:Z6):Prop where
 sub:∀ f∈A,f∈B
instance (priority:=high) SubF.refl (A:Z6):SubF A A:=⟨fun _ h=>h⟩
instance SubF.nil (B:Z6):SubF [] B:=⟨fun _ h=>by cases h⟩
instance SubF.cons (f:World→Prop) (A B:Z6) [m:MemF f B] [s:SubF A B]:SubF (f::A) B:=⟨fun g h=>by
 rcases List.mem_cons.1 h with h | h
 · rw [h];exact m.mem
 · exact s.sub g h⟩
instance (priority:=low) SubF.skip (f:World→Prop) (A B:Z6) [s:SubF A B]:SubF A (f::B):=⟨fun g h=>List.mem_cons_of_mem _ (s.sub g h)⟩
theorem St.sub {H:Zf} {A B:Z6} {w:World} [s:SubF A B] (h:St H B w):St H A w:=St.facts h s.sub
class SupH (H' H:Zf):Prop where
 sup:∃ T,H=T++H'
instance (priority:=high) SupH.refl (H:Zf):SupH H H:=⟨⟨[],rfl⟩⟩
instance SupH.cons (p:Nat×Obj) (H' H:Zf) [s:SupH H' H]:SupH H' (p::H):=⟨by obtain ⟨T,h⟩:=s.sup;exact ⟨p::T,by rw [h];rfl⟩⟩
instance SupH.app (G H' H:Zf) [s:SupH H' H]:SupH H' (G++H):=⟨by obtain ⟨T,h⟩:=s.sup;exact ⟨G++T,by rw [h,List.append_assoc]⟩⟩
theorem drp {H H':Zf} {A B:Z6} [s:SupH H' H] [f:SubF A B]:∀ w,St H B w→St H' A w:=fun w h=>by
 obtain ⟨T,e⟩:=s.sup
 rw [e] at h
 exact St.sub (St.drop h)
theorem OSl.own {e sz:Nat} {rows:List (List Value)} (o:OSl e sz rows) (h:o.here):∃ b cap junk,o.fs = .slice (some ⟨b,0,none⟩) rows.length cap∧o.G=[(b,cel e (rows.flatten++junk))]:=by
 rcases o.is with ⟨_,h2,_⟩ | ⟨b,cap,junk,h1,h2,_⟩
 · obtain ⟨b,c,h3⟩:=h
   rw [h2] at h3;cases h3
 · exact ⟨b,cap,junk,h1,h2⟩
section Zec
variable {P:Program} {r:Option Nat} {ops:Array Oper} {n:Nat} {L:Zv} {D:List Deferred} {H:Zf} {R:Z6} {K:Act→World→Prop}
 {i d:Nat} {ty:TypeId} {pos:String} {af:Array Edge}
theorem Zec {T e s:TypeId} (ho:ops[i]?=some ⟨some d,.buildSlice T 0 #[],ty,pos,af,none⟩) (hp:slE P T=some (e,s)) (hd:Nat.blt d n=true)
   (h:∀ o:OSl e s [],o.here→Sy n ((d,o.fs)::L) D (o.G++H) R K):Sy n L D H R (stp P r ops i K):=fun a w ha hD hs=>by
 unfold slE at hp
 split at hp
 · rename_i e' hu
   rw [Option.map_eq_some_iff] at hp
   obtain ⟨ie,hi,he⟩:=hp
   cases he
   refine ZC ho (Zq _ rfl _) (v:=.slice (some ⟨w.heap.size,0,none⟩) 0 0) (w':=w.alloc (cel e [])) ?_
     (h ⟨.slice (some ⟨w.heap.size,0,none⟩) 0 0,[(w.heap.size,cel e [])],by simp,.inr ⟨w.heap.size,0,[],rfl,rfl,by simp,Nat.le_refl _,by omega⟩⟩ ⟨_,_,rfl⟩ _ _ (ha.put (by simpa using hd) _) hD (hs.alloc _))
   simp only [execOp,Instr.buildSlice,Sem.run_bind,run_underlying hu,Result.andThen,sizeOf,typeInfo,program,hi,Sem.run,Sem.run_pure]
   simp [newRow,newObj,Sem.run_bind,Sem.run,Sem.run_pure,Result.andThen,Instr.fill]
   rw [show Array.range 0=(#[]:Array Nat) from Array.eq_empty_of_size_eq_zero (by simp)]
   simp
 · cases hp
end Zec
section eqnil
variable {P:Program} {L:Zv} {d:Option Tmp} {ty:TypeId} {pos:String} {af:Array Edge} {g:Option (Nat×Bool)}
theorem Zdo {P:Program} {T:Nat} (h:Z7g P T=true):∃ e,P.underlying T=some (.slice e):=by
 unfold Z7g at h
 split at h
 · exact ⟨_,by assumption⟩
 · cases h
theorem Z3l {P:Program} {T:TypeId} (hT:Z7g P T=true) (a:Option Addr) (n c m k:Nat) (w:World):(Op.equal T (.slice a n c) (.slice none m k)).run P w = .ok a.isNone w:=by
 obtain ⟨e,hu⟩:=Zdo hT
 show (Op.equalIn (9999+1) T (.slice a n c) (.slice none m k)).run P w=_
 rw [Op.equalIn]
 cases a<;>simp [Sem.run_bind,run_underlying hu,Result.andThen,Sem.run_pure]
theorem PE.eqlNil {T U:TypeId} {x y:Operand} {a:Option Addr} {n c m k:Nat} (hT:Z7g P T=true) (hx:ev L x=some (.slice a n c)) (hy:ev L y=some (.slice none m k)):PE P L ⟨d,.binOp .eql T x y U,ty,pos,af,g⟩ (.bool a.isNone):=fun ρ hρ w=>by
 have hg:∀ w,(eqGuard .eql T x y (.slice a n c) (.slice none m k)).run P w = .ok () w:=fun w=>rfl
 have hb:binOp .eql T (.slice a n c) (.slice none m k)=(do pure (.bool (← Op.equal T (.slice a n c) (.slice none m k)))):=rfl
 simp only [execOp,hρ _ _ hx,hρ _ _ hy,Sem.run_bind,hg,hb,Z3l hT,Result.andThen,Sem.run_pure]
theorem PE.neqNil {T U:TypeId} {x y:Operand} {a:Option Addr} {n c m k:Nat} (hT:Z7g P T=true) (hx:ev L x=some (.slice a n c)) (hy:ev L y=some (.slice none m k)):PE P L ⟨d,.binOp .neq T x y U,ty,pos,af,g⟩ (.bool (!a.isNone)):=fun ρ hρ w=>by
 have hg:∀ w,(eqGuard .neq T x y (.slice a n c) (.slice none m k)).run P w = .ok () w:=fun w=>rfl
 have hb:binOp .neq T (.slice a n c) (.slice none m k)=(do pure (.bool (!(← Op.equal T (.slice a n c) (.slice none m k))))):=rfl
 simp only [execOp,hρ _ _ hx,hρ _ _ hy,Sem.run_bind,hg,hb,Z3l hT,Result.andThen,Sem.run_pure]
end eqnil
section pe
variable {P:Program} {L:Zv} {d:Option Tmp} {ty:TypeId} {pos:String} {af:Array Edge} {g:Option (Nat×Bool)}
end pe
section steps
variable {P:Program} {r:Option Nat} {ops:Array Oper} {n:Nat} {L:Zv} {D:List Deferred} {H:Zf} {R:Z6} {K:Act→World→Prop}
 {i d:Nat} {ty:TypeId} {pos:String} {af:Array Edge}
theorem Z1p {P:Program} {T e s:Nat} (h:slE P T=some (e,s)):∃ i,P.underlying T=some (.slice e)∧P.info? e=some i∧i.size=s:=by
 unfold slE at h
 split at h
 · rename_i e' hu
   rw [Option.map_eq_some_iff] at h
   obtain ⟨i,hi,he⟩:=h
   cases he
   exact ⟨i,hu,hi,rfl⟩
 · cases h
theorem Z3K {P:Program} {b e:Nat} {l vs:List Value} (h1:vs.all (·.oneCell')=true) (hb:vs.length≤l.length) {w:World} (h:w.heap[b]?=some (cel e l)) :
   (storeCells ⟨b,0,none⟩ vs).run P w = .ok () { w with heap:=w.heap.setIfInBounds b (cel e (spl l 0 vs)) }:=by
 have:=run_storeCells_at (P:=P) b 0 e vs 0 l.toArray w h (by simpa using hb) (fun x hx=>List.all_eq_true.1 h1 x hx)
 rw [Z1y h] at this
 simpa [spl] using this
theorem clr {T e s:Nat} {x:Operand} {rows:List (List Value)} (o:OSl e s rows) {z:List Value} {C:Zf→Zf} {dd:Option Nat}
   (ho:ops[i]?=some ⟨dd,.call { callee:=.builtin .clear,args := #[x],argTypes := #[T] },ty,pos,af,none⟩) (hdd:dd=none) (hT:slE P T=some (e,s)) (hz:Z09 P e=some z) (hzs:z.length=s) (hz1:z.all (·.oneCell')=true)
   (hx:ev L x=some o.fs) [rp:RepF o.G H C]
   (h:∀ o':OSl e s (List.replicate rows.length z),o'.fs=o.fs→Sy n L D (C o'.G) R K):Sy n L D H R (stp P r ops i K):=fun a w ha hD hs0=>by
 subst hdd
 obtain ⟨T0,p1,p2⟩:=rp.rep
 have hs:=hs0.perm p1
 obtain ⟨ie,hu,hi,rfl⟩:=Z1p hT
 obtain ⟨zv,hzv1,hzv2⟩:=Z1a hz
 have key:∃ (o':OSl e ie.size (List.replicate rows.length z)) (w':World),o'.fs=o.fs∧(Builtin.clear_ #[T] ty #[o.fs]).run P w = .ok (.tuple #[]) w'∧St (o'.G++T0) R w':=by
   have hlz:∀ r∈List.replicate rows.length z,r.length=ie.size:=fun r hr=>by rw [(List.mem_replicate.1 hr).2];exact hzs
   rcases o.is with ⟨h1,h2,h3⟩ | ⟨b,cap,junk,h2,h3,hj,hc,hm⟩
   · subst h1
     refine ⟨OSl.nil _ _,w,by rw [h2];rfl,?_,by rw [h3] at hs;exact hs⟩
     rw [h2]
     simp [Builtin.clear_,run_underlying hu]
   · rcases Nat.eq_zero_or_pos rows.length with h0 | h0
     · have h1:rows=[]:=List.eq_nil_of_length_eq_zero h0
       subst h1
       refine ⟨⟨o.fs,o.G,by simp,.inr ⟨b,cap,junk,h2,h3,hj,hc,hm⟩⟩,w,rfl,?_,hs⟩
       rw [h2]
       simp [Builtin.clear_,run_underlying hu]
     · have hf:=ZX o.len
       have hr:(Z0q rows.length z).length=rows.length*ie.size:=by rw [← Z0D,ZX hlz];simp
       rw [h3] at hs
       have hst:=Z3K (P:=P) (e:=e) (l:=rows.flatten++junk) (vs:=Z0q rows.length z) (by
         rw [← Z0D]
         refine List.all_eq_true.2 fun v hv=>?_
         obtain ⟨q,hq,hvq⟩:=List.mem_flatten.1 hv
         rw [(List.mem_replicate.1 hq).2] at hvq
         exact List.all_eq_true.1 hz1 v hvq) (by rw [hr,List.length_append,hf];omega) (hs.held (b,cel e (rows.flatten++junk)) (by simp))
       have hspl:spl (rows.flatten++junk) 0 (Z0q rows.length z)=(List.replicate rows.length z).flatten++junk:=by
         unfold spl
         rw [List.take_zero,List.nil_append,Nat.zero_add,hr,← hf,List.drop_left,Z0D]
       rw [hspl] at hst
       refine ⟨⟨.slice (some ⟨b,0,none⟩) (List.replicate rows.length z).length cap,[(b,cel e ((List.replicate rows.length z).flatten++junk))],hlz,.inr ⟨b,cap,junk,rfl,rfl,by simpa using hj,by simpa using hc,hm⟩⟩,_,?_,?_,St.set (o:=cel e (rows.flatten++junk)) hs⟩
       · rw [h2];simp
       · obtain ⟨k,hk⟩:∃ k,rows.length=k+1:=⟨rows.length-1,by omega⟩
         have hzc:(Builtin.zeroCells zv.cells rows.length).toList=Z0q rows.length z:=by rw [hzv1];simp [Builtin.zeroCells,Z0q]
         rw [h2]
         rw [hk] at hzc hst ⊢
         simp only [Builtin.clear_,Sem.run_bind,run_underlying hu,Result.andThen,hzv2,hzc,hst,Sem.run_pure,List.getElem?_toArray,List.getElem?_cons_zero]
 obtain ⟨o',w',e1,e2,e3⟩:=key
 refine ZC ho (Zq _ rfl _) (v:=.tuple #[]) (w':=w') ?_ (h o' e1 _ _ (ha.putNone _) hD (e3.perm (p2 _)))
 simp only [execOp,resolve,invoke,builtin,Sem.run_bind,Sem.run_pure,Result.andThen,List.map_toArray,List.map_cons,List.map_nil,ha.reads _ _ hx]
 rw [e2]
theorem ZkC {T e s:Nat} {x:Operand} {m c:Nat} {dd:Option Nat} (ho:ops[i]?=some ⟨dd,.call { callee:=.builtin .clear,args := #[x],argTypes := #[T] },ty,pos,af,none⟩) (hdd:dd=none) (hT:slE P T=some (e,s))
   (hx:ev L x=some (.slice none m c)) (h:Sy n L D H R K):Sy n L D H R (stp P r ops i K):=fun a w ha hD hs=>by
 subst hdd
 obtain ⟨ie,hu,_,_⟩:=Z1p hT
 refine ZC ho (Zq _ rfl _) (v:=.tuple #[]) (w':=w) ?_ (h _ _ (ha.putNone _) hD hs)
 simp only [execOp,resolve,invoke,builtin,Sem.run_bind,Sem.run_pure,Result.andThen,List.map_toArray,List.map_cons,List.map_nil,ha.reads _ _ hx]
 have e2:(Builtin.clear_ #[T] ty #[.slice none m c]).run P w = .ok (.tuple #[]) w:=by simp [Builtin.clear_,run_underlying hu]
 rw [e2]
theorem ZkD {T e s:Nat} {x:Operand} {b k c e2:Nat} {l z:List Value} {H':Zf} {dd:Option Nat} (ho:ops[i]?=some ⟨dd,.call { callee:=.builtin .clear,args := #[x],argTypes := #[T] },ty,pos,af,none⟩) (hdd:dd=none) (hT:slE P T=some (e,s))
   (hz:Z09 P e=some z) (hzs:z.length=s) (hz1:z.all (·.oneCell')=true) (hx:ev L x=some (.slice (some ⟨b,0,none⟩) k c)) (hb:k*s≤l.length)
   [m:Mem1 b (cel e2 l) H] [rp:Rep [(b,cel e2 l)] [(b,cel e2 (spl l 0 (Z0q k z)))] H H'] (h:Sy n L D H' R K):Sy n L D H R (stp P r ops i K):=fun a w ha hD hs=>by
 subst hdd
 obtain ⟨ie,hu,hi,rfl⟩:=Z1p hT
 obtain ⟨zv,hzv1,hzv2⟩:=Z1a hz
 have hlz:∀ r∈List.replicate k z,r.length=ie.size:=fun r hr=>by rw [(List.mem_replicate.1 hr).2];exact hzs
 have hr:(Z0q k z).length=k*ie.size:=by rw [← Z0D,ZX hlz];simp
 have hst:=Z3K (P:=P) (e:=e2) (l:=l) (vs:=Z0q k z) (by
   rw [← Z0D]
   refine List.all_eq_true.2 fun v hv=>?_
   obtain ⟨q,hq,hvq⟩:=List.mem_flatten.1 hv
   rw [(List.mem_replicate.1 hq).2] at hvq
   exact List.all_eq_true.1 hz1 v hvq) (by rw [hr];exact hb) (hs.held _ m.mem)
 have hzc:(Builtin.zeroCells zv.cells k).toList=Z0q k z:=by rw [hzv1];simp [Builtin.zeroCells,Z0q]
 refine ZC ho (Zq _ rfl _) (v:=.tuple #[]) (w':={ w with heap:=w.heap.setIfInBounds b (cel e2 (spl l 0 (Z0q k z))) }) ?_ (h _ _ (ha.putNone _) hD (hs.rep (F:=[(b,cel e2 l)]) (F':=[(b,cel e2 (spl l 0 (Z0q k z)))]) fun T hT=>St.set hT))
 simp only [execOp,resolve,invoke,builtin,Sem.run_bind,Sem.run_pure,Result.andThen,List.map_toArray,List.map_cons,List.map_nil,ha.reads _ _ hx]
 have e3:(Builtin.clear_ #[T] ty #[.slice (some ⟨b,0,none⟩) k c]).run P w = .ok (.tuple #[]) { w with heap:=w.heap.setIfInBounds b (cel e2 (spl l 0 (Z0q k z))) }:=by
   rcases Nat.eq_zero_or_pos k with h0 | h0
   · subst h0
     have h4:spl l 0 (Z0q 0 z)=l:=by simp [spl,Z0q]
     have h5:w.heap.setIfInBounds b (cel e2 l)=w.heap:=by
       apply Array.ext_getElem?
       intro j
       by_cases e:b=j
       · subst e
         have hlt:b<w.heap.size:=hs.lt (Z65 m.mem)
         rw [Array.getElem?_setIfInBounds_self_of_lt hlt];exact (hs.held _ m.mem).symm
       · rw [Array.getElem?_setIfInBounds_ne e]
     rw [h4,h5]
     simp [Builtin.clear_,run_underlying hu]
   · obtain ⟨q,rfl⟩:∃ q,k=q+1:=⟨k-1,by omega⟩
     simp only [Builtin.clear_,Sem.run_bind,run_underlying hu,Result.andThen,hzv2,hzc,hst,Sem.run_pure,List.getElem?_toArray,List.getElem?_cons_zero]
 rw [e3]
end steps
def Z7f (b:Nat) (o:Obj) (R:Z6):World→Prop:=fun w=>w.heap[b]?=some o∧∀ f∈R,∀ w',Keep [b] w w'→f w'
theorem St.lend {b:Nat} {o:Obj} {T:Zf} {R:Z6} {w:World} (h:St ((b,o)::T) R w):St T (Z7f b o R::R) w where
 nd:=(List.nodup_cons.1 h.nd).2
 held p hp:=h.held p (by simp [hp])
 fact f hf w' k:=by
   have hb:b∉ids T:=(List.nodup_cons.1 h.nd).1
   have hlt:b<w.heap.size:=h.lt (by simp)
   rcases List.mem_cons.1 hf with h1 | h1
   · subst h1
     refine ⟨(k.block b hlt hb).trans (h.held (b,o) (by simp)),fun g hg w'' k2=>?_⟩
     exact h.fact g hg w'' ((k.mono (D':=ids ((b,o)::T)) (fun i _ hi=>by simp [hi])).trans (k2.mono (fun i _ hi=>by simp at hi;simp [hi])))
   · exact h.fact f h1 w' (k.mono (fun i _ hi=>by simp [hi]))
theorem St.unlend {b:Nat} {o:Obj} {T:Zf} {R R':Z6} {w:World} (h:St T (Z7f b o R::R') w) (hb:b∉ids T):St ((b,o)::T) R w where
 nd:=List.nodup_cons.2 ⟨hb,h.nd⟩
 held p hp:=by
   rcases List.mem_cons.1 hp with h1 | h1
   · subst h1;exact (h.now (f:=Z7f b o R) (by simp)).1
   · exact h.held p h1
 fact f hf w' k:=by
   have h0:=(h.now (f:=Z7f b o R) (by simp)).1
   have hlt:b<w.heap.size:=(Array.getElem?_eq_some_iff.1 h0).1
   have hlt':b<w'.heap.size:=Nat.lt_of_lt_of_le hlt k.size
   have k1:Keep (ids T) w { w' with heap:=w'.heap.setIfInBounds b o }:=⟨k.os,k.tape,k.output,by simpa using k.size,fun i hi hn=>by
     show (w'.heap.setIfInBounds b o)[i]?=_
     by_cases e:b=i
     · subst e
       rw [Array.getElem?_setIfInBounds_self_of_lt hlt',h0]
     · rw [Array.getElem?_setIfInBounds_ne e]
       exact k.block i hi (by simp;exact ⟨fun h=>e h.symm,hn⟩)⟩
   have h2:=h.fact (Z7f b o R) (by simp) _ k1
   refine h2.2 f hf w' ⟨rfl,rfl,rfl,by simp,fun i _ hn=>?_⟩
   show _=(w'.heap.setIfInBounds b o)[i]?
   rw [Array.getElem?_setIfInBounds_ne (fun e=>hn (by simp [e]))]
theorem Z2E {b e sz:Nat} {rows:List (List Value)} {junk:List Value} {w:World} (h:w.heap[b]?=some (cel e (rows.flatten++junk))) (hs:∀ r∈rows,r.length=sz):RowsA (some ⟨b,0,none⟩) sz rows w:=fun i row hi=>by
 refine ⟨hs row (List.mem_of_getElem? hi),b,0,rfl,fun j x hx=>?_⟩
 rw [Nat.zero_add,Z20 h]
 have:=Z4c hs hi hx
 rw [List.getElem?_toArray,List.getElem?_append_left (List.getElem?_eq_some_iff.1 this).1]
 exact this
theorem FnV.lend {P:Program} {f:FuncId} {args:List Value} {v:Value} {b e sz:Nat} {rows:List (List Value)} {junk:List Value} {H T:Zf} {R:Z6} [pl:Pull b (cel e (rows.flatten++junk)) H T] (hs:∀ r∈rows,r.length=sz)
   (h:∀ B:World→Prop,FnV P f args T (RowsA (some ⟨b,0,none⟩) sz rows::B::R) v):FnV P f args H R v:=fun w hw=>by
 have h1:=hw.perm pl.perm
 have hb:b∉ids T:=(List.nodup_cons.1 h1.nd).1
 have h3:St T (RowsA (some ⟨b,0,none⟩) sz rows::Z7f b (cel e (rows.flatten++junk)) R::R) w :=
   St.also h1.lend (fun w' hg=>Z2E (hg (Z7f b (cel e (rows.flatten++junk)) R) (by simp)).1 hs)
 refine CallsIn.mono (h _ w h3) ?_
 rintro e' w' ⟨u,H',R',⟨rfl,rfl,rfl⟩,he,hs'⟩
 exact ⟨_,H,R,⟨rfl,rfl,rfl⟩,he,(St.unlend hs'.ftail hb).perm pl.perm.symm⟩
theorem St.pullG {H:Zf} {R:Z6} {w:World} (F:Zf) {C:Zf→Zf} [r:RepF F H C] (h:St H R w):St (F++C []) R w:=by
 obtain ⟨T,h1,h2⟩:=r.rep
 exact h.perm (h1.trans (List.Perm.append_left F (h2 [])))
theorem Z10 {P:Program} {k:IntKind} {i:Int} {y:Nat} {c:BoundsCode} (h:0≤i∧i≤y) (w:World):(Instr.sliceBound (.int k i) y c).run P w = .ok i.toNat w:=by
 unfold Instr.sliceBound
 simp only [asIntOf,Sem.run_bind,Sem.run_pure,Result.andThen]
 rw [if_pos h];rfl
section pe
variable {P:Program} {L:Zv} {d:Option Tmp} {ty:TypeId} {pos:String} {af:Array Edge} {g:Option (Nat×Bool)}
theorem PE.slHi {T e s:Nat} {x y:Operand} {a:Option Addr} {len cap h:Nat} {k:IntKind} (hT:slE P T=some (e,s)) (hx:ev L x=some (.slice a len cap)) (hy:ev L y=some (.int k h)) (hh:h≤cap) :
   PE P L ⟨d,.slice T x none (some y) none,ty,pos,af,g⟩ (.slice a h cap):=fun ρ hρ w=>by
 obtain ⟨i,hu,hi,_⟩:=Z1p hT
 have hb:∀ c w,(Instr.sliceBound (.int k (h:Int)) cap c).run P w = .ok h w:=fun c w=>by rw [Z10 (by omega)];simp
 have e1:(if cap=0 then a else a.map (·.add (0*i.size)))=a:=by
   have:a.map (·.add (0*i.size))=a:=by
     cases a with
     | none=>rfl
     | some ad=>simp [Addr.add]
   rw [this];split<;>rfl
 simp only [execOp,hρ _ _ hx,hρ _ _ hy,Option.map_none,Option.map_some,Instr.sliceAt,Instr.slice,Sem.run_bind,run_underlying hu,Result.andThen,Sem.run_pure,Instr.sliceBounds,hb,sizeOf,typeInfo,program,hi,Sem.run]
 rw [e1];simp
theorem PE.slLH {T e s:Nat} {x y z:Operand} {b off len cap l h:Nat} {k k2:IntKind} (hT:slE P T=some (e,s)) (hx:ev L x=some (.slice (some ⟨b,off,none⟩) len cap)) (hz:ev L z=some (.int k2 l)) (hy:ev L y=some (.int k h)) (hl:l≤h) (hh:h≤cap) (hlc:l<cap) :
   PE P L ⟨d,.slice T x (some z) (some y) none,ty,pos,af,g⟩ (.slice (some ⟨b,off+l*s,none⟩) (h-l) (cap-l)):=fun ρ hρ w=>by
 obtain ⟨i,hu,hi,rfl⟩:=Z1p hT
 have hb:∀ c w,(Instr.sliceBound (.int k (h:Int)) cap c).run P w = .ok h w:=fun c w=>by rw [Z10 (by omega)];simp
 have hb2:∀ c w,(Instr.sliceBound (.int k2 (l:Int)) h c).run P w = .ok l w:=fun c w=>by rw [Z10 (by omega)];simp
 simp only [execOp,hρ _ _ hx,hρ _ _ hy,hρ _ _ hz,Option.map_none,Option.map_some,Instr.sliceAt,Instr.slice,Sem.run_bind,run_underlying hu,Result.andThen,Sem.run_pure,Instr.sliceBounds,hb,hb2,sizeOf,typeInfo,program,hi,Sem.run]
 rw [if_neg (by omega)]
 simp [Z00]
theorem PE.slLo {T e s:Nat} {x z:Operand} {b off len cap l:Nat} {k2:IntKind} (hT:slE P T=some (e,s)) (hx:ev L x=some (.slice (some ⟨b,off,none⟩) len cap)) (hz:ev L z=some (.int k2 l)) (hl:l≤len) (hlc:l<cap) :
   PE P L ⟨d,.slice T x (some z) none none,ty,pos,af,g⟩ (.slice (some ⟨b,off+l*s,none⟩) (len-l) (cap-l)):=fun ρ hρ w=>by
 obtain ⟨i,hu,hi,rfl⟩:=Z1p hT
 have hb2:∀ c w,(Instr.sliceBound (.int k2 (l:Int)) len c).run P w = .ok l w:=fun c w=>by rw [Z10 (by omega)];simp
 simp only [execOp,hρ _ _ hx,hρ _ _ hz,Option.map_none,Option.map_some,Instr.sliceAt,Instr.slice,Sem.run_bind,run_underlying hu,Result.andThen,Sem.run_pure,Instr.sliceBounds,hb2,sizeOf,typeInfo,program,hi,Sem.run]
 rw [if_neg (by omega)]
 simp [Z00]
def arE (P:Program) (T:Nat):Option (Nat×Nat):=match P.underlying T with | some (.array n e)=>some (n,e) | _=>none
theorem PE.indexI {T len e s i:Nat} {b:Bool} {x y:Operand} {k:IntKind} {l:List Int} (hT:arE P T=some (len,e)) (hE:EQ P 10000 b e s) (hs:b=false→s=1) (hx:ev L x=some (.agg (Zw l).toArray)) (hy:ev L y=some (.int k i)) (hi:i<len) (hl:i*s+s≤l.length) :
   PE P L ⟨d,.index T x y,ty,pos,af,g⟩ (mkv b ((l.drop (i*s)).take s)):=fun ρ hρ w=>by
 unfold arE at hT
 split at hT
 · rename_i n e' hu
   cases hT
   have hsz:=Z6e hE.1.1
   have hp:=Z29 hE hs l (i*s) hl
   simp only [execOp,hρ _ _ hx,hρ _ _ hy,Instr.index,asIntOf,Sem.run_bind,Sem.run_pure,run_underlying hu,Result.andThen]
   rw [if_pos ⟨by omega,by omega⟩]
   simp only [Sem.run_bind,hsz,Result.andThen,Int.toNat_natCast,hp,Sem.run_pure]
 · cases hT
end pe
theorem ZbJ {a:Option Addr} {sz:Nat} {rows:List (List Value)} {w:World} (h:RowsA a sz rows w) (n:Nat):RowsA a sz (rows.take n) w:=fun i row hi=>by
 rw [List.getElem?_take] at hi
 split at hi
 · exact h i row hi
 · cases hi
theorem St.rowsTake {a:Option Addr} {sz:Nat} {rows:List (List Value)} {H:Zf} {R:Z6} {w:World} [m:MemRows a sz rows R] (h:St H R w) (n:Nat):St H (RowsA a sz (rows.take n)::R) w:=h.also fun _ hg=>ZbJ (hg _ m.mem) n
section calls
variable {P:Program} {r:Option Nat} {ops:Array Oper} {n:Nat} {L:Zv} {D:List Deferred} {H:Zf} {R:Z6} {K:Act→World→Prop}
 {i:Nat} {ty:TypeId} {pos:String} {af:Array Edge}
end calls
theorem FnV.app {P:Program} {f:FuncId} {a:List Value} {G G2 H:Zf} {R:Z6} {v:Value} (h:FnV P f a ((G++G2)++H) R v):FnV P f a (G++(G2++H)) R v:=by rw [← List.append_assoc];exact h
theorem Yd.app {P:Program} {l:Nat} {a:List Value} {G G2 H:Zf} {R:Z6} {Q:Value→Zf→Z6→Prop} (h:Yd P l a ((G++G2)++H) R Q):Yd P l a (G++(G2++H)) R Q:=by rw [← List.append_assoc];exact h
theorem Yd.mono {P:Program} {l:Nat} {a:List Value} {H:Zf} {R:Z6} {Q Q':Value→Zf→Z6→Prop} (h:Yd P l a H R Q) (hq:∀ v H' R',Q v H' R'→Q' v H' R'):Yd P l a H R Q':=fun w hs=>by
 obtain ⟨f,tm,asg,bo,h1,h2⟩:=h w hs
 exact ⟨f,tm,asg,bo,h1,RoundIn.mono h2 fun e w' ⟨v,H',R',q,he,hs'⟩=>⟨v,H',R',hq _ _ _ q,he,hs'⟩⟩
theorem Z38 {n:Int} (h0 : -9223372036854775808≤n) (h1:n≤9223372036854775807):IntKind.i64.wrap n=n:=by
 have e:IntKind.i64.wrap n=if n%18446744073709551616≥9223372036854775808 then n%18446744073709551616-18446744073709551616 else n%18446744073709551616:=by
   unfold IntKind.wrap
   simp [IntKind.signed,IntKind.bits]
 rw [e]
 split<;>omega
section pe
variable {P:Program} {L:Zv} {d:Option Tmp} {ty:TypeId} {pos:String} {af:Array Edge} {g:Option (Nat×Bool)}
theorem ZdP {op:BinOp} {T:TypeId} {k:IntKind} {m n:Int} (hop:op = .and∨op = .or∨op = .xor∨op = .andNot):binOp op T (.int k m) (.int k n)=Op.intBits op k m n:=by
 rcases hop with rfl | rfl | rfl | rfl<;>simp [binOp]
theorem PE.bits {op:BinOp} {T U:TypeId} {x y:Operand} {k:IntKind} {m n:Int} {v:Value} (hop:op = .and∨op = .or∨op = .xor∨op = .andNot) (hx:ev L x=some (.int k m)) (hy:ev L y=some (.int k n))
   (h:∀ w,(Op.intBits op k m n).run P w = .ok v w):PE P L ⟨d,.binOp op T x y U,ty,pos,af,g⟩ v:=fun ρ hρ w=>by
 have hg:∀ w,(eqGuard op T x y (.int k m) (.int k n)).run P w = .ok () w:=fun w=>by rcases hop with rfl | rfl | rfl | rfl<;>rfl
 simp only [execOp,hρ _ _ hx,hρ _ _ hy,Sem.run_bind,hg,ZdP hop,h,Result.andThen,Sem.run_pure]
end pe
section steps
variable {P:Program} {r:Option Nat} {ops:Array Oper} {n:Nat} {L:Zv} {D:List Deferred} {H:Zf} {R:Z6} {K:Act→World→Prop}
 {bm:List Nat} {X:Act→World→Prop} {p:Plan} {pend:Z42}
 {i d:Nat} {op:Op} {ty:TypeId} {pos:String} {af:Array Edge}
end steps
section pe
variable {P:Program} {L:Zv} {d:Option Tmp} {ty:TypeId} {pos:String} {af:Array Edge} {g:Option (Nat×Bool)}
theorem PE.shlN {T U:TypeId} {x y:Operand} {m:Nat} {k:Int} {n:Nat} {q:IntKind} (hx:ev L x=some (.int .i64 k)) (hy:ev L y=some (.int q (n:Int))) (hk:k=(m:Int)) (hn:n≤62) (hb:m*2 ^ n≤9223372036854775807) :
   PE P L ⟨d,.binOp .shl T x y U,ty,pos,af,g⟩ (.int .i64 ((m*2 ^ n:Nat):Int)):=fun ρ hρ w=>by
 subst hk
 have hg:∀ w,(eqGuard .shl T x y (.int .i64 (m:Int)) (.int q (n:Int))).run P w = .ok () w:=fun w=>rfl
 have hbo:binOp .shl T (.int .i64 (m:Int)) (.int q (n:Int))=Op.shift .shl .i64 m q n:=by simp [binOp]
 have hs:∀ w,(Op.shift .shl .i64 (m:Int) q (n:Int)).run P w = .ok (.int .i64 ((m*2 ^ n:Nat):Int)) w:=fun w=>by
   unfold Op.shift
   rw [if_neg (by omega)]
   have e:Min.min ((n:Int).toNat) (IntKind.i64.bits)=n:=by
     have:IntKind.i64.bits=64:=rfl
     rw [this,Int.toNat_natCast];omega
   have e2:((m:Int)*2 ^ n)=((m*2 ^ n:Nat):Int):=by push_cast;rfl
   show Result.ok (Value.int .i64 (IntKind.i64.wrap ((m:Int)*2 ^ (Min.min ((n:Int).toNat) (IntKind.i64.bits))))) w=_
   rw [e,e2,Z38 (by omega) (by omega)]
 simp only [execOp,hρ _ _ hx,hρ _ _ hy,Sem.run_bind,hg,hbo,hs,Result.andThen,Sem.run_pure]
theorem PE.shrN {T U:TypeId} {x y:Operand} {m n:Nat} {q:IntKind} (hx:ev L x=some (.int .i64 (m:Int))) (hy:ev L y=some (.int q (n:Int))) (hn:n≤64) :
   PE P L ⟨d,.binOp .shr T x y U,ty,pos,af,g⟩ (.int .i64 ((m>>>n:Nat):Int)):=fun ρ hρ w=>by
 have hg:∀ w,(eqGuard .shr T x y (.int .i64 (m:Int)) (.int q (n:Int))).run P w = .ok () w:=fun w=>rfl
 have hbo:binOp .shr T (.int .i64 (m:Int)) (.int q (n:Int))=Op.shift .shr .i64 m q n:=by simp [binOp]
 have hs:∀ w,(Op.shift .shr .i64 (m:Int) q (n:Int)).run P w = .ok (.int .i64 ((m>>>n:Nat):Int)) w:=fun w=>by
   unfold Op.shift
   rw [if_neg (by omega)]
   have e:Min.min ((n:Int).toNat) (IntKind.i64.bits)=n:=by
     have:IntKind.i64.bits=64:=rfl
     rw [this,Int.toNat_natCast];omega
   show Result.ok (Value.int .i64 ((m:Int).fdiv (2 ^ (Min.min ((n:Int).toNat) (IntKind.i64.bits))))) w=_
   rw [e,Int.fdiv_eq_ediv_of_nonneg _ (Int.pow_nonneg (by omega)),Nat.shiftRight_eq_div_pow]
   congr 2
 simp only [execOp,hρ _ _ hx,hρ _ _ hy,Sem.run_bind,hg,hbo,hs,Result.andThen,Sem.run_pure]
theorem Z3i {m:Nat} (h:m≤9223372036854775807):(BitVec.ofInt 64 (m:Int)).toNat=m:=by
 rw [BitVec.toNat_ofInt];omega
theorem PE.andN {T U:TypeId} {x y:Operand} {m n:Nat} {k:Int} (hx:ev L x=some (.int .i64 (m:Int))) (hy:ev L y=some (.int .i64 k)) (hk:k=(n:Int)) (hm:m≤9223372036854775807) (hn:n≤9223372036854775807) :
   PE P L ⟨d,.binOp .and T x y U,ty,pos,af,g⟩ (.int .i64 ((m&&&n:Nat):Int)):=by
 subst hk
 refine PE.bits (by simp) hx hy (fun w=>?_)
 show Result.ok (Value.int .i64 (IntKind.i64.wrap ((BitVec.ofInt 64 (m:Int)&&&BitVec.ofInt 64 (n:Int)).toNat:Int))) w=_
 have:m&&&n≤m:=Nat.and_le_left
 rw [BitVec.toNat_and,Z3i hm,Z3i hn,Z38 (by omega) (by omega)]
theorem PE.orN {T U:TypeId} {x y:Operand} {m n:Nat} (hx:ev L x=some (.int .i64 (m:Int))) (hy:ev L y=some (.int .i64 (n:Int))) (hm:m<2 ^ 62) (hn:n<2 ^ 62) :
   PE P L ⟨d,.binOp .or T x y U,ty,pos,af,g⟩ (.int .i64 ((m|||n:Nat):Int)):=by
 refine PE.bits (by simp) hx hy (fun w=>?_)
 show Result.ok (Value.int .i64 (IntKind.i64.wrap ((BitVec.ofInt 64 (m:Int)|||BitVec.ofInt 64 (n:Int)).toNat:Int))) w=_
 have:m|||n<2 ^ 62:=Nat.or_lt_two_pow hm hn
 rw [BitVec.toNat_or,Z3i (by omega),Z3i (by omega),Z38 (by omega) (by omega)]
theorem Z1V (m k:Nat):decide (((((m>>>k)&&&1:Nat)):Int)=1)=m.testBit k:=by
 rw [Nat.testBit,Nat.and_comm]
 have:1&&&(m>>>k)=(m>>>k)%2:=by rw [Nat.and_comm,Nat.and_one_is_mod]
 rw [this]
 have h2:=Nat.mod_lt (m>>>k) (show 0<2 by decide)
 rcases Nat.lt_or_ge ((m>>>k)%2) 1 with h | h
 · have:(m>>>k)%2=0:=by omega
   rw [this];rfl
 · have:(m>>>k)%2=1:=by omega
   rw [this];rfl
end pe
section look
variable {P:Program} {r:Option Nat} {ops:Array Oper} {n:Nat} {L:Zv} {D:List Deferred} {H:Zf} {R:Z6} {K:Act→World→Prop}
 {bm:List Nat} {X:Act→World→Prop} {p:Plan} {pend:Z42} {i d:Nat} {ty:TypeId} {pos:String} {af:Array Edge}
theorem ZkU {T:TypeId} {x y:Operand} {vx vy v:Value} {c:Bool} {j t:Nat} {b:Bool} {oj:Oper} (ho:ops[i]?=some ⟨some d,.lookup T x y c,ty,pos,af,some (j,b)⟩) (hj:ops[j]?=some oj) (ht:oj.dst=some t) (hb:lk L t=some (.bool b)) (hx:ev L x=some vx) (hy:ev L y=some vy)
   (hl:∀ w,St H R w→Lkp P T vx vy c v w) (hd:Nat.blt d n=true) (h:Sy n ((d,v)::L) D H R K):Sy n L D H R (stp P r ops i K):=fun a w ha hD hs =>
 ZC ho (by simp [Region.wanted,Z0b ha hj ht hb]) (Z28 ha.reads hx hy (hl w hs)) (h _ w (ha.put (by simpa using hd) v) hD hs)
end look
section nested
variable {P:Program} {n:Nat} {L:Zv} {D:List Deferred} {H:Zf} {R:Z6} {Q:Exit→Act→World→Prop}
end nested
theorem ZdR {P:Program} {ax:Option Addr} {s dl sc:Nat} {rows:List (List Value)} {w:World} (hr:RowsA ax s rows w) (hl:∀ q∈rows,q.length=s) (hle:rows.length≤dl) :
   (Builtin.firstCells s (Nat.min rows.length dl) (.slice ax rows.length sc)).run P w = .ok rows.flatten.toArray w:=by
 rw [show Nat.min rows.length dl=rows.length from Nat.min_eq_left hle]
 have hf:=ZX hl
 match ax,hr with
 | none,hr =>
   match rows,hr with
   | [],_=>rfl
   | q::qs,hr =>
     obtain ⟨_,b,off,h,_⟩:=hr 0 q rfl
     cases h
 | some a,hr =>
   have hc:∀ j v,rows.flatten[j]?=some v→w.cell? (a.add j)=some v:=by
     match rows,hr with
     | [],_=>intro j v h;simp at h
     | q::qs,hr =>
       obtain ⟨_,b,off,h,_⟩:=hr 0 q rfl
       cases h
       intro j v h
       rw [Z00];exact Z3k hr j v h
   have:=run_loadCells_list (P:=P) w a rows.flatten hc
   rw [hf] at this
   exact this
section steps
variable {P:Program} {r:Option Nat} {ops:Array Oper} {n:Nat} {L:Zv} {D:List Deferred} {H:Zf} {R:Z6} {K:Act→World→Prop}
 {i d:Nat} {ty:TypeId} {pos:String} {af:Array Edge}
theorem ZkJ {T T2 e s:Nat} {x y:Operand} {b dl dc sc e2:Nat} {l:List Value} {ax:Option Addr} {rows:List (List Value)} {H':Zf}
   (ho:ops[i]?=some ⟨some d,.call { callee:=.builtin .copy,args := #[x,y],argTypes := #[T,T2] },ty,pos,af,none⟩) (hT:slE P T=some (e,s))
   (hx:ev L x=some (.slice (some ⟨b,0,none⟩) dl dc)) (hy:ev L y=some (.slice ax rows.length sc)) [mr:MemRows ax s rows R] (hl:∀ q∈rows,q.length=s) (hle:rows.length≤dl)
   (h1:rows.flatten.all (·.oneCell')=true) (hb:rows.flatten.length≤l.length) (hd:Nat.blt d n=true)
   [m:Mem1 b (cel e2 l) H] [rp:Rep [(b,cel e2 l)] [(b,cel e2 (spl l 0 rows.flatten))] H H']
   (h:Sy n ((d,.int .i64 rows.length)::L) D H' R K):Sy n L D H R (stp P r ops i K):=fun a w ha hD hs=>by
 obtain ⟨ie,hu,hi,rfl⟩:=Z1p hT
 have hr:=ZdR (P:=P) (sc:=sc) (hs.now mr.mem) hl hle
 have hst:(storeCells ⟨b,0,none⟩ rows.flatten).run P w = .ok () { w with heap:=w.heap.setIfInBounds b (cel e2 (spl l 0 rows.flatten)) }:=Z3K (P:=P) (e:=e2) h1 hb (hs.held _ m.mem)
 refine ZC ho (Zq _ rfl _) (v:=.int .i64 rows.length) (w':={ w with heap:=w.heap.setIfInBounds b (cel e2 (spl l 0 rows.flatten)) }) ?_
   (h _ _ (ha.put (by simpa using hd) _) hD (hs.rep (F:=[(b,cel e2 l)]) (F':=[(b,cel e2 (spl l 0 rows.flatten))]) fun T hT=>St.set hT))
 simp only [execOp,resolve,invoke,builtin,Sem.run_bind,Sem.run_pure,Result.andThen,List.map_toArray,List.map_cons,List.map_nil,ha.reads _ _ hx,ha.reads _ _ hy]
 have e1:(Builtin.copy_ #[T,T2] ty #[.slice (some ⟨b,0,none⟩) dl dc,.slice ax rows.length sc]).run P w = .ok (goInt (rows.length:Nat)) { w with heap:=w.heap.setIfInBounds b (cel e2 (spl l 0 rows.flatten)) }:=by
   have e3:(Builtin.firstCells ie.size rows.length (.slice ax rows.length sc)).run P w = .ok rows.flatten.toArray w:=by
     rw [show Nat.min rows.length dl=rows.length from Nat.min_eq_left hle] at hr;exact hr
   simp [Builtin.copy_,run_underlying hu,Builtin.lenOf,sizeOf,typeInfo,hi,e3,hst,Nat.min_eq_left hle]
 rw [e1]
 rfl
end steps
section pe
variable {P:Program} {L:Zv} {d:Option Tmp} {ty:TypeId} {pos:String} {af:Array Edge} {g:Option (Nat×Bool)}
theorem PE.slLoA {T e s:Nat} {x z:Operand} {a:Option Addr} {len cap l:Nat} {k2:IntKind} (hT:slE P T=some (e,s)) (hx:ev L x=some (.slice a len cap)) (hz:ev L z=some (.int k2 l)) (hl:l≤len) :
   PE P L ⟨d,.slice T x (some z) none none,ty,pos,af,g⟩ (.slice (if cap=l then a else a.map (·.add (l*s))) (len-l) (cap-l)):=fun ρ hρ w=>by
 obtain ⟨i,hu,hi,rfl⟩:=Z1p hT
 have hb2:∀ c w,(Instr.sliceBound (.int k2 (l:Int)) len c).run P w = .ok l w:=fun c w=>by rw [Z10 (by omega)];simp
 simp only [execOp,hρ _ _ hx,hρ _ _ hz,Option.map_none,Option.map_some,Instr.sliceAt,Instr.slice,Sem.run_bind,run_underlying hu,Result.andThen,Sem.run_pure,Instr.sliceBounds,hb2,sizeOf,typeInfo,program,hi,Sem.run]
def fTy (P:Program) (T k:Nat):Option (Nat×Nat):=match P.underlying T with
 | some (.struct fs)=>fs[k]?.map fun f=>(f.type,f.offset)
 | _=>none
end pe
theorem Z3L {P:Program} {b e od:Nat} {l vs:List Value} (h1:vs.all (·.oneCell')=true) (hb:od+vs.length≤l.length) {w:World} (h:w.heap[b]?=some (cel e l)) :
   (storeCells ⟨b,od,none⟩ vs).run P w = .ok () { w with heap:=w.heap.setIfInBounds b (cel e (spl l od vs)) }:=by
 have:=run_storeCells_at (P:=P) b od e vs 0 l.toArray w h (by simpa using hb) (fun x hx=>List.all_eq_true.1 h1 x hx)
 rw [Z1y h] at this
 simpa [spl] using this
section steps
variable {P:Program} {r:Option Nat} {ops:Array Oper} {n:Nat} {L:Zv} {D:List Deferred} {H:Zf} {R:Z6} {K:Act→World→Prop}
 {i d:Nat} {ty:TypeId} {pos:String} {af:Array Edge}
theorem Zkn {T e s:Nat} {x:Operand} {b od k c e2:Nat} {l z:List Value} {H':Zf} {dd:Option Nat} (ho:ops[i]?=some ⟨dd,.call { callee:=.builtin .clear,args := #[x],argTypes := #[T] },ty,pos,af,none⟩) (hdd:dd=none) (hT:slE P T=some (e,s))
   (hz:Z09 P e=some z) (hzs:z.length=s) (hz1:z.all (·.oneCell')=true) (hx:ev L x=some (.slice (some ⟨b,od,none⟩) k c)) (hb:od+k*s≤l.length)
   [m:Mem1 b (cel e2 l) H] [rp:Rep [(b,cel e2 l)] [(b,cel e2 (spl l od (Z0q k z)))] H H'] (h:Sy n L D H' R K):Sy n L D H R (stp P r ops i K):=fun a w ha hD hs=>by
 subst hdd
 obtain ⟨ie,hu,hi,rfl⟩:=Z1p hT
 obtain ⟨zv,hzv1,hzv2⟩:=Z1a hz
 have hlz:∀ r∈List.replicate k z,r.length=ie.size:=fun r hr=>by rw [(List.mem_replicate.1 hr).2];exact hzs
 have hr:(Z0q k z).length=k*ie.size:=by rw [← Z0D,ZX hlz];simp
 have hst:=Z3L (P:=P) (e:=e2) (l:=l) (vs:=Z0q k z) (by
   rw [← Z0D]
   refine List.all_eq_true.2 fun v hv=>?_
   obtain ⟨q,hq,hvq⟩:=List.mem_flatten.1 hv
   rw [(List.mem_replicate.1 hq).2] at hvq
   exact List.all_eq_true.1 hz1 v hvq) (by rw [hr];exact hb) (hs.held _ m.mem)
 have hzc:(Builtin.zeroCells zv.cells k).toList=Z0q k z:=by rw [hzv1];simp [Builtin.zeroCells,Z0q]
 refine ZC ho (Zq _ rfl _) (v:=.tuple #[]) (w':={ w with heap:=w.heap.setIfInBounds b (cel e2 (spl l od (Z0q k z))) }) ?_ (h _ _ (ha.putNone _) hD (hs.rep (F:=[(b,cel e2 l)]) (F':=[(b,cel e2 (spl l od (Z0q k z)))]) fun T hT=>St.set hT))
 simp only [execOp,resolve,invoke,builtin,Sem.run_bind,Sem.run_pure,Result.andThen,List.map_toArray,List.map_cons,List.map_nil,ha.reads _ _ hx]
 have e3:(Builtin.clear_ #[T] ty #[.slice (some ⟨b,od,none⟩) k c]).run P w = .ok (.tuple #[]) { w with heap:=w.heap.setIfInBounds b (cel e2 (spl l od (Z0q k z))) }:=by
   rcases Nat.eq_zero_or_pos k with h0 | h0
   · subst h0
     have h4:spl l od (Z0q 0 z)=l:=by simp [spl,Z0q]
     have h5:w.heap.setIfInBounds b (cel e2 l)=w.heap:=by
       apply Array.ext_getElem?
       intro j
       by_cases e:b=j
       · subst e
         have hlt:b<w.heap.size:=hs.lt (Z65 m.mem)
         rw [Array.getElem?_setIfInBounds_self_of_lt hlt];exact (hs.held _ m.mem).symm
       · rw [Array.getElem?_setIfInBounds_ne e]
     rw [h4,h5]
     simp [Builtin.clear_,run_underlying hu]
   · obtain ⟨q,rfl⟩:∃ q,k=q+1:=⟨k-1,by omega⟩
     simp only [Builtin.clear_,Sem.run_bind,run_underlying hu,Result.andThen,hzv2,hzc,hst,Sem.run_pure,List.getElem?_toArray,List.getElem?_cons_zero]
 rw [e3]
end steps
section dag
variable {P:Program} {r:Option Nat} {ops:Array Oper} {bm:List Nat} {X:Act→World→Prop} {n:Nat} {L:Zv} {D:List Deferred} {H:Zf} {R:Z6} {p:Plan} {pend:Z42}
end dag
section pe
variable {P:Program} {L:Zv} {d:Option Tmp} {ty:TypeId} {pos:String} {af:Array Edge} {g:Option (Nat×Bool)}
theorem PE.slLHM {T e s:Nat} {x y z q:Operand} {a:Option Addr} {len cap l h mx:Nat} {k k2 k3:IntKind} (hT:slE P T=some (e,s)) (hx:ev L x=some (.slice a len cap)) (hz:ev L z=some (.int k2 l)) (hy:ev L y=some (.int k h)) (hq:ev L q=some (.int k3 mx)) (hl:l≤h) (hh:h≤mx) (hm:mx≤cap) :
   PE P L ⟨d,.slice T x (some z) (some y) (some q),ty,pos,af,g⟩ (.slice (if mx=l then a else a.map (·.add (l*s))) (h-l) (mx-l)):=fun ρ hρ w=>by
 obtain ⟨i,hu,hi,rfl⟩:=Z1p hT
 have hb:∀ c w,(Instr.sliceBound (.int k3 (mx:Int)) cap c).run P w = .ok mx w:=fun c w=>by rw [Z10 (by omega)];simp
 have hb1:∀ c w,(Instr.sliceBound (.int k (h:Int)) mx c).run P w = .ok h w:=fun c w=>by rw [Z10 (by omega)];simp
 have hb2:∀ c w,(Instr.sliceBound (.int k2 (l:Int)) h c).run P w = .ok l w:=fun c w=>by rw [Z10 (by omega)];simp
 simp only [execOp,hρ _ _ hx,hρ _ _ hy,hρ _ _ hz,hρ _ _ hq,Option.map_some,Instr.sliceAt,Instr.slice,Sem.run_bind,run_underlying hu,Result.andThen,Sem.run_pure,Instr.sliceBounds,hb,hb1,hb2,sizeOf,typeInfo,program,hi,Sem.run]
end pe
section steps
variable {P:Program} {r:Option Nat} {ops:Array Oper} {n:Nat} {L:Zv} {D:List Deferred} {H:Zf} {R:Z6} {K:Act→World→Prop}
 {i d:Nat} {ty:TypeId} {pos:String} {af:Array Edge}
theorem apI {t e sz b i' cap k c e2:Nat} {s x:Operand} {l:List Value} {ax:Addr} (news:List Value) {H':Zf} (ho:ops[i]?=some ⟨some d,.call { callee:=.builtin .append,args := #[s,x],argTypes := #[t,t] },ty,pos,af,none⟩)
   (hT:slE P t=some (e,sz)) (hs:ev L s=some (.slice (some ⟨b,0,none⟩) i' cap)) (hx:ev L x=some (.slice (some ax) k c)) (hn:news.length=k*sz)
   (hsrc:∀ w,St H R w→∀ j v,news[j]?=some v→w.cell? (ax.add j)=some v) (h1:news.all (·.oneCell')=true) (hroom:i'+k≤cap) (hb:i'*sz+news.length≤l.length) (hd:Nat.blt d n=true)
   [m:Mem1 b (cel e2 l) H] [rp:Rep [(b,cel e2 l)] [(b,cel e2 (spl l (i'*sz) news))] H H']
   (h:Sy n ((d,.slice (some ⟨b,0,none⟩) (i'+k) cap)::L) D H' R K):Sy n L D H R (stp P r ops i K):=fun a w ha hD hw=>by
 obtain ⟨ie,hu,hi,rfl⟩:=Z1p hT
 have hst:=Z3L (P:=P) (e:=e2) h1 hb (hw.held _ m.mem)
 have hfc:=run_firstCells_some (P:=P) w ie.size k ax k c news hn (hsrc w hw)
 refine ZC ho (Zq _ rfl _) (v:=.slice (some ⟨b,0,none⟩) (i'+k) cap) (w':={ w with heap:=w.heap.setIfInBounds b (cel e2 (spl l (i'*ie.size) news)) }) ?_
   (h _ _ (ha.put (by simpa using hd) _) hD (hw.rep (F:=[(b,cel e2 l)]) (F':=[(b,cel e2 (spl l (i'*ie.size) news))]) fun T hT=>St.set hT))
 simp only [execOp,resolve,invoke,builtin,Sem.run_bind,Sem.run_pure,Result.andThen,List.map_toArray,List.map_cons,List.map_nil,ha.reads _ _ hs,ha.reads _ _ hx]
 have e1:(Builtin.append_ #[t,t] ty #[.slice (some ⟨b,0,none⟩) i' cap,.slice (some ax) k c]).run P w = .ok (.slice (some ⟨b,0,none⟩) (i'+k) cap) { w with heap:=w.heap.setIfInBounds b (cel e2 (spl l (i'*ie.size) news)) }:=by
   have e0:(⟨b,0,none⟩:Addr).add (i'*ie.size)=⟨b,i'*ie.size,none⟩:=by rw [Z00,Nat.zero_add]
   simp [Builtin.append_,run_underlying hu,sizeOf,typeInfo,hi,Builtin.lenOf,hroom,hfc,e0,hst]
 rw [e1]
end steps
def AllS:List Nat→(Nat→Prop)→Prop
 | [],_=>True
 | i::l,p=>p i∧AllS l p
theorem AllS.all {p:Nat→Prop}:∀ {l:List Nat},AllS l p→∀ i∈l,p i
 | [],_,i,h=>by cases h
 | j::l,h,i,hi=>by
   rcases List.mem_cons.1 hi with rfl | hi
   · exact h.1
   · exact AllS.all h.2 i hi
abbrev Zji:=(Nat→Bool)→Zv→Zf→Z6→Prop
def Z81 (P:Program) (r:Option Nat) (ops:Array Oper) (bm:List Nat) (n:Nat) (D:List Deferred) (Inv:Zji) (i:Nat):Prop :=
 ∀ (s : Nat → Bool) (L : Zv) (H : Zf) (R : Z6), (∀ j k, j < ops.size → pre bm j k = true → s j = true → s k = true) → s i = false → (∀ j, pre bm i j = true → s j = true) → Inv s L H R →
   ∀ K:Act→World→Prop,(∀ L' H' R',Inv (fun j=>Nat.beq i j||s j) L' H' R'→Sy n L' D H' R' K)→Sy n L D H R (stp P r ops i K)
theorem Z2J:∀ (l:List Bool) (i:Nat) (h:i<l.length),l[i]=false→(l.set i true).count false+1=l.count false
 | [],i,h,_=>by simp at h
 | b::l,0,_,h=>by
   obtain rfl:b=false:=h
   simp
 | b::l,i+1,h,hb=>by
   have ih:=Z2J l i (by simpa using h) (by simpa using hb)
   rw [List.set_cons_succ,List.count_cons,List.count_cons]
   omega
theorem Z5X {l:Array Bool} {i:Nat} (h:i<l.size):(l.setIfInBounds i true).getD i false=true:=by simp [h]
section free
variable {P:Program} {r:Option Nat} {ops:Array Oper} {n:Nat} {L:Zv} {D:List Deferred} {H:Zf} {R:Z6}
theorem Z7C {l:Array Bool} {j:Nat} (h:l.getD j false=true):l.getD j true=true:=by
 rcases Nat.lt_or_ge j l.size with h1 | h1
 · simp [h1] at h ⊢;exact h
 · simp [Array.getElem?_eq_none h1]
theorem Zg9 {l:Array Bool} {j:Nat} (h:l.getD j true=true) (h1:j<l.size):l.getD j false=true:=by simp [h1] at h ⊢;exact h
theorem Zda {bm:List Nat} (hbm:Zeb ops bm=true) {listed:Array Bool} (hd:Down ops listed) {j k:Nat} (hj:j<ops.size) (hp:pre bm j k=true) (hl:listed.getD j true=true):listed.getD k true=true :=
 Z7C (Z1U hbm hd k j ops[j] (by simp) (fun e he hb=>hd j ops[j] (by simp) hl e he hb) (by rw [← ZbC];exact hp))
theorem Z9t {bm:List Nat} (hbm:Zeb ops bm=true) {listed:Array Bool} (hsz:listed.size=ops.size) (h:Region.ready .any ops listed=[]):∀ j,j<ops.size→listed.getD j true=true:=by
 intro j
 induction j using Nat.strongRecOn with
 | _ j ih =>
   intro hj
   cases hl:listed.getD j true with
   | true=>rfl
   | false =>
     exfalso
     have h1:=List.all_eq_true.1 hbm j (List.mem_range.2 hj)
     simp only [show ops[j]?=some ops[j] by simp,Bool.and_eq_true] at h1
     have:j∈Region.ready .any ops listed:=mem_ready.2 ⟨hl,ops[j],by simp,fun e he hb=>by
       have h2:=List.all_eq_true.1 h1.2 e (by simpa using he)
       have hlt:e.on<j:=by simpa [hb] using h2
       exact Zg9 (ih e.on hlt (by omega)) (by omega)⟩
     rw [h] at this;cases this
theorem Zdi {bm:List Nat} {X:Act→World→Prop} {Inv:Zji} (hbm:Zeb ops bm=true) (step:∀ i,i<ops.size→Z81 P r ops bm n D Inv i) (fin:∀ L H R,Inv (fun _=>true) L H R→Sy n L D H R X) :
   ∀ (fuel:Nat) (listed:Array Bool) (L:Zv) (H:Zf) (R:Z6),listed.size=ops.size→Down ops listed→listed.toList.count false=fuel→Inv (fun j=>listed.getD j true) L H R→Sy n L D H R (Zcz P r ops bm X fuel listed []):=by
 intro fuel
 induction fuel with
 | zero =>
   intro listed L H R hsz hd hc hI a w ha hD hs
   have hall:∀ j,listed.getD j true=true:=fun j=>by
     rcases Nat.lt_or_ge j listed.size with h1 | h1
     · cases hl:listed.getD j true with
       | true=>rfl
       | false =>
         have h2:=List.count_eq_zero.1 hc
         exact absurd (by simp [h1] at hl;rw [← hl];simp) h2
     · simp [Array.getElem?_eq_none h1]
   have he:(fun j=>listed.getD j true)=fun _=>true:=funext hall
   rw [he] at hI
   refine ⟨?_,fin L H R hI a w ha hD hs⟩
   cases hr:Region.ready .any ops listed with
   | nil=>rfl
   | cons i l =>
     have:=(mem_ready.1 (show i∈Region.ready .any ops listed by rw [hr];simp)).1
     rw [hall i] at this;cases this
 | succ fuel ih =>
   intro listed L H R hsz hd hc hI a w ha hD hs
   refine ⟨fun hr=>?_,fun i hi=>?_⟩
   · have hall:∀ j,listed.getD j true=true:=fun j=>by
       rcases Nat.lt_or_ge j ops.size with h1 | h1
       · exact Z9t hbm hsz hr j h1
       · simp [Array.getElem?_eq_none (show listed.size≤j by omega)]
     have he:(fun j=>listed.getD j true)=fun _=>true:=funext hall
     rw [he] at hI
     exact fin L H R hI a w ha hD hs
   · obtain ⟨hun,o,ho,hall⟩:=mem_ready.1 hi
     have hil:i<ops.size:=(Array.getElem?_eq_some_iff.1 ho).1
     refine step i hil (fun j=>listed.getD j true) L H R (fun j k hj hp hl=>Zda hbm hd hj hp hl) hun (fun j hp=>Z7C (Z1U hbm hd j i o ho hall (by rw [← ZbC];exact hp))) hI _ (fun L' H' R' hI'=>?_) a w ha hD hs
     have he:(fun j=>Nat.beq i j||listed.getD j true)=fun j=>(listed.setIfInBounds i true).getD j true:=funext fun j=>by
       by_cases hij:i=j
       · subst hij
         rw [show Nat.beq i i=true from Nat.beq_refl i]
         exact (Z7C (Z5X (by omega))).symm
       · rw [getD_set_ne true hij,show Nat.beq i j=false from by cases hb:Nat.beq i j with | false=>rfl | true=>exact absurd (Nat.eq_of_beq_eq_true hb) hij];rfl
     rw [he] at hI'
     intro a' w' ha' hD' hs'
     refine ⟨trivial,ih (listed.setIfInBounds i true) L' H' R' (by simpa using hsz) (hd.set hi) ?_ hI' a' w' ha' hD' hs'⟩
     have hil2:i<listed.size:=by omega
     rw [Array.toList_setIfInBounds]
     have h9:listed.toList[i]'(by simpa using hil2)=false:=by simp [hil2] at hun;simpa using hun
     have h10:=Z2J listed.toList i (by simpa using hil2) h9
     omega
theorem Z6m {id:Nat} {Q:Exit→Act→World→Prop} (bm:List Nat) (l:List Nat) (hm:P.follows .mixedOrders=true) (hb:Zeb ops bm=true) (hl:List.range ops.size=l) (Inv:Zji)
   (h0:Inv (fun j=>Nat.ble ops.size j) L H R) (step:AllS l (Z81 P r ops bm n D Inv)) (fin:∀ L H R,Inv (fun _=>true) L H R→Sy n L D H R (Q .normal)):Sy n L D H R (wpc P r (.region id ops true) Q):=fun a w ha hD hs=>by
 have h1:=Zdi (X:=Q .normal) hb (fun i hi=>step.all i (by rw [← hl];exact List.mem_range.2 hi)) fin ops.size (Array.replicate ops.size false) L H R (by simp) Z5l (by simp) (by
   have he:(fun j=>(Array.replicate ops.size false).getD j true)=fun j=>Nat.ble ops.size j:=funext fun j=>by
     rcases Nat.lt_or_ge j ops.size with h1 | h1
     · rw [show Nat.ble ops.size j=false from by cases hb:Nat.ble ops.size j with | false=>rfl | true=>have:=Nat.le_of_ble_eq_true hb;omega];simp [h1]
     · rw [show Nat.ble ops.size j=true from Nat.ble_eq_true_of_le h1];simp [h1]
   rw [he];exact h0) a w.drew ha hD hs.drew
 refine wpIn_mono (wpIn_region_any hm (Z3w _ _ _ _ _ h1)) fun e a w hq=>?_
 cases e<;>first | exact hq | exact hq.elim
theorem ZS {d:Nat} {v:Value}:lk ((d,v)::L) d=some v:=by
 unfold lk;rw [show Nat.beq d d=true from Nat.beq_refl d];rfl
theorem Zr {d t:Nat} {v u:Value} (hne:Nat.beq d t=false) (h:lk L t=some u):lk ((d,v)::L) t=some u:=by
 show (bif Nat.beq d t then some v else lk L t)=some u
 rw [hne];exact h
theorem ZD {d:Nat} {v:Value}:∀ {L':Zv},(L'.all fun p=>!(Nat.beq d p.1))=true→Sub L' L→Sub L' ((d,v)::L)
 | [],_,_=>trivial
 | p::L',hk,h=>by
   rw [List.all_cons,Bool.and_eq_true] at hk
   exact ⟨Zr (by simpa using hk.1) h.1,ZD hk.2 h.2⟩
theorem Z06 {f:World→Prop} {A:Z6} (h:f∈R) (hA:∀ g∈A,g∈R):∀ g∈f::A,g∈R:=fun g hg=>by
 rcases List.mem_cons.1 hg with rfl | hg
 · exact h
 · exact hA g hg
theorem Z07 {f:World→Prop} {A:Z6} (hA:∀ g∈A,g∈R):∀ g∈A,g∈f::R:=fun g hg=>List.mem_cons_of_mem _ (hA g hg)
end free
def pvl (L:Zv):Op→Option Value
 | .move x=>ev L x
 | .assign x=>ev L x
 | .pick c x y=>match ev L c with
   | some (.bool b)=>match ev L x with
     | some u=>match ev L y with
       | some v=>some (bif b then u else v)
       | none=>none
     | none=>none
   | _=>none
 | .extract x k=>match ev L x with
   | some (.tuple l)=>l.toList[k]?
   | _=>none
 | .unOp .not _ x=>match ev L x with
   | some (.bool b)=>some (.bool !b)
   | _=>none
 | .binOp .lss _ x y _=>match ev L x with
   | some (.int .i64 m)=>match ev L y with
     | some (.int .i64 n)=>some (.bool (decide (m<n)))
     | _=>none
   | _=>none
 | .binOp .leq _ x y _=>match ev L x with
   | some (.int .i64 m)=>match ev L y with
     | some (.int .i64 n)=>some (.bool (decide (m≤n)))
     | _=>none
   | _=>none
 | .binOp .gtr _ x y _=>match ev L x with
   | some (.int .i64 m)=>match ev L y with
     | some (.int .i64 n)=>some (.bool (decide (n<m)))
     | _=>none
   | _=>none
 | .binOp .geq _ x y _=>match ev L x with
   | some (.int .i64 m)=>match ev L y with
     | some (.int .i64 n)=>some (.bool (decide (n≤m)))
     | _=>none
   | _=>none
 | .binOp .eql _ x y _=>match ev L x with
   | some (.int .i64 m)=>match ev L y with
     | some (.int .i64 n)=>some (.bool (decide (m=n)))
     | _=>none
   | _=>none
 | .binOp .neq _ x y _=>match ev L x with
   | some (.int .i64 m)=>match ev L y with
     | some (.int .i64 n)=>some (.bool (decide (m≠n)))
     | _=>none
   | _=>none
 | _=>none
theorem Z8U {P:Program} {L:Zv} {o:Oper} {v:Value} (h:pvl L o.op=some v):PE P L o v:=by
 obtain ⟨d,op,ty,pos,af,g⟩:=o
 dsimp only at h
 unfold pvl at h
 split at h
 · exact PE.move h
 · exact PE.assign h
 · split at h
   · rename_i b hb
     split at h
     · rename_i u hu
       split at h
       · rename_i w hw
         obtain rfl:=Option.some.inj h
         exact PE.pick hb hu hw
       · cases h
     · cases h
   · cases h
 · split at h
   · rename_i l hl
     exact PE.extract (l:=l.toList) hl h
   · cases h
 · split at h
   · rename_i b hb
     obtain rfl:=Option.some.inj h
     exact PE.not hb
   · cases h
 · split at h
   · rename_i m hm
     split at h
     · rename_i k hk
       obtain rfl:=Option.some.inj h
       exact PE.lss hm hk
     · cases h
   · cases h
 · split at h
   · rename_i m hm
     split at h
     · rename_i k hk
       obtain rfl:=Option.some.inj h
       exact PE.leq hm hk
     · cases h
   · cases h
 · split at h
   · rename_i m hm
     split at h
     · rename_i k hk
       obtain rfl:=Option.some.inj h
       exact PE.gtr hm hk
     · cases h
   · cases h
 · split at h
   · rename_i m hm
     split at h
     · rename_i k hk
       obtain rfl:=Option.some.inj h
       exact PE.geq hm hk
     · cases h
   · cases h
 · split at h
   · rename_i m hm
     split at h
     · rename_i k hk
       obtain rfl:=Option.some.inj h
       exact PE.eql hm hk
     · cases h
   · cases h
 · split at h
   · rename_i m hm
     split at h
     · rename_i k hk
       obtain rfl:=Option.some.inj h
       exact PE.neq hm hk
     · cases h
   · cases h
 · cases h
def gok (ops:Array Oper) (L:Zv):Option (Nat×Bool)→Option Bool
 | none=>some true
 | some (j,b)=>match ops[j]? with
   | some oj=>match oj.dst with
     | some t=>match lk L t with
       | some (.bool c)=>some (b == c)
       | _=>none
     | none=>none
   | none=>none
def prS (ops:Array Oper) (n:Nat) (L:Zv) (i:Nat):Option Zv:=match ops[i]? with
 | some o=>match o.dst with
   | some d=>bif Nat.blt d n then
       match gok ops L o.guard with
       | some true=>match pvl L o.op with
         | some v=>some ((d,v)::L)
         | none=>none
       | some false=>some ((d,undef)::L)
       | none=>none
     else none
   | none=>none
 | none=>none
section ops
variable {P:Program} {r:Option Nat} {ops:Array Oper} {n:Nat} {L L':Zv} {D:List Deferred} {H:Zf} {R:Z6} {K:Act→World→Prop}
 {bm:List Nat} {X:Act→World→Prop} {p p':Plan} {pend:Z42} {i:Nat}
theorem Z6X (h:prS ops n L i=some L'):∃ o d,ops[i]?=some o∧o.dst=some d∧Nat.blt d n=true ∧
   ((∃ v,pvl L o.op=some v∧L'=(d,v)::L∧(o.guard=none∨∃ j b oj t,o.guard=some (j,b)∧ops[j]?=some oj∧oj.dst=some t∧lk L t=some (.bool b))) ∨
    (L'=(d,undef)::L∧∃ j b oj t c,o.guard=some (j,b)∧ops[j]?=some oj∧oj.dst=some t∧lk L t=some (.bool c)∧b=!c)):=by
 unfold prS at h
 split at h
 · rename_i o ho
   split at h
   · rename_i d hd
     cases hb:Nat.blt d n with
     | false=>rw [hb] at h;cases h
     | true =>
       rw [hb,cond_true] at h
       refine ⟨o,d,ho,hd,hb,?_⟩
       have hg:∀ x,gok ops L o.guard=some x→(o.guard=none∧x=true)∨∃ j b oj t c,o.guard=some (j,b)∧ops[j]?=some oj∧oj.dst=some t∧lk L t=some (.bool c)∧x=(b == c):=by
         intro x hx
         unfold gok at hx
         split at hx
         · rename_i h0;exact .inl ⟨h0,(Option.some.inj hx).symm⟩
         · rename_i j b h0
           split at hx
           · rename_i oj hj
             split at hx
             · rename_i t ht
               split at hx
               · rename_i c hc
                 exact .inr ⟨j,b,oj,t,c,h0,hj,ht,hc,(Option.some.inj hx).symm⟩
               · cases hx
             · cases hx
           · cases hx
       split at h
       · rename_i h0
         split at h
         · rename_i v hv
           refine .inl ⟨v,hv,(Option.some.inj h).symm,?_⟩
           rcases hg _ h0 with ⟨h1,_⟩ | ⟨j,b,oj,t,c,h1,h2,h3,h4,h5⟩
           · exact .inl h1
           · obtain rfl:=eq_of_beq h5.symm
             exact .inr ⟨j,b,oj,t,h1,h2,h3,h4⟩
         · cases h
       · rename_i h0
         refine .inr ⟨(Option.some.inj h).symm,?_⟩
         rcases hg _ h0 with ⟨_,h1⟩ | ⟨j,b,oj,t,c,h1,h2,h3,h4,h5⟩
         · cases h1
         · exact ⟨j,b,oj,t,c,h1,h2,h3,h4,by cases b<;>cases c<;>first | rfl | cases h5⟩
       · cases h
   · cases h
 · cases h
theorem ZiJ (h:prS ops n L i=some L') (hk:Sy n L' D H R K):Sy n L D H R (stp P r ops i K):=by
 obtain ⟨⟨dst,op,ty,pos,af,g⟩,d,ho,hd,hb,h1⟩:=Z6X h
 dsimp only at hd h1
 subst hd
 rcases h1 with ⟨v,hv,rfl,rfl | ⟨j,b,oj,t,rfl,hj,ht,hl⟩⟩ | ⟨rfl,j,b,oj,t,c,hg,hj,ht,hl,hbc⟩
 · exact sp ho (Z8U hv) hb hk
 · exact spG ho hj ht hl (Z8U hv) hb hk
 · exact spN ho hg hj ht hl hbc rfl hb hk
theorem ZiK (h:prS ops n L i=some L') (hk:Sy n L' D H R (Dv P r ops bm X p pend)):Sy n L D H R (Dv P r ops bm X (.tk i p) pend):=by
 obtain ⟨⟨dst,op,ty,pos,af,g⟩,d,ho,hd,hb,h1⟩:=Z6X h
 dsimp only at hd h1
 subst hd
 rcases h1 with ⟨v,hv,rfl,rfl | ⟨j,b,oj,t,rfl,hj,ht,hl⟩⟩ | ⟨rfl,j,b,oj,t,c,hg,hj,ht,hl,hbc⟩
 · exact tk ho (Z8U hv) hb hk
 · exact tkG ho hj ht hl (Z8U hv) hb hk
 · exact tkN ho hg hj ht hl hbc rfl hb hk
def prK (ops:Array Oper) (n:Nat):Nat→List Nat→Zv→Option (List Nat×Zv)
 | 0,l,L=>some (l,L)
 | _+1,[],_=>none
 | k+1,i::l,L=>match prS ops n L i with
   | some L'=>prK ops n k l L'
   | none=>none
theorem pur (k:Nat) {l l':List Nat} (h:prK ops n k l L=some (l',L')) (hk:Sy n L' D H R (Z5S P r ops X l')):Sy n L D H R (Z5S P r ops X l):=by
 induction k generalizing l L with
 | zero =>
   simp only [prK,Option.some.injEq,Prod.mk.injEq] at h
   obtain ⟨rfl,rfl⟩:=h
   exact hk
 | succ k ih =>
   cases l with
   | nil=>cases h
   | cons i l =>
     unfold prK at h
     split at h
     · rename_i L1 h1
       exact ZiJ h1 (ih h)
     · cases h
def prP (ops:Array Oper) (n:Nat):Nat→Plan→Zv→Option (Plan×Zv)
 | 0,p,L=>some (p,L)
 | k+1,.tk i p,L=>match prS ops n L i with
   | some L'=>prP ops n k p L'
   | none=>none
 | _+1,_,_=>none
theorem Zu (k:Nat) (h:prP ops n k p L=some (p',L')) (hk:Sy n L' D H R (Dv P r ops bm X p' pend)):Sy n L D H R (Dv P r ops bm X p pend):=by
 induction k generalizing p L with
 | zero =>
   simp only [prP,Option.some.injEq,Prod.mk.injEq] at h
   obtain ⟨rfl,rfl⟩:=h
   exact hk
 | succ k ih =>
   cases p with
   | tk i p =>
     unfold prP at h
     split at h
     · rename_i L1 h1
       exact ZiK h1 (ih h)
     · cases h
   | done=>cases h
   | ld i p=>cases h
   | big i p=>cases h
   | any p=>cases h
   | alt i p q=>cases h
   | stop=>cases h
theorem Zj {X:Act→World→Prop} (t:Nat) {b:Bool} (hb:lk L t=some (.bool b)) (h1:b=true→Sy n ((t,.bool true)::L) D H R X) (h0:b=false→Sy n ((t,.bool false)::L) D H R X):Sy n L D H R X:=ZgO hb h1 h0
theorem bgT (h:Sy n L D H R (Dv P r ops bm X p (keepP bm i pend))) (hp:∀ w,St H R w→Z0H bm i pend w:=by intro w hs;repeat' first | exact trivial | constructor):Sy n L D H R (fun a w=>Z0H bm i pend w∧Dv P r ops bm X p (keepP bm i pend) a w):=bg hp h
theorem lhI {T b off k:Nat} {o:Obj} [m:Mem1 b o H] {e:TypeId} {l:List Value} (vs:List Int) (hT:Z55 P T=some k) (ho:o=cel e l) (hv:l.drop off=Zw vs) (hk:vs.length=k):∀ w,St H R w→Ld P T ⟨b,off,none⟩ (.agg (Zw vs).toArray) w :=
 lhA (rest:=[]) (Zw vs) hT ho (by rw [List.append_nil];exact hv) (by rw [List.length_map];exact hk)
theorem PE.fA {ty:TypeId} {pos:String} {af:Array Edge} {g:Option (Nat×Bool)} {d:Option Tmp} {T k o b off:Nat} {x:Operand} (ho:Z2X P T k=some o) (hx:ev L x=some (.pointer (some ⟨b,off,none⟩))):PE P L ⟨d,.fieldAddr T x k,ty,pos,af,g⟩ (.pointer (some ⟨b,off+o,none⟩)):=PE.fieldAddr ho hx
end ops
theorem cS:(∀ (p:Prop) [Decidable p],(decide p=true)=p)∧(∀ (p:Prop) [Decidable p],(decide p=false)=¬ p)∧(∀ a b:Bool,((a&&b)=true)=(a=true∧b=true))∧(∀ a b:Bool,((a||b)=true)=(a=true∨b=true))∧(∀ b:Bool,((!b)=true)=(b=false))∧(∀ a b:Int,(¬ a≤b)=(b<a))∧(∀ a b:Int,(¬ a<b)=(b≤a)) :=
 ⟨fun _ _=>decide_eq_true_eq,fun p _=>propext decide_eq_false_iff_not,fun a b=>by simp,fun a b=>by simp,fun b=>by simp,fun a b=>propext Int.not_le,fun a b=>propext Int.not_lt⟩
def tks:Nat→Nat→Plan→Plan
 | _,0,p=>p
 | i,k+1,p=>.tk i (tks (i+1) k p)
theorem idH {H:Zf} {R:Z6}:∀ w,St H R w→St H R w:=fun _ h=>h
theorem ne0 {α:Type} {l:List α} (h:l.length≠0):l≠[]:=fun e=>h (by rw [e];rfl)
theorem nl {m n:Nat} (h:Nat.ble m n=true):m≤n:=Nat.le_of_ble_eq_true h
theorem dF {p:Prop} [i:Decidable p] (h:¬ p):decide p=false:=decide_eq_false h
theorem dT {p:Prop} [i:Decidable p] (h:p):decide p=true:=decide_eq_true h
section steps
variable {P:Program} {r:Option Nat} {n:Nat} {L:Zv} {D:List Deferred} {H:Zf} {R:Z6} {Q:Exit→Act→World→Prop}
theorem Zi {ι:Type} {inv:ι→Head} {j:ι} (hH:∀ w,St H R w→St (inv j).H (inv j).R w) (hL:Sub (inv j).L L:=by repeat' first | exact Sub.nil | apply Sub.cons | rfl | (simp [lk];omega)):Sy n L D H R (Z5d n D inv j):=Ze2 hL hH
theorem Zd {ι:Type} {inv:ι→Head} {μ:ι→Nat} {i:ι} (j:ι) (hm:μ j<μ i) (hH:∀ w,St H R w→St (inv j).H (inv j).R w) (hL:Sub (inv j).L L:=by repeat' first | exact Sub.nil | apply Sub.cons | rfl | (simp [lk];omega)):Sy n L D H R (Z9M n D inv μ i):=Zc j hm hL hH
theorem Zb {ι:Type} {inv:ι→Head} {μ:ι→Nat} {i:ι} (j:ι) (hH:∀ w,St H R w→St (inv j).H (inv j).R w) (hm:μ j<μ i:=by dsimp only;omega) (hL:Sub (inv j).L L:=by repeat' first | exact Sub.nil | apply Sub.cons | rfl | (simp [lk];omega)):Sy n L D H R (Z9M n D inv μ i):=Zc j hm hL hH
theorem Zx {ι:Type} {hd:ι→Head} (j:ι) (hH:∀ w,St H R w→St (hd j).H (hd j).R w) (hL:Sub (hd j).L L:=by repeat' first | exact Sub.nil | apply Sub.cons | rfl | (simp [lk];omega)):Sy n L D H R (Zf0 n D hd .normal):=Zc8 j hL hH
theorem Zk {ι:Type} {hd:ι→Head} (j:ι) (hH:∀ w,St H R w→St (hd j).H (hd j).R w) (hL:Sub (hd j).L L:=by repeat' first | exact Sub.nil | apply Sub.cons | rfl | (simp [lk];omega)):Sy n L D H R (Z82 n D hd Q .normal):=ZR j hL hH
def rg:Nat→Nat→List Nat
 | _,0=>[]
 | i,k+1=>i::rg (i+1) k
theorem sqt {id:Nat} {ops:Array Oper} {y:Code} (k:Nat) (hl:List.range ops.size=rg 0 k) (h:Sy n L D H R (Z5S P r ops (wpc P r y Q) (rg 0 k))):Sy n L D H R (wpc P r (.seq (.region id ops false) y) Q) :=
 Z0 (ZeY _ hl h)
theorem sqr {id:Nat} {ops:Array Oper} (k:Nat) (hl:List.range ops.size=rg 0 k) (h:Sy n L D H R (Z5S P r ops (Q .normal) (rg 0 k))):Sy n L D H R (wpc P r (.region id ops false) Q):=ZeY _ hl h
variable {fn:Func} {G:Value→Zf→Z6→Prop} {H':Zf} {R':Z6}
theorem rtA {t:Nat} {v u:Value} (hr:fn.results = #[.tmp t]) (hv:lk L t=some v) (he:ZU [v]=u) (hq:G u H' R') (hs:∀ w,St H R w→St H' R' w):Sy n L [] H R (Ret P fn G .ret):=Zn (vs:=[v]) hr (.cons (RV.tmp hv) .nil) he hq hs
theorem rtB {t t2:Nat} {v x u:Value} (hr:fn.results = #[.tmp t,.tmp t2]) (hv:lk L t=some v) (hx:lk L t2=some x) (he:ZU [v,x]=u) (hq:G u H' R') (hs:∀ w,St H R w→St H' R' w):Sy n L [] H R (Ret P fn G .ret):=Zn (vs:=[v,x]) hr (.cons (RV.tmp hv) (.cons (RV.tmp hx) .nil)) he hq hs
theorem lm1 {c:Prop} {d t:Nat} {v u:Value} (q:c→lk L t=some u) (hne:Nat.beq d t=false:=by exact rfl):c→lk ((d,v)::L) t=some u:=fun h=>Zr hne (q h)
theorem lm2 {c A:Prop} {d t:Nat} {v u:Value} (q:c→lk L t=some u∧A) (hne:Nat.beq d t=false:=by exact rfl):c→lk ((d,v)::L) t=some u∧A:=fun h=>⟨Zr hne (q h).1,(q h).2⟩
theorem ff {A:Prop} (h:false=true):A:=by cases h
theorem nof {A:Prop} {ops:Array Oper} {bm:List Nat} {s:Nat→Bool} {i:Nat} (hdn:∀ j k,j<ops.size→pre bm j k=true→s j=true→s k=true) (hs:s i=false) (j:Nat) (hj:Nat.ble (j+1) ops.size=true:=by exact rfl) (hp:pre bm j i=true:=by exact rfl):s j=true→A:=fun h=>absurd (hdn j i (Nat.le_of_ble_eq_true hj) hp h) (by rw [hs];exact Bool.false_ne_true)
end steps
theorem Zcl {P:Program} {n:Nat} {L:Zv} {H:Zf} {R:Z6} {c:LR} {bl:Nat} {p q:Tmp} {assign body:Code} {v u:Value} {QY:Value→Zf→Z6→Prop} [m:Mem1 bl (lob c .ready none) H] (hp:c.params = #[p,q]) (ha:c.assign=assign) (hb:c.body=body)
   (hk:Knows n L ⟨c.tmps,[]⟩) (hpn:Nat.blt p n=true) (hqn:Nat.blt q n=true) (h:Sy n ((q,u)::(p,v)::L) [] H R (wpc P (some bl) assign (RB P bl body QY))):Yd P bl [v,u] H R QY:=fun w hs=>by
 subst ha hb
 have hl:=hs.held _ m.mem
 refine ⟨c.fn,_,c.assign,c.body,run_yield (r:={ state:=.ready,pending:=none,fn:=c.fn,tmps:=c.tmps,params:=c.params,assign:=c.assign,body:=c.body,defers:=c.defers }) hl (by simp [hp]),?_⟩
 refine roundIn_of_wpIn (Z4n _ _) ?_
 have k1:Knows n ((p,v)::L) ⟨c.tmps.setIfInBounds p v,[]⟩:=by simpa [Act.put] using hk.put (d:=p) (by simpa using hpn) v
 have k2:Knows n ((q,u)::(p,v)::L) ⟨(c.tmps.setIfInBounds p v).setIfInBounds q u,[]⟩:=by simpa [Act.put] using k1.put (d:=q) (by simpa using hqn) u
 have h1:=h ⟨(c.tmps.setIfInBounds p v).setIfInBounds q u,[]⟩ w k2 rfl hs
 have e:(c.params.zip #[v,u]).foldl (fun tmps (x:Tmp×Value)=>tmps.setIfInBounds x.1 x.2) c.tmps=(c.tmps.setIfInBounds p v).setIfInBounds q u:=by simp [hp]
 dsimp only
 rw [e]
 exact h1
theorem sbA {A B:Zv} (h:Sub A B:=by repeat' first | exact Sub.nil | apply Sub.cons | rfl | (simp [lk];omega)):Sub A B:=h
theorem ZF:Tryz.prog.follows .mixedOrders=true:=by kernel_rfl
end Go.Proofs.YtclnhdkneegfkaaGreat
namespace Go.Proofs.YtclnhdkneegfkaaGreat
set_option linter.unusedSimpArgs false
set_option linter.unusedVariables false
structure Gp where
 a:Int
 b:Int
 deriving DecidableEq,Repr
structure Sgt where
 week:Int
 bin:Int
 seen:Bool
 deriving DecidableEq,Repr
structure Hse where
 bins:Int
 gaps:List Gp
 sights:List Sgt
 deriving DecidableEq,Repr
def na (l:List Int) (k:Nat):Int:=l.getD k 0
@[reducible] def inB (n lo hi : Int) : Bool := decide (lo ≤ n) && decide (n ≤ hi)
def Hse.check (h:Hse):Int :=
 bif !(inB h.bins 1 7)||decide (10<h.gaps.length)||decide (8<h.sights.length) then 2 else
 bif !(h.sights.all fun s=>inB s.week 0 9) then 3 else
 bif !(h.gaps.all fun g=>inB g.a 0 (h.bins-1)&&inB g.b 0 (h.bins-1))||!(h.sights.all fun s=>inB s.bin 0 (h.bins-1)) then 1 else
 bif !(h.gaps.all fun g=>!decide (g=⟨g.b,g.a⟩)) then 5 else 0
structure Hse.ok (h:Hse):Prop where
 bins:1≤h.bins∧h.bins≤7
 gl:h.gaps.length≤10
 sl:h.sights.length≤8
 gaps:∀ g∈h.gaps,(0≤g.a∧g.a<h.bins)∧(0≤g.b∧g.b<h.bins)∧g.a≠g.b
 sights:∀ s∈h.sights,(0≤s.week∧s.week≤9)∧0≤s.bin∧s.bin<h.bins
theorem gp_swap {g:Gp}:g=⟨g.b,g.a⟩↔g.a=g.b:=by
 cases g with
 | mk a b=>simp only [Gp.mk.injEq];omega
theorem hse_ok {h:Hse}:h.check=0↔h.ok:=by
 unfold Hse.check
 simp only [Bool.cond_eq_ite]
 constructor
 · intro h0
   split at h0<;>try (exact absurd h0 (by decide))
   split at h0<;>try (exact absurd h0 (by decide))
   split at h0<;>try (exact absurd h0 (by decide))
   split at h0<;>try (exact absurd h0 (by decide))
   rename_i h1 h2 h3 h4
   simp only [Bool.not_eq_true',Bool.not_eq_true,Bool.or_eq_true,not_or,Bool.not_eq_false',Bool.not_eq_false,inB,Bool.and_eq_true,decide_eq_true_eq,List.all_eq_true,decide_eq_false_iff_not] at h1 h2 h3 h4
   refine ⟨⟨by omega,by omega⟩,by omega,by omega,fun g hg=>?_,fun s hs=>?_⟩
   · have k1:=h3.1 g hg
     have k2:=h4 g hg
     rw [gp_swap] at k2
     exact ⟨by omega,by omega,k2⟩
   · have k1:=h2 s hs
     have k2:=h3.2 s hs
     exact ⟨by omega,by omega⟩
 · intro h0
   have hb:=h0.bins
   have hg:=h0.gl
   have hs:=h0.sl
   have e1:(!(inB h.bins 1 7)||decide (10<h.gaps.length)||decide (8<h.sights.length))=false:=by
     rw [Bool.or_eq_false_iff,Bool.or_eq_false_iff]
     exact ⟨⟨by simp [inB];omega,by simp;omega⟩,by simp;omega⟩
   have e2:(h.sights.all fun s=>inB s.week 0 9)=true:=List.all_eq_true.2 fun s h1=>by have:=h0.sights s h1;simp [inB];omega
   have e3:(h.gaps.all fun g=>inB g.a 0 (h.bins-1)&&inB g.b 0 (h.bins-1))=true:=List.all_eq_true.2 fun g h1=>by have:=h0.gaps g h1;simp [inB];omega
   have e4:(h.sights.all fun s=>inB s.bin 0 (h.bins-1))=true:=List.all_eq_true.2 fun s h1=>by have:=h0.sights s h1;simp [inB];omega
   have e5:(h.gaps.all fun g=>!decide (g=⟨g.b,g.a⟩))=true:=List.all_eq_true.2 fun g h1=>by
     rw [decide_eq_false (fun e=>(h0.gaps g h1).2.2 (gp_swap.1 e))];rfl
   rw [e1,e2,e3,e4,e5];rfl
def ZH (l:List Int) (v:Int):Bool:=l.any fun x=>decide (v=x)
theorem hasI_iff {l:List Int} {v:Int}:ZH l v=true↔v∈l:=by
 unfold ZH
 rw [List.any_eq_true]
 exact ⟨fun ⟨x,h1,h2⟩=>by rw [of_decide_eq_true h2];exact h1,fun h=>⟨v,h,decide_eq_true rfl⟩⟩
def Z53 (l:List Int) (i:Nat):Bool:=ZH (l.take i) (na l i)
def ZM (n:Int) (l:List Int):Int:=bif !(l.all fun k=>inB k 0 (n-1)) then 1 else bif (List.range l.length).any (Z53 l) then 5 else 0
def bit (n:Nat) (k:Int):Nat:=n|||2 ^ k.toNat
def msk (l:List Int):Nat:=l.foldl bit 0
theorem ZcC (n:Nat) (k:Int) (j:Nat):(bit n k).testBit j=(n.testBit j||decide (k.toNat=j)):=by
 unfold bit;rw [Nat.testBit_or,Nat.testBit_two_pow]
theorem Zdw (l:List Int) (n j:Nat):(l.foldl bit n).testBit j=(n.testBit j||l.any fun k=>decide (k.toNat=j)):=by
 induction l generalizing n with
 | nil=>simp
 | cons k l ih=>rw [List.foldl_cons,ih,ZcC,List.any_cons,Bool.or_assoc]
theorem Z4h (l:List Int) (j:Nat):(msk l).testBit j=l.any fun k=>decide (k.toNat=j):=by
 unfold msk;rw [Zdw];simp
theorem ZK {l:List Int} (h:∀ k∈l,0≤k) (j:Nat):(msk l).testBit j=true↔(j:Int)∈l:=by
 rw [Z4h,List.any_eq_true]
 constructor
 · rintro ⟨k,hk,e⟩
   have e:=of_decide_eq_true e
   have:=h k hk
   rwa [show (j:Int)=k by omega]
 · intro hj
   exact ⟨j,hj,by simp⟩
theorem Z0z {m n:Nat} (h:∀ k,m.testBit k=true→k<n):m<2 ^ n:=by
 refine Nat.lt_pow_two_of_testBit m fun i hi=>?_
 cases hb:m.testBit i with
 | false=>rfl
 | true=>have:=h i hb;omega
theorem Z0n {m n:Nat} (h:m<2 ^ n) {k:Nat} (hk:m.testBit k=true):k<n:=by
 rcases Nat.lt_or_ge k n with h1 | h1
 · exact h1
 · rw [Nat.testBit_lt_two_pow (Nat.lt_of_lt_of_le h (Nat.pow_le_pow_right (by decide) h1))] at hk;cases hk
theorem Z0i {m n:Nat} (h:∀ k,m.testBit k=n.testBit k):m=n:=Nat.eq_of_testBit_eq h
def gpo (m:Nat) (g:Gp):Nat:=(bif m.testBit g.a.toNat then 2 ^ g.b.toNat else 0)|||(bif m.testBit g.b.toNat then 2 ^ g.a.toNat else 0)
def ZbZ (cl m:Nat):List Gp→Nat→Nat→Nat
 | [],_,acc=>acc
 | g::gs,i,acc=>ZbZ cl m gs (i+1) (bif cl.testBit i then acc else acc|||gpo m g)
def spr (gs:List Gp) (cl m:Nat):Nat:=ZbZ cl m gs 0 m
def Adj (gs:List Gp) (cl:Nat) (u v:Nat):Prop:=∃ i g,gs[i]?=some g∧cl.testBit i=false∧((g.a.toNat=u∧g.b.toNat=v)∨(g.b.toNat=u∧g.a.toNat=v))
theorem gpo_test {m:Nat} {g:Gp} {v:Nat}:(gpo m g).testBit v=true↔(m.testBit g.a.toNat=true∧g.b.toNat=v)∨(m.testBit g.b.toNat=true∧g.a.toNat=v):=by
 unfold gpo
 rw [Nat.testBit_or,Bool.or_eq_true]
 refine or_congr ?_ ?_
 · cases h:m.testBit g.a.toNat with
   | false=>simp
   | true=>simp [Nat.testBit_two_pow]
 · cases h:m.testBit g.b.toNat with
   | false=>simp
   | true=>simp [Nat.testBit_two_pow]
theorem Z3p {cl m v:Nat}:∀ (gs:List Gp) (i acc:Nat),(ZbZ cl m gs i acc).testBit v=true↔acc.testBit v=true∨∃ j g,gs[j]?=some g∧cl.testBit (i+j)=false∧(gpo m g).testBit v=true
 | [],i,acc=>by simp [ZbZ]
 | g::gs,i,acc=>by
   unfold ZbZ
   rw [Z3p gs (i+1)]
   constructor
   · rintro (h | ⟨j,g',h1,h2,h3⟩)
     · cases hc:cl.testBit i with
       | true=>rw [hc] at h;exact .inl h
       | false =>
         rw [hc,cond_false,Nat.testBit_or,Bool.or_eq_true] at h
         exact h.imp id fun h=>⟨0,g,rfl,by simpa using hc,h⟩
     · exact .inr ⟨j+1,g',by simpa using h1,by rw [show i+(j+1)=i+1+j by omega];exact h2,h3⟩
   · rintro (h | ⟨j,g',h1,h2,h3⟩)
     · left
       cases hc:cl.testBit i with
       | true=>exact h
       | false=>rw [cond_false,Nat.testBit_or,h,Bool.true_or]
     · cases j with
       | zero =>
         left
         rw [List.getElem?_cons_zero,Option.some.injEq] at h1
         subst h1
         rw [Nat.add_zero] at h2
         rw [h2,cond_false,Nat.testBit_or,h3,Bool.or_true]
       | succ j=>exact .inr ⟨j,g',by simpa using h1,by rw [show i+1+j=i+(j+1) by omega];exact h2,h3⟩
theorem spr_test {gs:List Gp} {cl m v:Nat}:(spr gs cl m).testBit v=true↔m.testBit v=true∨∃ u,m.testBit u=true∧Adj gs cl u v:=by
 unfold spr
 rw [Z3p]
 refine or_congr Iff.rfl ?_
 constructor
 · rintro ⟨j,g,h1,h2,h3⟩
   rw [Nat.zero_add] at h2
   rcases gpo_test.1 h3 with ⟨h4,h5⟩ | ⟨h4,h5⟩
   · exact ⟨_,h4,j,g,h1,h2,.inl ⟨rfl,h5⟩⟩
   · exact ⟨_,h4,j,g,h1,h2,.inr ⟨rfl,h5⟩⟩
 · rintro ⟨u,hu,j,g,h1,h2,h3⟩
   refine ⟨j,g,h1,by rw [Nat.zero_add];exact h2,gpo_test.2 ?_⟩
   rcases h3 with ⟨h4,h5⟩ | ⟨h4,h5⟩
   · exact .inl ⟨by rw [h4];exact hu,h5⟩
   · exact .inr ⟨by rw [h4];exact hu,h5⟩
theorem Z18 {gs:List Gp} {cl m v:Nat} (h:m.testBit v=true):(spr gs cl m).testBit v=true:=spr_test.2 (.inl h)
theorem Adj.symm {gs:List Gp} {cl u v:Nat} (h:Adj gs cl u v):Adj gs cl v u:=by
 obtain ⟨i,g,h1,h2,h3⟩:=h
 exact ⟨i,g,h1,h2,h3.elim (fun h=>.inr ⟨h.2,h.1⟩) (fun h=>.inl ⟨h.2,h.1⟩)⟩
def lv (gs:List Gp) (cl m:Nat):Nat→Nat
 | 0=>m
 | t+1=>spr gs cl (lv gs cl m t)
theorem Zbj {gs:List Gp} {cl m:Nat}:∀ {t t':Nat},t≤t'→∀ {v:Nat},(lv gs cl m t).testBit v=true→(lv gs cl m t').testBit v=true
 | t, 0, h, v, hv => by obtain rfl : t = 0 := by omega
                        exact hv
 | t,t'+1,h,v,hv=>by
   rcases Nat.lt_or_ge t' t with h1 | h1
   · obtain rfl:t=t'+1:=by omega
     exact hv
   · exact Z18 (Zbj h1 hv)
theorem Z3H {gs:List Gp} {cl m t:Nat} (h:spr gs cl (lv gs cl m t)=lv gs cl m t):∀ j,lv gs cl m (t+j)=lv gs cl m t
 | 0=>rfl
 | j+1=>by show spr gs cl (lv gs cl m (t+j))=_;rw [Z3H h j,h]
def cnt (n m:Nat):Nat:=(List.range n).countP fun k=>m.testBit k
theorem Z1O (n m:Nat):cnt n m≤n:=by
 unfold cnt;exact Nat.le_trans (List.countP_le_length) (by simp)
theorem Z2j {α:Type} {p q:α→Bool}:∀ {l:List α},(∀ x∈l,p x=true→q x=true)→(∃ x∈l,q x=true∧p x=false)→l.countP p<l.countP q
 | [],_,h=>by obtain ⟨x,hx,_⟩:=h;cases hx
 | y::l,h,he=>by
   rw [List.countP_cons,List.countP_cons]
   have hm:l.countP p≤l.countP q:=List.countP_mono_left fun x hx=>h x (List.mem_cons_of_mem _ hx)
   obtain ⟨x,hx,hq,hp⟩:=he
   rcases List.mem_cons.1 hx with rfl | hx
   · rw [hp,hq];simp;omega
   · have ih:=Z2j (fun z hz=>h z (List.mem_cons_of_mem _ hz)) ⟨x,hx,hq,hp⟩
     have h1:=h y List.mem_cons_self
     cases hpy:p y with
     | true=>rw [h1 hpy];simp;omega
     | false=>cases q y<;>simp<;>omega
theorem Zih {n m m':Nat} (h:∀ k<n,m.testBit k=true→m'.testBit k=true) {k:Nat} (hk:k<n) (h1:m'.testBit k=true) (h2:m.testBit k=false):cnt n m<cnt n m' :=
 Z2j (fun x hx=>h x (List.mem_range.1 hx)) ⟨k,List.mem_range.2 hk,h1,h2⟩
theorem Zd6 {n m m':Nat} (h:∀ k<n,m.testBit k=true→m'.testBit k=true):cnt n m≤cnt n m':=List.countP_mono_left fun x hx=>h x (List.mem_range.1 hx)
def Wth (gs:List Gp) (n:Nat):Prop:=∀ g∈gs,g.a.toNat<n∧g.b.toNat<n
theorem Adj.lt {gs:List Gp} {n cl u v:Nat} (h:Wth gs n) (ha:Adj gs cl u v):u<n∧v<n:=by
 obtain ⟨i,g,h1,_,h3⟩:=ha
 have:=h g (List.mem_of_getElem? h1)
 omega
theorem Z3q {gs:List Gp} {n cl m:Nat} (h:Wth gs n) (hm:m<2 ^ n):spr gs cl m<2 ^ n:=Z0z fun k hk=>by
 rcases spr_test.1 hk with h1 | ⟨u,_,h2⟩
 · exact Z0n hm h1
 · exact (h2.lt h).2
theorem Z9r {gs:List Gp} {n cl m:Nat} (h:Wth gs n) (hm:m<2 ^ n):∀ t,lv gs cl m t<2 ^ n
 | 0=>hm
 | t+1=>Z3q h (Z9r h hm t)
theorem Z4S {gs:List Gp} {n cl m:Nat} (h:Wth gs n) (hm:m<2 ^ n) (hne:spr gs cl m≠m):cnt n m<cnt n (spr gs cl m):=by
 obtain ⟨k,h1,h2⟩:∃ k,(spr gs cl m).testBit k=true∧m.testBit k=false:=Classical.byContradiction fun hc=>hne (Z0i fun k=>by
   cases hk:m.testBit k with
   | true=>exact Z18 hk
   | false=>cases hs:(spr gs cl m).testBit k with
     | false=>rfl
     | true=>exact absurd ⟨k,hs,hk⟩ hc)
 exact Zih (fun k _ hk=>Z18 hk) (Z0n (Z3q h hm) h1) h1 h2
theorem ZiA {gs:List Gp} {n cl m:Nat} (h:Wth gs n) (hm:m<2 ^ n) (h0:m≠0) {t:Nat} (ht:n≤t+1):spr gs cl (lv gs cl m t)=lv gs cl m t:=by
 have key:∀ j,(∃ i≤j,spr gs cl (lv gs cl m i)=lv gs cl m i)∨j+1+1≤cnt n (lv gs cl m (j+1)):=by
   have c0:1≤cnt n m:=by
     obtain ⟨k,hk⟩:∃ k,m.testBit k=true:=Classical.byContradiction fun hc=>h0 (Z0i fun k=>by
       rw [Nat.zero_testBit]
       cases hk:m.testBit k with
       | false=>rfl
       | true=>exact absurd ⟨k,hk⟩ hc)
     unfold cnt
     exact List.countP_pos_iff.2 ⟨k,List.mem_range.2 (Z0n hm hk),hk⟩
   intro j
   induction j with
   | zero =>
     by_cases he:spr gs cl (lv gs cl m 0)=lv gs cl m 0
     · exact .inl ⟨0,Nat.le_refl _,he⟩
     · have:=Z4S h (Z9r h hm 0) he
       exact .inr (by show 2≤cnt n (spr gs cl (lv gs cl m 0));show 2≤_;have e:lv gs cl m 0=m:=rfl;rw [e] at this ⊢;omega)
   | succ j ih =>
     rcases ih with ⟨i,hi,he⟩ | ih
     · exact .inl ⟨i,by omega,he⟩
     · by_cases he:spr gs cl (lv gs cl m (j+1))=lv gs cl m (j+1)
       · exact .inl ⟨j+1,Nat.le_refl _,he⟩
       · have:=Z4S h (Z9r h hm (j+1)) he
         exact .inr (by show _≤cnt n (spr gs cl (lv gs cl m (j+1)));omega)
 rcases key t with ⟨i,hi,he⟩ | h1
 · obtain ⟨d,rfl⟩:∃ d,t=i+d:=⟨t-i,by omega⟩
   rw [Z3H he d,he]
 · have:=Z1O n (lv gs cl m (t+1));omega
theorem Z61 {gs:List Gp} {cl:Nat}:∀ t,lv gs cl 0 t=0
 | 0=>rfl
 | t+1=>by
   show spr gs cl (lv gs cl 0 t)=0
   rw [Z61 t]
   refine Z0i fun k=>?_
   rw [Nat.zero_testBit]
   cases hk:(spr gs cl 0).testBit k with
   | false=>rfl
   | true=>rcases spr_test.1 hk with h1 | ⟨u,h1,_⟩<;>simp at h1
theorem Z4I {gs:List Gp} {n cl m:Nat} (h:Wth gs n) (hm:m<2 ^ n) {t:Nat} (ht:n≤t+1) {j:Nat} (hj:t≤j):lv gs cl m j=lv gs cl m t:=by
 by_cases h0:m=0
 · subst h0;rw [Z61,Z61]
 · obtain ⟨d,rfl⟩:∃ d,j=t+d:=⟨j-t,by omega⟩
   exact Z3H (ZiA h hm h0 ht) d
def far:Int:=1048576
def wk (gs:List Gp) (cl m k:Nat):Int:=match (List.range 7).find? fun t=>(lv gs cl m t).testBit k with
 | some t=>(t:Int)
 | none=>far
def wks (gs:List Gp) (cl m:Nat):List Int:=(List.range 7).map (wk gs cl m)
theorem Z05 (gs:List Gp) (cl m:Nat):(wks gs cl m).length=7:=by simp [wks]
theorem Z1I {gs:List Gp} {cl m k:Nat} (hk:k<7):na (wks gs cl m) k=wk gs cl m k:=by
 unfold na wks
 rw [List.getD_eq_getElem?_getD,List.getElem?_map,List.getElem?_range hk];rfl
theorem Z1z (gs:List Gp) (cl m k:Nat):(∃ t:Nat,t<7∧wk gs cl m k=t∧(lv gs cl m t).testBit k=true∧∀ i:Nat,i<t→(lv gs cl m i).testBit k=false)∨(wk gs cl m k=far∧∀ i:Nat,i<7→(lv gs cl m i).testBit k=false):=by
 unfold wk
 rcases hf:(List.range 7).find? fun t=>(lv gs cl m t).testBit k with _ | t
 · refine .inr ⟨rfl,fun i hi=>?_⟩
   have:=List.find?_eq_none.1 hf i (List.mem_range.2 hi)
   simpa using this
 · obtain ⟨h1,lp,lq,h2,h3⟩:=List.find?_eq_some_iff_append.1 hf
   have hm:t∈List.range 7:=by rw [h2];simp
   refine .inl ⟨t,List.mem_range.1 hm,rfl,h1,fun i hi=>?_⟩
   have hi7:i∈List.range 7:=List.mem_range.2 (by have:=List.mem_range.1 hm;omega)
   have hp:=List.pairwise_lt_range (n:=7)
   rw [h2] at hi7 hp
   rw [List.pairwise_append] at hp
   rcases List.mem_append.1 hi7 with h4 | h4
   · have:=h3 i h4;simpa using this
   · rcases List.mem_cons.1 h4 with rfl | h4
     · omega
     · have:=(List.pairwise_cons.1 hp.2.1).1 i h4;omega
theorem Z6p (gs:List Gp) (cl m k:Nat):0≤wk gs cl m k∧wk gs cl m k≤far∧(wk gs cl m k<far→wk gs cl m k≤6):=by
 unfold far
 rcases Z1z gs cl m k with ⟨t,h1,h2,_⟩ | ⟨h1,_⟩
 · rw [h2];omega
 · rw [h1];unfold far;omega
theorem Z7Y {gs:List Gp} {cl m k:Nat} (h:Wth gs 7) (hm:m<2 ^ 7) {t:Nat} (ht:(t:Int)<far):wk gs cl m k≤t↔(lv gs cl m t).testBit k=true:=by
 unfold far at ht
 rcases Z1z gs cl m k with ⟨i,h1,h2,h3,h4⟩ | ⟨h1,h2⟩
 · rw [h2]
   constructor
   · intro h5;exact Zbj (by omega) h3
   · intro h5
     rcases Nat.lt_or_ge t i with h6 | h6
     · rw [h4 t h6] at h5;cases h5
     · omega
 · rw [h1]
   unfold far
   constructor
   · intro h5;omega
   · intro h5
     rcases Nat.lt_or_ge t 7 with h6 | h6
     · rw [h2 t h6] at h5;cases h5
     · rw [Z4I h hm (t:=6) (by decide) (by omega),h2 6 (by decide)] at h5;cases h5
theorem Zck {gs:List Gp} {cl m:Nat} {w:Nat→Int} (h1:∀ k<7,wk gs cl m k≤w k) (h2:∀ k<7,m.testBit k=true→w k≤0) (h3:∀ u v,u<7→v<7→Adj gs cl u v→w v≤w u+1) (h4:∀ k<7,w k≤far) (hw:Wth gs 7) (hm:m<2 ^ 7):∀ k<7,w k=wk gs cl m k:=by
 have key:∀ t:Nat,∀ k<7,(lv gs cl m t).testBit k=true→w k≤t:=by
   intro t
   induction t with
   | zero=>intro k hk h;exact h2 k hk h
   | succ t ih =>
     intro k hk h
     rcases spr_test.1 h with h5 | ⟨u,h5,h6⟩
     · have:=ih k hk h5;omega
     · have hu:=(h6.lt hw).1
       have:=ih u hu h5
       have:=h3 u k hu hk h6
       omega
 intro k hk
 have h5:=h1 k hk
 rcases Z1z gs cl m k with ⟨t,h6,h7,h8,_⟩ | ⟨h6,_⟩
 · have:=key t k hk h8;omega
 · have:=h4 k hk;omega
theorem Zj2 {gs:List Gp} {cl m u v:Nat} (hw:Wth gs 7) (hm:m<2 ^ 7) (ha:Adj gs cl u v):wk gs cl m v≤wk gs cl m u+1:=by
 rcases Z1z gs cl m u with ⟨t,h1,h2,h3,_⟩ | ⟨h1,_⟩
 · have:wk gs cl m v≤((t+1:Nat):Int):=(Z7Y hw hm (by unfold far;omega)).2 (spr_test.2 (.inr ⟨u,h3,ha⟩))
   omega
 · have:=(Z6p gs cl m v).2.1;omega
theorem Zci {gs:List Gp} {cl m k:Nat} (h:m.testBit k=true):wk gs cl m k=0:=by
 rcases Z1z gs cl m k with ⟨t,h1,h2,_,h4⟩ | ⟨_,h2⟩
 · cases t with
   | zero=>exact h2
   | succ t=>have:=h4 0 (by omega);rw [show lv gs cl m 0=m from rfl,h] at this;cases this
 · have:=h2 0 (by decide);rw [show lv gs cl m 0=m from rfl,h] at this;cases this
theorem Hse.ok.wth {h:Hse} (hk:h.ok):Wth h.gaps 7:=fun g hg=>by
 have:=hk.gaps g hg
 have:=hk.bins
 omega
theorem lv_bit {gs:List Gp} {cl m v:Nat}:∀ {t:Nat},(lv gs cl m t).testBit v=true↔∃ u,m.testBit u=true∧(lv gs cl (2 ^ u) t).testBit v=true:=by
 intro t
 induction t generalizing v with
 | zero =>
   show m.testBit v=true↔∃ u,m.testBit u=true∧(2 ^ u).testBit v=true
   constructor
   · intro h;exact ⟨v,h,by rw [Nat.testBit_two_pow];simp⟩
   · rintro ⟨u,h1,h2⟩
     rw [Nat.testBit_two_pow] at h2
     obtain rfl:=of_decide_eq_true h2
     exact h1
 | succ t ih =>
   show (spr gs cl (lv gs cl m t)).testBit v=true↔∃ u,m.testBit u=true∧(spr gs cl (lv gs cl (2 ^ u) t)).testBit v=true
   constructor
   · intro h
     rcases spr_test.1 h with h1 | ⟨x,h1,h2⟩
     · obtain ⟨u,h3,h4⟩:=ih.1 h1
       exact ⟨u,h3,Z18 h4⟩
     · obtain ⟨u,h3,h4⟩:=ih.1 h1
       exact ⟨u,h3,spr_test.2 (.inr ⟨x,h4,h2⟩)⟩
   · rintro ⟨u,h1,h2⟩
     rcases spr_test.1 h2 with h3 | ⟨x,h3,h4⟩
     · exact Z18 (ih.2 ⟨u,h1,h3⟩)
     · exact spr_test.2 (.inr ⟨x,ih.2 ⟨u,h1,h3⟩,h4⟩)
theorem Z7G {gs:List Gp} {cl m m' t v:Nat} (h:∀ u,m.testBit u=true→m'.testBit u=true) (hv:(lv gs cl m t).testBit v=true):(lv gs cl m' t).testBit v=true:=by
 obtain ⟨u,h1,h2⟩:=lv_bit.1 hv
 exact lv_bit.2 ⟨u,h u h1,h2⟩
def exS (gs:List Gp) (m:Nat) (s:Sgt):Bool:=decide (wk gs 0 m s.bin.toNat≤s.week) == s.seen
def Z1D (gs:List Gp) (m:Nat) (ss:List Sgt):Bool:=ss.all (exS gs m)
def Z5W (gs:List Gp) (ss:List Sgt) (k:Nat):Bool:=ss.all fun s=>s.seen||decide (s.week<wk gs 0 (2 ^ k) s.bin.toNat)
def Z5Q (gs:List Gp) (ss:List Sgt) (but week:Int) (k:Nat):Bool:=!(decide (0≤but)&&decide (wk gs 0 (2 ^ k) but.toNat≤week))&&Z5W gs ss k
def Hse.clr (h:Hse) (ss:List Sgt) (but week:Int):List Int:=((List.range h.bins.toNat).filter (Z5Q h.gaps ss but week)).map fun (k:Nat)=>(k:Int)
def Hse.agr (h:Hse) (ss:List Sgt):Bool:=Z1D h.gaps (msk (h.clr ss (-1) 0)) ss
def SOk (h:Hse) (ss:List Sgt):Prop:=∀ s∈ss,(0≤s.week∧s.week≤9)∧0≤s.bin∧s.bin<h.bins
theorem Hse.ok.lt (h:Hse) (hk:h.ok):h.bins.toNat≤7∧(h.bins.toNat:Int)=h.bins∧1≤h.bins.toNat:=by have:=hk.bins;omega
theorem Z0Y {l:List Int} {n:Nat} (h:∀ k∈l,0≤k∧k<n):msk l<2 ^ n:=Z0z fun k hk=>by
 have:=h _ ((ZK (fun k hk=>(h k hk).1) k).1 hk);omega
theorem ZiI {n m:Nat} (hn:n≤7) (h:m<2 ^ n):m<2 ^ 7:=Nat.lt_of_lt_of_le h (Nat.pow_le_pow_right (by decide) hn)
theorem ZeZ {k n:Nat} (h:k<n):2 ^ k<2 ^ n:=Nat.pow_lt_pow_right (by decide) h
theorem Zg1 {h:Hse} (hk:h.ok) {m:Nat} (hm:m<2 ^ 7) {s:Sgt} (hs:0≤s.week∧s.week≤9):exS h.gaps m s=true↔(lv h.gaps 0 m s.week.toNat).testBit s.bin.toNat=s.seen:=by
 unfold exS
 have h1:=Z7Y (k:=s.bin.toNat) hk.wth hm (t:=s.week.toNat) (cl:=0) (by unfold far;omega)
 rw [show ((s.week.toNat:Nat):Int)=s.week by omega] at h1
 rw [beq_iff_eq]
 cases hb:(lv h.gaps 0 m s.week.toNat).testBit s.bin.toNat with
 | true=>rw [hb] at h1;rw [decide_eq_true (h1.2 rfl)]
 | false=>rw [hb] at h1;rw [decide_eq_false (fun e=>by cases h1.1 e)]
theorem Z5T {h:Hse} (hk:h.ok) {m:Nat} (hm:m<2 ^ 7) {ss:List Sgt} (hs:SOk h ss):Z1D h.gaps m ss=true↔∀ s∈ss,(lv h.gaps 0 m s.week.toNat).testBit s.bin.toNat=s.seen:=by
 unfold Z1D
 rw [List.all_eq_true]
 exact forall_congr' fun s=>forall_congr' fun h1=>Zg1 hk hm (hs s h1).1
theorem Z8y {h:Hse} (hk:h.ok) {k:Nat} (hk7:k<7) {ss:List Sgt} (hs:SOk h ss):Z5W h.gaps ss k=true↔∀ s∈ss,s.seen=false→(lv h.gaps 0 (2 ^ k) s.week.toNat).testBit s.bin.toNat=false:=by
 unfold Z5W
 rw [List.all_eq_true]
 refine forall_congr' fun s=>forall_congr' fun h1=>?_
 have h2:=Z7Y (k:=s.bin.toNat) hk.wth (ZeZ hk7) (t:=s.week.toNat) (cl:=0) (by have:=(hs s h1).1;unfold far;omega)
 rw [show ((s.week.toNat:Nat):Int)=s.week by have:=(hs s h1).1;omega] at h2
 cases hse:s.seen with
 | true=>simp
 | false =>
   rw [Bool.false_or,decide_eq_true_eq]
   cases hb:(lv h.gaps 0 (2 ^ k) s.week.toNat).testBit s.bin.toNat with
   | true=>rw [hb] at h2;have:=h2.2 rfl;simp;omega
   | false=>rw [hb] at h2;simp;rcases Int.lt_or_le s.week (wk h.gaps 0 (2 ^ k) s.bin.toNat) with h3 | h3;exact h3;exact absurd (h2.1 h3) (by simp)
theorem clr_mem {h:Hse} {ss:List Sgt} {but week:Int} {j:Int}:j∈h.clr ss but week↔∃ k:Nat,k<h.bins.toNat∧Z5Q h.gaps ss but week k=true∧j=k:=by
 unfold Hse.clr
 simp only [List.mem_map,List.mem_filter,List.mem_range]
 constructor
 · rintro ⟨k,⟨h1,h2⟩,rfl⟩;exact ⟨k,h1,h2,rfl⟩
 · rintro ⟨k,h1,h2,rfl⟩;exact ⟨k,⟨h1,h2⟩,rfl⟩
theorem Z5k {h:Hse} {ss:List Sgt} {but week:Int}:∀ j∈h.clr ss but week,0≤j∧j<h.bins.toNat:=fun j hj=>by
 obtain ⟨k,h1,_,rfl⟩:=clr_mem.1 hj;omega
theorem clr_bit {h:Hse} {ss:List Sgt} {but week:Int} {k:Nat}:(msk (h.clr ss but week)).testBit k=true↔k<h.bins.toNat∧Z5Q h.gaps ss but week k=true:=by
 rw [ZK (fun j hj=>(Z5k j hj).1),clr_mem]
 constructor
 · rintro ⟨j,h1,h2,e⟩;obtain rfl:k=j:=by omega
   exact ⟨h1,h2⟩
 · rintro ⟨h1,h2⟩;exact ⟨k,h1,h2,rfl⟩
theorem Z6I {h:Hse} (hk:h.ok) {ss:List Sgt} {but week:Int}:msk (h.clr ss but week)<2 ^ h.bins.toNat:=Z0Y Z5k
theorem Z7o {h:Hse} (hk:h.ok) {ss:List Sgt} {but week:Int} (hw:week≤9) {k:Nat} (hk7:k<7):Z5Q h.gaps ss but week k=true↔(0≤but→0≤week→(lv h.gaps 0 (2 ^ k) week.toNat).testBit but.toNat=false)∧Z5W h.gaps ss k=true:=by
 unfold Z5Q
 rw [Bool.and_eq_true]
 refine and_congr ?_ Iff.rfl
 rw [Bool.not_eq_true',Bool.and_eq_false_iff,decide_eq_false_iff_not,decide_eq_false_iff_not]
 rcases Int.lt_or_le week 0 with h0 | h0
 · have:=(Z6p h.gaps 0 (2 ^ k) but.toNat).1
   constructor
   · intro _ _ h1;omega
   · intro _;right;omega
 · have h2:=Z7Y (k:=but.toNat) hk.wth (ZeZ hk7) (t:=week.toNat) (cl:=0) (by unfold far;omega)
   rw [show ((week.toNat:Nat):Int)=week by omega] at h2
   rw [h2]
   constructor
   · rintro (h3 | h3) h4 _
     · exact absurd h4 h3
     · simpa using h3
   · intro h3
     by_cases h4:0≤but
     · right;rw [h3 h4 h0];decide
     · exact .inl h4
theorem Z8u {h:Hse} (hk:h.ok) {ss:List Sgt} (hs:SOk h ss) {m:Nat} (hm:m<2 ^ h.bins.toNat) (he:Z1D h.gaps m ss=true) {but week:Int} (hw:week≤9) (hb:0≤but→0≤week→(lv h.gaps 0 m week.toNat).testBit but.toNat=false):∀ k,m.testBit k=true→(msk (h.clr ss but week)).testBit k=true:=fun k hkm=>by
 have hn:=hk.lt
 have hk1:=Z0n hm hkm
 rw [clr_bit,Z7o hk hw (by omega),Z8y hk (by omega) hs]
 rw [Z5T hk (ZiI hn.1 hm) hs] at he
 refine ⟨hk1,fun h1 h2=>?_,fun s h1 h2=>?_⟩
 · have:=hb h1 h2
   cases hc:(lv h.gaps 0 (2 ^ k) week.toNat).testBit but.toNat with
   | false=>rfl
   | true=>rw [lv_bit.2 ⟨k,hkm,hc⟩] at this;cases this
 · have:=he s h1
   rw [h2] at this
   cases hc:(lv h.gaps 0 (2 ^ k) s.week.toNat).testBit s.bin.toNat with
   | false=>rfl
   | true=>rw [lv_bit.2 ⟨k,hkm,hc⟩] at this;cases this
theorem Z8k {h:Hse} (hk:h.ok) {ss:List Sgt} (hs:SOk h ss) {m:Nat} (hm:m<2 ^ h.bins.toNat) (he:Z1D h.gaps m ss=true) {but week:Int} (hw:week≤9) (hb:0≤but→0≤week→(lv h.gaps 0 m week.toNat).testBit but.toNat=false):Z1D h.gaps (msk (h.clr ss but week)) ss=true:=by
 have hn:=hk.lt
 have hsub:=Z8u hk hs hm he hw hb
 have hc7:=ZiI hn.1 (Z6I hk (ss:=ss) (but:=but) (week:=week))
 rw [Z5T hk (ZiI hn.1 hm) hs] at he
 rw [Z5T hk hc7 hs]
 intro s h1
 cases hse:s.seen with
 | true=>exact Z7G hsub (by rw [he s h1,hse])
 | false =>
   cases hc:(lv h.gaps 0 (msk (h.clr ss but week)) s.week.toNat).testBit s.bin.toNat with
   | false=>rfl
   | true =>
     obtain ⟨u,h2,h3⟩:=lv_bit.1 hc
     obtain ⟨h4,h5⟩:=clr_bit.1 h2
     rw [Z7o hk hw (by omega),Z8y hk (by omega) hs] at h5
     rw [h5.2 s h1 hse] at h3;cases h3
theorem Z1A {h:Hse} (hk:h.ok) {ss:List Sgt} (hs:SOk h ss):h.agr ss=true↔∃ m,m<2 ^ h.bins.toNat∧Z1D h.gaps m ss=true :=
 ⟨fun h1=>⟨_,Z6I hk,h1⟩,fun ⟨_,h1,h2⟩=>Z8k hk hs h1 h2 (by decide) (fun h3=>absurd h3 (by decide))⟩
theorem Ze0 {h:Hse} (hk:h.ok) {ss:List Sgt} (hs:SOk h ss) {k:Nat} {week:Int} (hw:0≤week∧week≤9):Z1D h.gaps (msk (h.clr ss k week)) ss=false↔∀ m,m<2 ^ h.bins.toNat→Z1D h.gaps m ss=true→(lv h.gaps 0 m week.toNat).testBit k=true:=by
 have hn:=hk.lt
 constructor
 · intro h1 m hm he
   cases hc:(lv h.gaps 0 m week.toNat).testBit k with
   | true=>rfl
   | false=>rw [Z8k hk hs hm he hw.2 (fun _ _=>by rw [Int.toNat_natCast];exact hc)] at h1;cases h1
 · intro h1
   cases hc:Z1D h.gaps (msk (h.clr ss k week)) ss with
   | false=>rfl
   | true =>
     have h2:=h1 _ (Z6I hk) hc
     obtain ⟨u,h3,h4⟩:=lv_bit.1 h2
     obtain ⟨h5,h6⟩:=clr_bit.1 h3
     have h7:=((Z7o hk hw.2 (by omega)).1 h6).1 (by omega) hw.1
     rw [Int.toNat_natCast,h4] at h7;cases h7
theorem ZdH {h:Hse} (hk:h.ok) {ss:List Sgt} (hs:SOk h ss) (ha:h.agr ss=true) {k:Nat} {week:Int}:(lv h.gaps 0 (msk (h.clr ss (-1) 0)) week.toNat).testBit k=true↔∃ m,m<2 ^ h.bins.toNat∧Z1D h.gaps m ss=true∧(lv h.gaps 0 m week.toNat).testBit k=true :=
 ⟨fun h1=>⟨_,Z6I hk,ha,h1⟩,fun ⟨_,h1,h2,h3⟩=>Z7G (Z8u hk hs h1 h2 (by decide) (fun h3=>absurd h3 (by decide))) h3⟩
def ZZ (ag:List Int→Bool) (n:Nat):Nat→List Int→Nat→Option (List Int)
 | 0,l,_=>bif ag l then none else some l
 | r+1,l,fr=>(List.range' fr (n-fr)).findSome? fun (i:Nat)=>ZZ ag n r (l++[((i:Nat):Int)]) (i+1)
theorem Z3B {α:Type} {f:Nat→Option α}:∀ (n s:Nat) {x:α},(List.range' s n).findSome? f=some x→∃ k,s≤k∧k<s+n∧f k=some x∧∀ j,s≤j→j<k→f j=none
 | 0,s,x,h=>by simp at h
 | n+1,s,x,h=>by
   rw [List.range'_succ,List.findSome?_cons] at h
   cases hf:f s with
   | some y=>rw [hf] at h;obtain rfl:=Option.some.inj h;exact ⟨s,by omega,by omega,hf,fun j h1 h2=>by omega⟩
   | none =>
     rw [hf] at h
     obtain ⟨k,h1,h2,h3,h4⟩:=Z3B n (s+1) h
     exact ⟨k,by omega,by omega,h3,fun j h5 h6=>by
       rcases Nat.eq_or_lt_of_le h5 with rfl | h7
       · exact hf
       · exact h4 j (by omega) h6⟩
theorem Z66 {ag:List Int→Bool} {n:Nat}:∀ (y:List Nat) {fr:Nat} {l:List Int},ZZ ag n y.length l fr=none→y.Pairwise (· < ·)→(∀ j∈y,fr≤j∧j<n)→ag (l++y.map fun (j:Nat)=>(j:Int))=true
 | [],fr,l,h,_,_=>by
   simp only [List.length_nil,ZZ] at h
   cases ha:ag l with
   | true=>simpa using ha
   | false=>rw [ha] at h;cases h
 | j::y,fr,l,h,hp,hb=>by
   rw [List.length_cons,ZZ,List.findSome?_eq_none_iff] at h
   have hj:=hb j (by simp)
   have h1:=h j (List.mem_range'_1.2 ⟨hj.1,by omega⟩)
   obtain ⟨h2,h3⟩:=List.pairwise_cons.1 hp
   have h4:=Z66 y h1 h3 (fun i hi=>⟨h2 i hi,(hb i (by simp [hi])).2⟩)
   simpa using h4
theorem and0_iff {a b:Nat}:a&&&b=0↔∀ i,(a.testBit i&&b.testBit i)=false:=by
 constructor
 · intro h i;rw [← Nat.testBit_and,h,Nat.zero_testBit]
 · intro h;exact Nat.eq_of_testBit_eq fun i=>by rw [Nat.testBit_and,h,Nat.zero_testBit]
theorem Zf9 {a b:Nat} (ha:a%2=1) (hb:b%2=1):a&&&b≠0:=fun h=>by
 have:=Nat.and_mod_two_eq_one.2 ⟨ha,hb⟩;rw [h] at this;cases this
theorem Zcy {a b:Nat} (h:¬ (a%2=1∧b%2=1)):a&&&b=0↔a / 2&&&b / 2=0:=by
 have h1:¬ (a&&&b)%2=1:=fun e=>h (Nat.and_mod_two_eq_one.1 e)
 rw [← Nat.and_div_two];omega
theorem Ze9:∀ (n:Nat) {a b:Nat},a≤n→a&&&b=0→a+b=a|||b
 | 0, a, b, hn, _ => by obtain rfl : a = 0 := by omega
                        simp
 | n+1,a,b,hn,h=>by
   have h0:¬ (a%2=1∧b%2=1):=fun e=>Zf9 e.1 e.2 h
   by_cases ha:a=0
   · subst ha;simp
   have ih:=Ze9 n (a:=a / 2) (b:=b / 2) (by omega) ((Zcy h0).1 h)
   have h1:=Nat.or_div_two (a:=a) (b:=b)
   have h2:=Nat.or_mod_two_eq_one (a:=a) (b:=b)
   rcases Nat.mod_two_eq_zero_or_one a with ea | ea<;>rcases Nat.mod_two_eq_zero_or_one b with eb | eb
   · have:¬ (a|||b)%2=1:=fun e=>by rcases h2.1 e with e | e<;>omega
     omega
   · have:=h2.2 (.inr eb);omega
   · have:=h2.2 (.inl ea);omega
   · exact absurd ⟨ea,eb⟩ h0
theorem Zct {a b:Nat} (h:a&&&b=0) (i:Nat):(a+b).testBit i=(a.testBit i||b.testBit i):=by rw [Ze9 a (Nat.le_refl _) h,Nat.testBit_or]
theorem Zf3 {a v:Nat} (h:a.testBit v=false) (i:Nat):(a+2 ^ v).testBit i=(a.testBit i||decide (v=i)):=by
 rw [Zct (and0_iff.2 fun j=>?_),Nat.testBit_two_pow]
 rw [Nat.testBit_two_pow]
 by_cases e:v=j
 · subst e;rw [h];rfl
 · rw [decide_eq_false e,Bool.and_false]
theorem Z7n {a n i:Nat} (h:a<2 ^ n) (hi:n≤i):a.testBit i=false:=Nat.testBit_lt_two_pow (Nat.lt_of_lt_of_le h (Nat.pow_le_pow_right (by decide) hi))
theorem Z9Z (p:Nat→Bool):∀ n,∃ t,t<2 ^ n∧∀ j,t.testBit j=(decide (j<n)&&p j)
 | 0=>⟨0,by decide,fun j=>by simp⟩
 | n+1=>by
   obtain ⟨t,h1,h2⟩:=Z9Z p n
   have hn:t.testBit n=false:=by rw [h2];simp
   cases hp:p n
   · refine ⟨t,by rw [Nat.pow_succ];omega,fun j=>?_⟩
     rw [h2]
     by_cases e:j=n
     · subst e;simp [hp]
     · rw [show decide (j<n+1)=decide (j<n) from decide_eq_decide.2 (by omega)]
   · refine ⟨t+2 ^ n,by rw [Nat.pow_succ];omega,fun j=>?_⟩
     rw [Zf3 hn,h2]
     by_cases e:j=n
     · subst e;simp [hp]
     · rw [show decide (j<n+1)=decide (j<n) from decide_eq_decide.2 (by omega),decide_eq_false (show ¬ n=j by omega),Bool.or_false]
def Zs (s:Nat):List Int:=((List.range 10).filter fun i=>s.testBit i).map fun (i:Nat)=>(i:Int)
def Z9s (s n:Nat):List Int:=((List.range n).filter fun i=>s.testBit i).map fun (i:Nat)=>(i:Int)
theorem Zbn {s n:Nat} (h:s / 2 ^ n%2=1):Z9s s (n+1)=Z9s s n++[(n:Int)]:=by
 have h1:s.testBit n=true:=by rw [Nat.testBit_eq_decide_div_mod_eq,decide_eq_true h]
 unfold Z9s
 rw [List.range_succ,List.filter_append,List.map_append,List.filter_cons,h1];rfl
theorem Z64 {s n:Nat} (h:s / 2 ^ n%2≠1):Z9s s (n+1)=Z9s s n:=by
 have h1:s.testBit n=false:=by rw [Nat.testBit_eq_decide_div_mod_eq,decide_eq_false h]
 unfold Z9s
 rw [List.range_succ,List.filter_append,List.map_append,List.filter_cons,h1];simp
theorem Z8I {s n:Nat} (h:s<2 ^ n):∀ k,Z9s s (n+k)=Z9s s n
 | 0=>rfl
 | k+1=>by
   rw [← Z8I h k]
   refine Z64 (n:=n+k) fun e=>?_
   rw [Nat.div_eq_of_lt (Nat.lt_of_lt_of_le h (Nat.pow_le_pow_right (by decide) (Nat.le_add_right _ _)))] at e;cases e
theorem Z63 (s n:Nat):(Z9s s n).length≤n:=by
 unfold Z9s
 rw [List.length_map]
 exact Nat.le_trans (List.length_filter_le _ _) (by simp)
theorem Z22 (s:Nat):(Zs s).length≤10:=Z63 s 10
theorem Zbl {s n:Nat} (h:s / 2 ^ n=0) (hn:n≤10):Z9s s n=Zs s:=by
 have:=Z8I (s:=s) (n:=n) (by
   rcases Nat.lt_or_ge s (2 ^ n) with h1 | h1
   · exact h1
   · have:=Nat.div_pos h1 (Nat.pow_pos (by decide));omega) (10-n)
 rw [← this,show n+(10-n)=10 by omega];rfl
theorem Z96:∀ {a b:List Nat},a.Pairwise (· < ·)→b.Pairwise (· < ·)→(∀ x,x∈a↔x∈b)→a=b
 | [],[],_,_,_=>rfl
 | [],y::b,_,_,h=>by have:=(h y).2 (by simp);cases this
 | x::a,[],_,_,h=>by have:=(h x).1 (by simp);cases this
 | x::a,y::b,ha,hb,h=>by
   obtain ⟨h1,h2⟩:=List.pairwise_cons.1 ha
   obtain ⟨h3,h4⟩:=List.pairwise_cons.1 hb
   have hxy:x=y:=by
     rcases List.mem_cons.1 ((h x).1 (by simp)) with e | e
     · exact e
     · rcases List.mem_cons.1 ((h y).2 (by simp)) with e2 | e2
       · exact e2.symm
       · have:=h3 x e;have:=h1 y e2;omega
   subst hxy
   rw [Z96 h2 h4 fun z=>?_]
   constructor
   · intro hz
     rcases List.mem_cons.1 ((h z).1 (by simp [hz])) with e | e
     · subst e;exact absurd (h1 z hz) (Nat.lt_irrefl _)
     · exact e
   · intro hz
     rcases List.mem_cons.1 ((h z).2 (by simp [hz])) with e | e
     · subst e;exact absurd (h3 z hz) (Nat.lt_irrefl _)
     · exact e
theorem Z23 (s:Nat):∃ y:List Nat,Zs s=(y.map fun (j:Nat)=>(j:Int))∧y.Pairwise (· < ·)∧∀ j,j∈y↔j<10∧s.testBit j=true :=
 ⟨_,rfl,List.pairwise_lt_range.filter _,fun j=>by rw [List.mem_filter,List.mem_range]⟩
theorem Zbm {y:List Nat} {n:Nat} (h6:n≤10) (hp:y.Pairwise (· < ·)) (hn:∀ j∈y,j<n):∃ t,t<2 ^ n∧Zs t=(y.map fun (j:Nat)=>(j:Int))∧(y≠[]→1≤t):=by
 obtain ⟨t,h1,h2⟩:=Z9Z (fun i=>decide (i∈y)) n
 have hm:∀ j,(j<10∧t.testBit j=true)↔j∈y:=fun j=>by
   rw [h2,Bool.and_eq_true,decide_eq_true_eq,decide_eq_true_eq]
   exact ⟨fun h=>h.2.2,fun h=>⟨by have:=hn j h;omega,hn j h,h⟩⟩
 refine ⟨t,h1,?_,fun hy=>?_⟩
 · obtain ⟨z,e,h3,h4⟩:=Z23 t
   rw [e,Z96 h3 hp fun j=>(h4 j).trans (hm j)]
 · obtain ⟨j,hj⟩:=List.exists_mem_of_ne_nil _ hy
   have:=((hm j).2 hj).2
   rcases Nat.eq_zero_or_pos t with e | e
   · rw [e,Nat.zero_testBit] at this;cases this
   · exact e
def Z39:List Int→List Int→Bool
 | x::a,y::b=>bif decide (x≠y) then decide (x<y) else Z39 a b
 | _,_=>false
def ahB (a b:List Int):Bool:=bif decide (a.length≠b.length) then decide (a.length<b.length) else Z39 a b
theorem Z6S:∀ {a b:List Int},a.length=b.length→Z39 a b=false→Z39 b a=false→a=b
 | [],[],_,_,_=>rfl
 | [],_::_,h,_,_=>by cases h
 | _::_,[],h,_,_=>by cases h
 | x::a,y::b,h,h1,h2=>by
   unfold Z39 at h1 h2
   by_cases e:x=y
   · subst e
     rw [decide_eq_false (by simp)] at h1 h2
     rw [Z6S (by simpa using h) h1 h2]
   · rw [decide_eq_true e] at h1
     rw [decide_eq_true (show y≠x from fun h=>e h.symm)] at h2
     have h1:=of_decide_eq_false h1
     have h2:=of_decide_eq_false h2
     omega
theorem Z84 {a b:List Int} (h1:ahB a b=false) (h2:ahB b a=false):a=b:=by
 unfold ahB at h1 h2
 by_cases e:a.length=b.length
 · rw [decide_eq_false (by simpa using e)] at h1
   rw [decide_eq_false (by simpa using e.symm)] at h2
   exact Z6S e h1 h2
 · rw [decide_eq_true e] at h1
   rw [decide_eq_true (show b.length≠a.length from fun h=>e h.symm)] at h2
   have h1:=of_decide_eq_false h1
   have h2:=of_decide_eq_false h2
   omega
theorem Z6T:∀ {a b c:List Int},a.length=b.length→b.length=c.length→Z39 a b=true→Z39 c b=false→Z39 a c=true
 | [],_,_,_,_,h,_=>by unfold Z39 at h;cases h
 | _::_,[],_,h,_,_,_=>by cases h
 | _::_,_::_,[],_,h,_,_=>by cases h
 | x::a,y::b,z::c,h1,h2,h3,h4=>by
   unfold Z39 at h3 h4 ⊢
   by_cases e:z=y
   · subst e
     rw [decide_eq_false (by simp)] at h4
     by_cases e2:x=z
     · subst e2
       rw [decide_eq_false (by simp)] at h3 ⊢
       exact Z6T (by simpa using h1) (by simpa using h2) h3 h4
     · rw [decide_eq_true e2] at h3 ⊢;exact h3
   · rw [decide_eq_true e] at h4
     have h4:=of_decide_eq_false h4
     by_cases e2:x=y
     · subst e2
       rw [decide_eq_true (show x≠z from fun h=>e h.symm)]
       exact decide_eq_true (by omega)
     · rw [decide_eq_true e2] at h3
       have h3:=of_decide_eq_true h3
       rw [decide_eq_true (show x≠z by omega)]
       exact decide_eq_true (by omega)
theorem Z8B:∀ {a b:List Int},Z39 a b=true→Z39 b a=false
 | [],_,h=>by unfold Z39 at h;cases h
 | _::_,[],h=>by unfold Z39 at h;cases h
 | x::a,y::b,h=>by
   unfold Z39 at h ⊢
   by_cases e:x=y
   · subst e
     rw [decide_eq_false (by simp)] at h ⊢
     exact Z8B h
   · rw [decide_eq_true e] at h
     rw [decide_eq_true (show y≠x from fun h=>e h.symm)]
     have h:=of_decide_eq_true h
     exact decide_eq_false (by omega)
theorem Z7k {a b:List Int} (h:ahB a b=true):ahB b a=false:=by
 unfold ahB at h ⊢
 by_cases e:a.length=b.length
 · rw [decide_eq_false (by simpa using e)] at h
   rw [decide_eq_false (by simpa using e.symm)]
   exact Z8B h
 · rw [decide_eq_true e] at h
   rw [decide_eq_true (show b.length≠a.length from fun h=>e h.symm)]
   have h:=of_decide_eq_true h
   exact decide_eq_false (by omega)
theorem Z5D {a b c:List Int} (h1:ahB a b=true) (h2:ahB c b=false):ahB a c=true:=by
 unfold ahB at h1 h2 ⊢
 by_cases e:c.length=b.length
 · rw [decide_eq_false (by simpa using e)] at h2
   by_cases e2:a.length=b.length
   · rw [decide_eq_false (by simpa using e2)] at h1
     rw [decide_eq_false (by simpa [e] using e2)]
     exact Z6T e2 e.symm h1 h2
   · rw [decide_eq_true e2] at h1
     rw [decide_eq_true (by rw [e];exact e2),e];exact h1
 · rw [decide_eq_true e] at h2
   have h2:=of_decide_eq_false h2
   by_cases e2:a.length=b.length
   · rw [decide_eq_true (by omega)];exact decide_eq_true (by omega)
   · rw [decide_eq_true e2] at h1
     have h1:=of_decide_eq_true h1
     rw [decide_eq_true (by omega)];exact decide_eq_true (by omega)
theorem Z67 {ag:List Int→Bool} {n:Nat}:∀ {r fr:Nat} {l x:List Int},ZZ ag n r l fr=some x→∃ y:List Nat,x=l++(y.map fun (j:Nat)=>(j:Int))∧y.length=r∧y.Pairwise (· < ·)∧(∀ j∈y,fr≤j∧j<n)∧ag x=false
 | 0,fr,l,x,h=>by
   unfold ZZ at h
   cases ha:ag l with
   | true=>rw [ha] at h;cases h
   | false=>rw [ha] at h;obtain rfl:=Option.some.inj h;exact ⟨[],by simp,rfl,List.Pairwise.nil,by simp,ha⟩
 | r+1,fr,l,x,h=>by
   unfold ZZ at h
   obtain ⟨i,hi,h1⟩:=List.exists_of_findSome?_eq_some h
   rw [List.mem_range'_1] at hi
   obtain ⟨y,rfl,h2,h3,h4,h5⟩:=Z67 h1
   refine ⟨i::y,by simp,by simp [h2],List.pairwise_cons.2 ⟨fun j hj=>(h4 j hj).1,h3⟩,fun j hj=>?_,h5⟩
   rcases List.mem_cons.1 hj with rfl | hj
   · omega
   · have:=h4 j hj;omega
theorem Z5p {ag:List Int→Bool} {n:Nat}:∀ {r fr:Nat} {l x:List Int},ZZ ag n r l fr=some x→∀ y:List Nat,y.length=r→y.Pairwise (· < ·)→(∀ j∈y,fr≤j∧j<n)→ag (l++y.map fun (j:Nat)=>(j:Int))=false→∃ z,x=l++z∧Z39 (y.map fun (j:Nat)=>(j:Int)) z=false
 | 0,fr,l,x,h,y,hy,_,_,_=>by
   obtain rfl:=List.eq_nil_of_length_eq_zero hy
   unfold ZZ at h
   cases ha:ag l with
   | true=>rw [ha] at h;cases h
   | false=>rw [ha] at h;obtain rfl:=Option.some.inj h;exact ⟨[],by simp,rfl⟩
 | r+1,fr,l,x,h,[],hy,_,_,_=>by cases hy
 | r+1,fr,l,x,h,j::y,hy,hp,hb,ha=>by
   unfold ZZ at h
   obtain ⟨i,h1,h2,h3,h4⟩:=Z3B _ _ h
   have hj:=hb j (by simp)
   obtain ⟨h5,h6⟩:=List.pairwise_cons.1 hp
   have hb2:∀ q∈y,j+1≤q∧q<n:=fun q hq=>⟨h5 q hq,(hb q (by simp [hq])).2⟩
   have hyr:y.length=r:=by simpa using hy
   have ha2:ag ((l++[(j:Int)])++y.map fun (j:Nat)=>(j:Int))=false:=by simpa using ha
   rcases Nat.lt_trichotomy j i with hji | rfl | hji
   · have h7:=h4 j hj.1 hji
     rw [← hyr] at h7
     rw [Z66 y h7 h6 hb2] at ha2;cases ha2
   · obtain ⟨z,rfl,hz⟩:=Z5p h3 y hyr h6 hb2 ha2
     refine ⟨(j:Int)::z,by simp,?_⟩
     simp only [List.map_cons,Z39]
     rw [decide_eq_false (by simp)];exact hz
   · obtain ⟨w,rfl,_⟩:=Z67 h3
     refine ⟨(i:Int)::w.map fun (j:Nat)=>(j:Int),by simp,?_⟩
     simp only [List.map_cons,Z39]
     rw [decide_eq_true (show (j:Int)≠i by omega)]
     exact decide_eq_false (by omega)
structure BestI (P:Nat→Bool) (k:Nat) (f:Bool) (b:List Int):Prop where
 no:f=false→(∀ t,1≤t→t<k→P t=true)∧b=[]
 yes:f=true→(∃ t,1≤t∧t<k∧P t=false∧b=Zs t)∧∀ t,1≤t→t<k→P t=false→ahB (Zs t) b=false
theorem BestI.start (P:Nat→Bool):BestI P 1 false []:=⟨fun _=>⟨fun t h1 h2=>by omega,rfl⟩,(fun h=>by cases h)⟩
theorem Z7l (a:List Int):ahB a a=false:=by
 unfold ahB
 rw [decide_eq_false (by simp)]
 show Z39 a a=false
 induction a with
 | nil=>rfl
 | cons x a ih=>unfold Z39;rw [decide_eq_false (by simp)];exact ih
theorem BestI.take {P:Nat→Bool} {k:Nat} {f:Bool} {b:List Int} (h:BestI P k f b) (hk:1≤k) (h1:f=false∨ahB (Zs k) b=true) (h2:P k=false):BestI P (k+1) true (Zs k):=by
 refine ⟨(fun h=>by cases h),fun _=>⟨⟨k,hk,by omega,h2,rfl⟩,fun t t1 t2 t3=>?_⟩⟩
 by_cases e:t=k
 · subst e;exact Z7l _
 · cases hf:f with
   | false=>rw [(h.no hf).1 t t1 (by omega)] at t3;cases t3
   | true =>
     have h3:=(h.yes hf).2 t t1 (by omega) t3
     have h4:=h1.resolve_left (by rw [hf];simp)
     exact Z7k (Z5D h4 h3)
theorem BestI.skip {P:Nat→Bool} {k:Nat} {f:Bool} {b:List Int} (h:BestI P k f b) (h1:P k=true∨(f=true∧ahB (Zs k) b=false)):BestI P (k+1) f b:=by
 refine ⟨fun hf=>⟨fun t t1 t2=>?_,(h.no hf).2⟩,fun hf=>⟨?_,fun t t1 t2 t3=>?_⟩⟩
 · by_cases e:t=k
   · subst e
     rcases h1 with h1 | h1
     · exact h1
     · rw [h1.1] at hf;cases hf
   · exact (h.no hf).1 t t1 (by omega)
 · obtain ⟨t,t1,t2,t3⟩:=(h.yes hf).1
   exact ⟨t,t1,by omega,t3⟩
 · by_cases e:t=k
   · subst e
     rcases h1 with h1 | h1
     · rw [h1] at t3;cases t3
     · exact h1.2
   · exact (h.yes hf).2 t t1 (by omega) t3
def Z0t (has:List Int→Bool) (n:Nat):Option (List Int):=(List.range' 0 (n+1)).findSome? fun k=>ZZ (fun l=>!has l) n k [] 0
theorem Z35 {has:List Int→Bool} {n:Nat} {x:List Int} (h:Z0t has n=some x):(∃ y:List Nat,x=(y.map fun (j:Nat)=>(j:Int))∧y.Pairwise (· < ·)∧(∀ j∈y,j<n)∧has x=true) ∧
   ∀ y:List Nat,y.length≤n→y.Pairwise (· < ·)→(∀ j∈y,j<n)→has (y.map fun (j:Nat)=>(j:Int))=true→ahB (y.map fun (j:Nat)=>(j:Int)) x=false:=by
 obtain ⟨k,k1,k2,k3,k4⟩:=Z3B _ _ h
 obtain ⟨y,e,h1,h2,h3,h4⟩:=Z67 k3
 rw [List.nil_append] at e
 refine ⟨⟨y,e,h2,fun j hj=>(h3 j hj).2,by simpa using h4⟩,fun z hzn hp hb ha=>?_⟩
 have hxl:x.length=k:=by rw [e,List.length_map,h1]
 have ha':(fun l=>!has l) (z.map fun (j:Nat)=>(j:Int))=false:=by simp [ha]
 unfold ahB
 rw [List.length_map,hxl]
 rcases Nat.lt_trichotomy z.length k with hl | hl | hl
 · have h5:=k4 z.length (Nat.zero_le _) hl
   have h6:=Z66 z h5 hp (fun j hj=>⟨Nat.zero_le _,hb j hj⟩)
   rw [List.nil_append] at h6;rw [ha] at h6;cases h6
 · rw [decide_eq_false (by simpa using hl)]
   obtain ⟨w,hw,hl2⟩:=Z5p k3 z hl hp (fun j hj=>⟨Nat.zero_le _,hb j hj⟩) (by rw [List.nil_append];exact ha')
   rw [List.nil_append] at hw
   rw [hw];exact hl2
 · rw [decide_eq_true (by omega)]
   exact decide_eq_false (by omega)
theorem Z6h {y:List Nat} {n:Nat} (hp:y.Pairwise (· < ·)) (hn:∀ j∈y,j<n):y.length≤n:=by
 have h1:y.Nodup:=hp.imp fun h e=>by omega
 have h2:=h1.length_le_of_subset (l₂:=List.range n) fun j hj=>List.mem_range.2 (hn j hj)
 simpa using h2
theorem Z3M {has:List Int→Bool} {n:Nat} {y:List Nat} (hp:y.Pairwise (· < ·)) (hn:∀ j∈y,j<n) (h:has (y.map fun (j:Nat)=>(j:Int))=true):∃ x,Z0t has n=some x:=by
 have hl:=Z6h hp hn
 rcases hs:Z0t has n with _ | x
 · unfold Z0t at hs
   have h1:=List.findSome?_eq_none_iff.1 hs y.length (List.mem_range'_1.2 ⟨Nat.zero_le _,by omega⟩)
   have h2:=Z66 y h1 hp (fun j hj=>⟨Nat.zero_le _,hn j hj⟩)
   rw [List.nil_append] at h2
   simp [h] at h2
 · exact ⟨x,rfl⟩
theorem Z4P {has:List Int→Bool} {n:Nat} (hn:n≤10) {x:List Int} (h:Z0t has n=some x):(∃ t,t<2 ^ n∧Zs t=x)∧has x=true∧∀ t,t<2 ^ n→has (Zs t)=true→ahB (Zs t) x=false:=by
 obtain ⟨⟨y,e,hp,hb,hh⟩,hmin⟩:=Z35 h
 obtain ⟨t,t1,t2,_⟩:=Zbm hn hp hb
 refine ⟨⟨t,t1,by rw [t2,e]⟩,hh,fun s hs h1=>?_⟩
 obtain ⟨z,e2,h3,h4⟩:=Z23 s
 rw [e2] at h1 ⊢
 have hz:∀ j∈z,j<n:=fun j hj=>by
   rcases Nat.lt_or_ge j n with h5 | h5
   · exact h5
   · have:=((h4 j).1 hj).2;rw [Z7n hs h5] at this;cases this
 exact hmin z (Z6h h3 hz) h3 hz h1
theorem Z9C {has:List Int→Bool} {n:Nat} (h:Z0t has n=none):∀ t,t<2 ^ n→has (Zs t)=true→n≤10→False:=fun t ht h1 hn=>by
 obtain ⟨z,e2,h3,h4⟩:=Z23 t
 rw [e2] at h1
 obtain ⟨x,hx⟩:=Z3M (n:=n) h3 (fun j hj=>by
   rcases Nat.lt_or_ge j n with h5 | h5
   · exact h5
   · have:=((h4 j).1 hj).2;rw [Z7n ht h5] at this;cases this) h1
 rw [h] at hx;cases hx
theorem memL_bit {t:Nat} {j:Int}:j∈Zs t↔∃ k:Nat,k<10∧t.testBit k=true∧j=k:=by
 obtain ⟨y,e,_,h⟩:=Z23 t
 rw [e,List.mem_map]
 constructor
 · rintro ⟨k,hk,rfl⟩;exact ⟨k,((h k).1 hk).1,((h k).1 hk).2,rfl⟩
 · rintro ⟨k,h1,h2,rfl⟩;exact ⟨k,(h k).2 ⟨h1,h2⟩,rfl⟩
theorem Z1x {t:Nat} (ht:t<2 ^ 10):msk (Zs t)=t:=Z0i fun k=>by
 rw [Bool.eq_iff_iff,ZK (fun j hj=>by obtain ⟨q,_,_,rfl⟩:=memL_bit.1 hj;omega),memL_bit]
 constructor
 · rintro ⟨q,_,h2,e⟩;obtain rfl:k=q:=by omega
   exact h2
 · intro h;exact ⟨k,Z0n ht h,h,rfl⟩
def chi (X v:Nat):Int:=bif X.testBit v then 1 else 0
def Z5a (F:Nat→Gp→Int):List Gp→Nat→Int
 | [],_=>0
 | g::gs,i=>F i g+Z5a F gs (i+1)
theorem Z4k (F G:Nat→Gp→Int):∀ (gs:List Gp) (i:Nat),Z5a (fun i g=>F i g+G i g) gs i=Z5a F gs i+Z5a G gs i
 | [],_=>rfl
 | g::gs,i=>by simp only [Z5a,Z4k F G gs (i+1)];omega
theorem Z3O {F G:Nat→Gp→Int}:∀ {gs:List Gp} {i:Nat},(∀ j g,gs[j]?=some g→F (i+j) g≤G (i+j) g)→Z5a F gs i≤Z5a G gs i
 | [],_,_=>Int.le_refl _
 | g::gs,i,h=>by
   have h0:=h 0 g rfl
   have h1:=Z3O (gs:=gs) (i:=i+1) (F:=F) (G:=G) fun j g' hj=>by
     have:=h (j+1) g' (by simpa using hj)
     rwa [show i+(j+1)=i+1+j by omega] at this
   simp only [Z5a]
   rw [Nat.add_zero] at h0
   omega
theorem Z3N {F G:Nat→Gp→Int} {gs:List Gp} {i:Nat} (h:∀ j g,gs[j]?=some g→F (i+j) g=G (i+j) g):Z5a F gs i=Z5a G gs i :=
 Int.le_antisymm (Z3O fun j g hj=>Int.le_of_eq (h j g hj)) (Z3O fun j g hj=>Int.le_of_eq (h j g hj).symm)
theorem Z2s (gs:List Gp) (i:Nat):Z5a (fun _ _=>0) gs i=0:=by
 induction gs generalizing i with
 | nil=>rfl
 | cons g gs ih=>simp only [Z5a,ih];rfl
def Z1r (f:Nat→Int) (X:Nat) (gs:List Gp):Int:=Z5a (fun i g=>f i*(chi X g.a.toNat-chi X g.b.toNat)) gs 0
theorem Zeo {X v k:Nat} (h:X.testBit v=false):chi (X|||2 ^ v) k=chi X k+chi (2 ^ v) k:=by
 unfold chi
 rw [Nat.testBit_or,Nat.testBit_two_pow]
 by_cases e:v=k
 · subst e;rw [h];simp
 · rw [decide_eq_false e];cases X.testBit k<;>rfl
theorem Zg5 {f:Nat→Int} {X v:Nat} {gs:List Gp} (h:X.testBit v=false):Z1r f (X|||2 ^ v) gs=Z1r f X gs+Z1r f (2 ^ v) gs:=by
 unfold Z1r
 rw [← Z4k]
 refine Z3N fun j g _=>?_
 rw [Zeo h,Zeo h,← Int.mul_add]
 congr 1
 omega
def Zjg (f:Nat→Int) (S K:Nat) (gs:List Gp):Prop:=∀ v,v<7→S.testBit v=false→K.testBit v=false→Z1r f (2 ^ v) gs=0
theorem Z5U {f:Nat→Int} {S K X:Nat} {gs:List Gp} (hc:Zjg f S K gs) (hX:X<2 ^ 7) (hS:∀ v,S.testBit v=true→X.testBit v=true) (hK:∀ v,K.testBit v=true→X.testBit v=false):Z1r f X gs=Z1r f S gs:=by
 have key:∀ n,n≤7→∃ Y,(∀ v,Y.testBit v=(S.testBit v||(decide (v<n)&&X.testBit v)))∧Z1r f Y gs=Z1r f S gs:=by
   intro n
   induction n with
   | zero=>intro _;exact ⟨S,fun v=>by simp,rfl⟩
   | succ n ih =>
     intro hn
     obtain ⟨Y,h1,h2⟩:=ih (by omega)
     by_cases hx:X.testBit n=true∧S.testBit n=false
     · refine ⟨Y|||2 ^ n,fun v=>?_,?_⟩
       · rw [Nat.testBit_or,h1,Nat.testBit_two_pow]
         by_cases e:n=v
         · subst e;rw [hx.1,hx.2];simp
         · rw [decide_eq_false e,show decide (v<n+1)=decide (v<n) from decide_eq_decide.2 (by omega),Bool.or_false]
       · have hy:Y.testBit n=false:=by rw [h1,hx.2];simp
         rw [Zg5 hy,h2,hc n (by omega) hx.2 ?_]
         · omega
         · cases hk:K.testBit n with
           | false=>rfl
           | true=>rw [hK n hk] at hx;cases hx.1
     · refine ⟨Y,fun v=>?_,h2⟩
       rw [h1]
       by_cases e:v=n
       · subst e
         cases hs:S.testBit v with
         | true=>simp
         | false =>
           cases hv:X.testBit v with
           | true=>exact absurd ⟨hv,hs⟩ hx
           | false=>simp
       · rw [show decide (v<n+1)=decide (v<n) from decide_eq_decide.2 (by omega)]
 obtain ⟨Y,h1,h2⟩:=key 7 (Nat.le_refl _)
 have:Y=X:=Z0i fun v=>by
   rw [h1]
   cases hx:X.testBit v with
   | true=>rw [decide_eq_true (Z0n hX hx)];simp
   | false =>
     cases hs:S.testBit v with
     | true=>rw [hS v hs] at hx;cases hx
     | false=>simp
 rw [← this,h2]
def crs (X:Nat) (g:Gp):Bool:=X.testBit g.a.toNat != X.testBit g.b.toNat
def Z1C (X:Nat) (gs:List Gp):List Int:=((List.range gs.length).filter fun i=>match gs[i]? with | some g=>crs X g | none=>false).map fun (i:Nat)=>(i:Int)
def ZfU (X:Nat) (gs:List Gp):Int:=Z5a (fun _ g=>bif crs X g then 1 else 0) gs 0
theorem Z5R (X:Nat):∀ gs:List Gp,ZfU X gs=(Z1C X gs).length:=by
 intro gs
 have key:∀ (gs:List Gp),ZfU X gs=((gs.filter fun g=>crs X g).length:Int):=by
   intro gs
   unfold ZfU
   have:∀ i,Z5a (fun _ g=>bif crs X g then 1 else 0) gs i=((gs.filter fun g=>crs X g).length:Int):=by
     induction gs with
     | nil=>intro i;rfl
     | cons g gs ih =>
       intro i
       simp only [Z5a,ih (i+1),List.filter_cons]
       cases crs X g<;>simp<;>omega
   exact this 0
 rw [key]
 unfold Z1C
 rw [List.length_map]
 congr 1
 have:∀ (gs:List Gp),(gs.filter fun g=>crs X g).length=((List.range gs.length).filter fun i=>match gs[i]? with | some g=>crs X g | none=>false).length:=by
   intro gs
   induction gs with
   | nil=>rfl
   | cons g gs ih =>
     rw [List.length_cons,List.range_succ_eq_map,List.filter_cons,List.filter_cons,List.filter_map]
     have e:((fun i=>match (g::gs)[i]? with | some g=>crs X g | none=>false) ∘ Nat.succ)=fun i=>match gs[i]? with | some g=>crs X g | none=>false:=by funext i;simp
     rw [e]
     simp only [List.getElem?_cons_zero]
     split<;>simp [ih]
 exact this gs
theorem ZaZ {f:Nat→Int} {X:Nat} {gs:List Gp} (hf:∀ i,-1≤f i∧f i≤1):Z1r f X gs≤ZfU X gs:=by
 unfold Z1r ZfU
 refine Z3O fun j g _=>?_
 have:=hf (0+j)
 rw [Nat.zero_add] at this ⊢
 unfold crs chi
 cases X.testBit g.a.toNat<;>cases X.testBit g.b.toNat<;>simp<;>omega
theorem ZaY {f:Nat→Int} {X:Nat} {gs:List Gp} (hf:∀ i,-1≤f i∧f i≤1) (h:∀ i g,gs[i]?=some g→(X.testBit g.a.toNat=true→X.testBit g.b.toNat=false→1≤f i)∧(X.testBit g.b.toNat=true→X.testBit g.a.toNat=false→f i ≤ -1)):Z1r f X gs=ZfU X gs:=by
 unfold Z1r ZfU
 refine Z3N fun j g hj=>?_
 have h1:=h j g hj
 have:=hf j
 rw [Nat.zero_add]
 unfold crs chi
 cases ha:X.testBit g.a.toNat<;>cases hb:X.testBit g.b.toNat
 · simp
 · have:=h1.2 hb ha;simp;omega
 · have:=h1.1 ha hb;simp;omega
 · simp
def Shut (gs:List Gp) (cl S K:Nat):Prop:=∀ t v,(lv gs cl S t).testBit v=true→K.testBit v=false
theorem ZgA {f:Nat→Int} {S K C:Nat} {gs:List Gp} (hw:Wth gs 7) (hS:S<2 ^ 7) (hf:∀ i,-1≤f i∧f i≤1) (hc:Zjg f S K gs) (hs:Shut gs C S K):Z1r f S gs≤((List.range gs.length).filter fun i=>C.testBit i).length:=by
 have hX:=Z9r hw hS (cl:=C) 7
 have h1:=Z5U hc hX (fun v hv=>Zbj (t:=0) (by decide) hv) (fun v hv=>by
   cases hx:(lv gs C S 7).testBit v with
   | false=>rfl
   | true=>rw [hs 7 v hx] at hv;cases hv)
 have h2:=ZaZ (X:=lv gs C S 7) (gs:=gs) hf
 rw [h1,Z5R] at h2
 refine Int.le_trans h2 (Int.ofNat_le.2 ?_)
 unfold Z1C
 rw [List.length_map]
 rw [← List.countP_eq_length_filter,← List.countP_eq_length_filter]
 refine List.countP_mono_left fun i _ hi=>?_
 cases hg:gs[i]? with
 | none=>rw [hg] at hi;cases hi
 | some g =>
   rw [hg] at hi
   cases hb:C.testBit i with
   | true=>rfl
   | false =>
     have hst:spr gs C (lv gs C S 7)=lv gs C S 7:=by
       have:=Z4I (gs:=gs) (n:=7) (cl:=C) (m:=S) hw hS (t:=7) (by decide) (j:=8) (by decide)
       exact this
     dsimp only at hi
     unfold crs at hi
     cases ha:(lv gs C S 7).testBit g.a.toNat<;>cases hbb:(lv gs C S 7).testBit g.b.toNat
     · rw [ha,hbb] at hi;cases hi
     · have:(spr gs C (lv gs C S 7)).testBit g.a.toNat=true:=spr_test.2 (.inr ⟨_,hbb,i,g,hg,hb,.inr ⟨rfl,rfl⟩⟩)
       rw [hst,ha] at this;cases this
     · have:(spr gs C (lv gs C S 7)).testBit g.b.toNat=true:=spr_test.2 (.inr ⟨_,ha,i,g,hg,hb,.inl ⟨rfl,rfl⟩⟩)
       rw [hst,hbb] at this;cases this
     · rw [ha,hbb] at hi;cases hi
theorem cutM_mem {X:Nat} {gs:List Gp} {j:Int}:j∈Z1C X gs↔∃ (i:Nat) (g:Gp),gs[i]?=some g∧crs X g=true∧j=i:=by
 unfold Z1C
 simp only [List.mem_map,List.mem_filter,List.mem_range]
 constructor
 · rintro ⟨i,⟨h1,h2⟩,rfl⟩
   cases hg:gs[i]? with
   | none=>rw [hg] at h2;cases h2
   | some g=>rw [hg] at h2;exact ⟨i,g,hg,h2,rfl⟩
 · rintro ⟨i,g,h1,h2,rfl⟩
   exact ⟨i,⟨(List.getElem?_eq_some_iff.1 h1).1,by rw [h1];exact h2⟩,rfl⟩
theorem Zd9 {X S K:Nat} {gs:List Gp} (hS:∀ v,S.testBit v=true→X.testBit v=true) (hK:∀ v,K.testBit v=true→X.testBit v=false):Shut gs (msk (Z1C X gs)) S K:=by
 have hin:∀ t v,(lv gs (msk (Z1C X gs)) S t).testBit v=true→X.testBit v=true:=by
   intro t
   induction t with
   | zero=>exact hS
   | succ t ih =>
     intro v hv
     rcases spr_test.1 hv with h1 | ⟨u,h1,i,g,h2,h3,h4⟩
     · exact ih v h1
     · have hu:=ih u h1
       cases hx:X.testBit v with
       | true=>rfl
       | false =>
         have hc:crs X g=true:=by
           unfold crs
           rcases h4 with ⟨h5,h6⟩ | ⟨h5,h6⟩
           · rw [h5,h6,hu,hx];rfl
           · rw [h5,h6,hu,hx];rfl
         have:(msk (Z1C X gs)).testBit i=true:=(ZK (fun j hj=>by obtain ⟨q,_,_,_,rfl⟩:=cutM_mem.1 hj;omega) i).2 (cutM_mem.2 ⟨i,g,h2,hc,rfl⟩)
         rw [this] at h3;cases h3
 intro t v hv
 cases hk:K.testBit v with
 | false=>rfl
 | true=>have:=hK v hk;rw [hin t v hv] at this;cases this
inductive Way (gs:List Gp) (op:Nat→Bool) (f:Nat→Int) (S K:Nat):Nat→List (Nat×Nat)→Nat→Prop where
 | nil (u:Nat):Way gs op f S K u [] u
 | cons {u v w i:Nat} {g:Gp} {l:List (Nat×Nat)} (hg:gs[i]?=some g) (ho:op i=true) (hk:K.testBit u=false) (hsv:S.testBit v=false) (hs:(g.a.toNat=u∧g.b.toNat=v∧f i<1)∨(g.b.toNat=u∧g.a.toNat=v ∧ -1<f i)) (h:Way gs op f S K v l w):Way gs op f S K u ((i,v)::l) w
def Z9K (gs:List Gp) (i v:Nat):Int:=match gs[i]? with
 | some g=>bif decide (g.b.toNat=v) then 1 else -1
 | none=>0
def Z46 (gs:List Gp) (f:Nat→Int) (l:List (Nat×Nat)):Nat→Int:=fun i=>f i+match l.find? fun x=>decide (x.1=i) with
 | some x=>Z9K gs x.1 x.2
 | none=>0
theorem Z97 {F:Nat→Gp→Int}:∀ {gs:List Gp} {i k:Nat} {g:Gp},gs[k]?=some g→(∀ j g',gs[j]?=some g'→j≠k→F (i+j) g'=0)→Z5a F gs i=F (i+k) g
 | [],_,_,_,h,_=>by simp at h
 | x::gs,i,0,g,h,hz=>by
   rw [List.getElem?_cons_zero,Option.some.injEq] at h
   subst h
   have:Z5a F gs (i+1)=0:=by
     rw [Z3N (G:=fun _ _=>0) (fun j g' hj=>?_),Z2s]
     have:=hz (j+1) g' (by simpa using hj) (by omega)
     rwa [show i+(j+1)=i+1+j by omega] at this
   simp only [Z5a,this,Nat.add_zero];omega
 | x::gs,i,k+1,g,h,hz=>by
   have h0:=hz 0 x rfl (by omega)
   rw [Nat.add_zero] at h0
   have:=Z97 (F:=F) (gs:=gs) (i:=i+1) (k:=k) (g:=g) (by simpa using h) fun j g' hj hne=>by
     have:=hz (j+1) g' (by simpa using hj) (by omega)
     rwa [show i+(j+1)=i+1+j by omega] at this
   simp only [Z5a,h0,this]
   rw [show i+1+k=i+(k+1) by omega];omega
theorem Z4o {gs:List Gp} {f:Nat→Int} {i v:Nat} {l:List (Nat×Nat)} (hn:∀ x∈l,x.1≠i) (j:Nat):Z46 gs f ((i,v)::l) j=Z46 gs f l j+(bif decide (j=i) then Z9K gs i v else 0):=by
 unfold Z46
 rw [List.find?_cons]
 by_cases e:i=j
 · subst e
   have:l.find? (fun x=>decide (x.1=i))=none:=List.find?_eq_none.2 fun x hx=>by simpa using hn x hx
   rw [this];simp
 · rw [decide_eq_false (show ¬ j=i from fun h=>e h.symm)]
   simp [e]
theorem Z4l {gs:List Gp} {op:Nat→Bool} {f f0:Nat→Int} {S K:Nat} (X:Nat):∀ {l:List (Nat×Nat)} {u w:Nat},Way gs op f0 S K u l w→(l.map (·.1)).Nodup→(∀ (i:Nat) (g:Gp),gs[i]?=some g→g.a.toNat≠g.b.toNat)→Z1r (Z46 gs f l) X gs=Z1r f X gs+chi X u-chi X w
 | [],u,w,h,_,_=>by
   cases h
   have:Z46 gs f []=f:=by funext i;simp [Z46]
   rw [this];omega
 | (i,v)::l,u,w,h,hn,hab=>by
   cases h with
   | cons hg ho hk hsv hs h =>
     rename_i g
     rw [List.map_cons,List.nodup_cons] at hn
     have hni:∀ x∈l,x.1≠i:=fun x hx e=>hn.1 (List.mem_map.2 ⟨x,hx,e⟩)
     have ih:=Z4l (f:=f) X h hn.2 hab
     have e:Z1r (Z46 gs f ((i,v)::l)) X gs=Z1r (Z46 gs f l) X gs+Z5a (fun j g=>(bif decide (j=i) then Z9K gs i v else 0)*(chi X g.a.toNat-chi X g.b.toNat)) gs 0:=by
       unfold Z1r
       rw [← Z4k]
       refine Z3N fun j g' _=>?_
       rw [Z4o hni,Int.add_mul]
     have e2:=Z97 (F:=fun (j:Nat) (g:Gp)=>(bif decide (j=i) then Z9K gs i v else 0)*(chi X g.a.toNat-chi X g.b.toNat)) (i:=0) hg fun j g' _ hne=>by
       rw [Nat.zero_add,decide_eq_false hne];simp
     rw [e,e2,ih]
     have hne:=hab i g hg
     rw [Nat.zero_add,decide_eq_true rfl,cond_true]
     unfold Z9K
     rw [hg]
     dsimp only
     rcases hs with ⟨h1,h2,_⟩ | ⟨h1,h2,_⟩
     · rw [decide_eq_true h2,cond_true,h1,h2];omega
     · rw [decide_eq_false (by omega),cond_false,h1,h2];omega
def Drc (f:Nat→Int) (S K:Nat) (gs:List Gp):Prop:=∀ (i:Nat) (g:Gp),gs[i]?=some g→(S.testBit g.a.toNat=true→0≤f i)∧(S.testBit g.b.toNat=true→f i≤0)∧(K.testBit g.a.toNat=true→f i≤0)∧(K.testBit g.b.toNat=true→0≤f i)
structure WayK (gs:List Gp) (op:Nat→Bool) (f:Nat→Int) (S K u:Nat) (l:List (Nat×Nat)) (w:Nat):Prop where
 way:Way gs op f S K u l w
 nd:(l.map (·.1)).Nodup
 from_:S.testBit u=true
 to:K.testBit w=true
theorem Way.mem {gs:List Gp} {op:Nat→Bool} {f:Nat→Int} {S K:Nat}:∀ {l:List (Nat×Nat)} {u w:Nat},Way gs op f S K u l w→∀ x∈l,∃ (g:Gp) (y:Nat),gs[x.1]?=some g∧op x.1=true∧K.testBit y=false∧S.testBit x.2=false∧((g.a.toNat=y∧g.b.toNat=x.2∧f x.1<1)∨(g.b.toNat=y∧g.a.toNat=x.2 ∧ -1<f x.1))
 | [],_,_,_,x,hx=>by cases hx
 | (i,v)::l,u,w,h,x,hx=>by
   cases h with
   | cons hg ho hk hsv hs h =>
     rename_i g
     rcases List.mem_cons.1 hx with rfl | hx
     · exact ⟨g,u,hg,ho,hk,hsv,hs.imp (fun h=>⟨h.1,h.2.1,h.2.2⟩) (fun h=>⟨h.1,h.2.1,h.2.2⟩)⟩
     · exact Way.mem h x hx
theorem Z3v {gs:List Gp} {op:Nat→Bool} {f0 f:Nat→Int} {S K:Nat} {l:List (Nat×Nat)} {u w:Nat} (h:Way gs op f0 S K u l w) (hab:∀ (i:Nat) (g:Gp),gs[i]?=some g→g.a.toNat≠g.b.toNat) (i:Nat):Z46 gs f l i=f i∨∃ (g:Gp) (v y:Nat),(i,v)∈l∧gs[i]?=some g∧op i=true∧K.testBit y=false∧S.testBit v=false∧((g.a.toNat=y∧g.b.toNat=v∧f0 i<1∧Z46 gs f l i=f i+1)∨(g.b.toNat=y∧g.a.toNat=v ∧ -1<f0 i∧Z46 gs f l i=f i-1)):=by
 unfold Z46
 cases hf:l.find? fun x=>decide (x.1=i) with
 | none=>left;simp
 | some x =>
   right
   have h1:=List.mem_of_find?_eq_some hf
   have h2:=List.find?_some hf
   obtain ⟨j,v⟩:=x
   have h2:j=i:=by simpa using h2
   subst h2
   obtain ⟨g,y,h3,h4,hk,hsv,h5⟩:=h.mem _ h1
   dsimp only at h3 h4 h5 hsv ⊢
   have hne:=hab _ g h3
   refine ⟨g,v,y,h1,h3,h4,hk,hsv,?_⟩
   unfold Z9K
   rw [h3]
   dsimp only
   rcases h5 with ⟨h7,h8,h9⟩ | ⟨h7,h8,h9⟩
   · left;rw [decide_eq_true h8];exact ⟨h7,h8,h9,rfl⟩
   · right;rw [decide_eq_false (by omega)];exact ⟨h7,h8,h9,rfl⟩
structure Flw (f:Nat→Int) (S K:Nat) (gs:List Gp):Prop where
 one:∀ i,-1≤f i∧f i≤1
 cons:Zjg f S K gs
 drc:Drc f S K gs
theorem Flw.zero (S K:Nat) (gs:List Gp):Flw (fun _=>0) S K gs∧Z1r (fun _=>0) S gs=0:=by
 have h0:∀ X,Z1r (fun _=>0) X gs=0:=fun X=>by
   unfold Z1r
   rw [Z3N (G:=fun _ _=>0) (fun j g _=>by simp),Z2s]
 exact ⟨⟨fun _=>by omega,fun v _ _ _=>h0 _,fun i g _=>by simp⟩,h0 S⟩
theorem Z5P {v k:Nat}:chi (2 ^ v) k=bif decide (v=k) then 1 else 0:=by unfold chi;rw [Nat.testBit_two_pow]
theorem Z8L {S K:Nat} (hd:∀ v,S.testBit v=true→K.testBit v=false) {w:Nat} (h:K.testBit w=true):S.testBit w=false:=by
 cases hs:S.testBit w with
 | false=>rfl
 | true=>have:=hd w hs;rw [h] at this;cases this
theorem Flw.more {f:Nat→Int} {S K:Nat} {gs:List Gp} (h:Flw f S K gs) (hd:∀ v,S.testBit v=true→K.testBit v=false) (hab:∀ (i:Nat) (g:Gp),gs[i]?=some g→g.a.toNat≠g.b.toNat) {op:Nat→Bool} {u w:Nat} {l:List (Nat×Nat)} (hw:WayK gs op f S K u l w):Flw (Z46 gs f l) S K gs∧Z1r (Z46 gs f l) S gs=Z1r f S gs+1:=by
 have hwS:=Z8L hd hw.to
 refine ⟨⟨fun i=>?_,fun v hv h1 h2=>?_,fun i g hg=>?_⟩,?_⟩
 · have:=h.one i
   rcases Z3v (f:=f) hw.way hab i with e | ⟨g,v,y,_,_,_,_,_,⟨_,_,h3,e⟩ | ⟨_,_,h3,e⟩⟩<;>rw [e]<;>omega
 · rw [Z4l _ hw.way hw.nd hab,h.cons v hv h1 h2,Z5P,Z5P,decide_eq_false (fun e=>by rw [e,hw.from_] at h1;cases h1),decide_eq_false (fun e=>by rw [e,hw.to] at h2;cases h2)];rfl
 · have hd0:=h.drc i g hg
   rcases Z3v (f:=f) hw.way hab i with e | ⟨g',v,y,hm,hg',_,hyK,hvS,h5⟩
   · rw [e];exact hd0
   · rw [hg] at hg'
     obtain rfl:=Option.some.inj hg'
     rcases h5 with ⟨rfl,rfl,_,e⟩ | ⟨rfl,rfl,_,e⟩<;>rw [e,hyK,hvS]<;>rw [hyK,hvS] at hd0<;>simp only [Bool.false_eq_true,false_implies,true_and,and_true] at hd0 ⊢ <;> constructor<;>intro h8
     · have:=hd0.1 h8;omega
     · have:=hd0.2 h8;omega
     · have:=hd0.1 h8;omega
     · have:=hd0.2 h8;omega
 · rw [Z4l _ hw.way hw.nd hab]
   unfold chi
   rw [hw.from_,hwS];simp
def Z7A (f:Nat→Int) (l:List (Nat×Nat)):Nat→Int:=fun i=>bif l.any fun x=>decide (x.1=i) then 0 else f i
theorem ZfZ {gs:List Gp} {f:Nat→Int} {S K:Nat} {l:List (Nat×Nat)} {u w:Nat} (h:Way gs (fun i=>decide (f i≠0)) (fun i => -f i) S K u l w) (hf:∀ i,-1≤f i∧f i≤1) (hab:∀ (i:Nat) (g:Gp),gs[i]?=some g→g.a.toNat≠g.b.toNat) (i:Nat) : -Z7A f l i=Z46 gs (fun i => -f i) l i:=by
 unfold Z7A
 rcases Z3v (f:=fun i => -f i) h hab i with e | ⟨g,v,y,hm,hg,ho,_,_,h5⟩
 · rw [e]
   cases ha:l.any fun x=>decide (x.1=i) with
   | false=>rfl
   | true =>
     obtain ⟨x,hx,hxi⟩:=List.any_eq_true.1 ha
     have hxi:=of_decide_eq_true hxi
     obtain ⟨j,v⟩:=x
     dsimp only at hxi
     subst hxi
     obtain ⟨g,y,h3,h4,_,_,h5⟩:=h.mem _ hx
     dsimp only at h3 h4 h5
     have h4:=of_decide_eq_true h4
     have hfi:=hf j
     exfalso
     unfold Z46 at e
     cases hfd:l.find? fun x=>decide (x.1=j) with
     | none =>
       have:=List.find?_eq_none.1 hfd _ hx
       simp at this
     | some z =>
       rw [hfd] at e
       have h1:=List.mem_of_find?_eq_some hfd
       have h2:=List.find?_some hfd
       obtain ⟨j2,v2⟩:=z
       have h2:j2=j:=by simpa using h2
       subst h2
       unfold Z9K at e
       dsimp only at e
       rw [h3] at e
       dsimp only at e
       cases hb:decide (g.b.toNat=v2)<;>rw [hb] at e<;>simp at e<;>omega
 · have ha:(l.any fun x=>decide (x.1=i))=true:=List.any_eq_true.2 ⟨_,hm,by simp⟩
   have ho:=of_decide_eq_true ho
   have:=hf i
   rw [ha,cond_true]
   rcases h5 with ⟨_,_,h6,e⟩ | ⟨_,_,h6,e⟩<;>rw [e]<;>omega
theorem Z8v {f f':Nat→Int} (X:Nat) {gs:List Gp} (h:∀ i,-f i=f' i):Z1r f' X gs = -Z1r f X gs:=by
 have h0:Z1r f' X gs+Z1r f X gs=0:=by
   unfold Z1r
   rw [← Z4k,Z3N (G:=fun _ _=>0) (fun j g _=>by rw [← h,← Int.add_mul,Int.add_left_neg,Int.zero_mul]),Z2s]
 omega
theorem Flw.less {f:Nat→Int} {S K:Nat} {gs:List Gp} (h:Flw f S K gs) (hd:∀ v,S.testBit v=true→K.testBit v=false) (hab:∀ (i:Nat) (g:Gp),gs[i]?=some g→g.a.toNat≠g.b.toNat) {u w:Nat} {l:List (Nat×Nat)} (hw:WayK gs (fun i=>decide (f i≠0)) (fun i => -f i) S K u l w):Flw (Z7A f l) S K gs∧Z1r (Z7A f l) S gs=Z1r f S gs-1:=by
 have hwS:=Z8L hd hw.to
 have e:∀ X,Z1r (Z7A f l) X gs=Z1r f X gs-chi X u+chi X w:=fun X=>by
   have h1:=Z8v X (gs:=gs) (ZfZ hw.way h.one hab)
   have h2:=Z8v X (gs:=gs) (f:=f) (f':=fun i => -f i) fun _=>rfl
   rw [Z4l X hw.way hw.nd hab] at h1
   omega
 refine ⟨⟨fun i=>?_,fun v hv h1 h2=>?_,fun i g hg=>?_⟩,?_⟩
 · have:=h.one i
   unfold Z7A
   cases l.any fun x=>decide (x.1=i)<;>simp<;>omega
 · rw [e,h.cons v hv h1 h2,Z5P,Z5P,decide_eq_false (fun e=>by rw [e,hw.from_] at h1;cases h1),decide_eq_false (fun e=>by rw [e,hw.to] at h2;cases h2)];rfl
 · have hd0:=h.drc i g hg
   unfold Z7A
   cases l.any fun x=>decide (x.1=i) with
   | true=>simp
   | false=>exact hd0
 · rw [e]
   unfold chi
   rw [hw.from_,hwS];simp
theorem Zb0 {f:Nat→Int} {S K:Nat} {gs:List Gp} (h:Drc f S K gs):0≤Z1r f S gs:=by
 unfold Z1r
 rw [← Z2s gs 0]
 refine Z3O fun j g hj=>?_
 have:=h j g hj
 rw [Nat.zero_add]
 unfold chi
 cases ha:S.testBit g.a.toNat<;>cases hb:S.testBit g.b.toNat<;>simp
 · have:=this.2.1 hb;omega
 · have:=this.1 ha;omega
theorem Zb1 {f:Nat→Int} {X:Nat} {gs:List Gp} (h:∀ (i:Nat) (g:Gp),gs[i]?=some g→(X.testBit g.a.toNat=true→X.testBit g.b.toNat=false→f i≤0)∧(X.testBit g.b.toNat=true→X.testBit g.a.toNat=false→0≤f i)):Z1r f X gs≤0:=by
 unfold Z1r
 rw [← Z2s gs 0]
 refine Z3O fun j g hj=>?_
 have:=h j g hj
 rw [Nat.zero_add]
 unfold chi
 cases ha:X.testBit g.a.toNat<;>cases hb:X.testBit g.b.toNat<;>simp
 · have:=this.2 hb ha;omega
 · have:=this.1 ha hb;omega
theorem and_zero {a b:Nat}:a&&&b=0↔∀ i,a.testBit i=true→b.testBit i=false:=by
 rw [and0_iff]
 constructor
 · intro h i hi;have:=h i;rw [hi] at this;simpa using this
 · intro h i
   cases hi:a.testBit i with
   | false=>rfl
   | true=>rw [h i hi];rfl
inductive Pl (gs:List Gp) (K sp:Nat):Nat→Nat→Nat→Prop where
 | stay {m c l:Nat} (hl:l<2 ^ gs.length) (hc:l&&&c=0) (hs:cnt gs.length l≤sp) (he:spr gs (c|||l) m=m) (hk:m&&&K=0):Pl gs K sp m c (cnt gs.length l)
 | go {m c l n:Nat} (hl:l<2 ^ gs.length) (hc:l&&&c=0) (hs:cnt gs.length l≤sp) (hne:spr gs (c|||l) m≠m) (hk:spr gs (c|||l) m&&&K=0) (h:Pl gs K sp (spr gs (c|||l) m) (c|||l) n):Pl gs K sp m c (cnt gs.length l+n)
def Lst (P:Nat→Prop) (n:Nat):Prop:=P n∧∀ k,P k→n≤k
theorem Lst.unique {P:Nat→Prop} {m n:Nat} (h:Lst P m) (k:Lst P n):m=n:=Nat.le_antisymm (h.2 _ k.1) (k.2 _ h.1)
def Ins (gs:List Gp) (m c c':Nat):Prop:=∀ (i:Nat) (g:Gp),gs[i]?=some g→c.testBit i≠c'.testBit i→m.testBit g.a.toNat=true∧m.testBit g.b.toNat=true
theorem Ins.spr {gs:List Gp} {m c c':Nat} (h:Ins gs m c c'):spr gs c m=spr gs c' m:=by
 have key:∀ {c c':Nat},Ins gs m c c'→∀ v,(Go.Proofs.YtclnhdkneegfkaaGreat.spr gs c m).testBit v=true→(Go.Proofs.YtclnhdkneegfkaaGreat.spr gs c' m).testBit v=true:=by
   intro c c' h v hv
   rcases spr_test.1 hv with h1 | ⟨u,h1,i,g,h2,h3,h4⟩
   · exact Z18 h1
   · by_cases e:c.testBit i=c'.testBit i
     · exact spr_test.2 (.inr ⟨u,h1,i,g,h2,by rw [← e];exact h3,h4⟩)
     · obtain ⟨h5,h6⟩:=h i g h2 e
       refine Z18 ?_
       rcases h4 with ⟨_,rfl⟩ | ⟨_,rfl⟩
       · exact h6
       · exact h5
 refine Z0i fun v=>?_
 rw [Bool.eq_iff_iff]
 exact ⟨key h v,key (fun i g h1 h2=>h i g h1 (Ne.symm h2)) v⟩
theorem Ins.mono {gs:List Gp} {m m' c c':Nat} (h:Ins gs m c c') (hm:∀ v,m.testBit v=true→m'.testBit v=true):Ins gs m' c c':=fun i g h1 h2=>⟨hm _ (h i g h1 h2).1,hm _ (h i g h1 h2).2⟩
theorem Ins.or {gs:List Gp} {m c c' l:Nat} (h:Ins gs m c c'):Ins gs m (c|||l) (c'|||l):=fun i g h1 h2=>h i g h1 fun e=>h2 (by rw [Nat.testBit_or,Nat.testBit_or,e])
theorem ZfT {n l l':Nat} (h:∀ i,l'.testBit i=true→l.testBit i=true):cnt n l'≤cnt n l:=Zd6 fun k _=>h k
theorem Pl.ins {gs:List Gp} {K sp m c n:Nat} (h:Pl gs K sp m c n):∀ {c':Nat},Ins gs m c c'→(∀ i,c'.testBit i=true→c.testBit i=true)→Pl gs K sp m c' n:=by
 induction h with
 | @stay m c l hl hc hs he hk =>
   intro c' hi hsub
   refine .stay hl (and_zero.2 fun i hi2=>?_) hs (by rw [← hi.or.spr];exact he) hk
   cases hb:c'.testBit i with
   | false=>rfl
   | true=>have:=and_zero.1 hc i hi2;rw [hsub i hb] at this;cases this
 | @go m c l n hl hc hs hne hk h ih =>
   intro c' hi hsub
   have e:=hi.or (l:=l) |>.spr
   refine .go hl (and_zero.2 fun i hi2=>?_) hs (by rw [← e];exact hne) (by rw [← e];exact hk) ?_
   · cases hb:c'.testBit i with
     | false=>rfl
     | true=>have:=and_zero.1 hc i hi2;rw [hsub i hb] at this;cases this
   · rw [← e]
     refine ih (hi.or.mono fun v hv=>Z18 hv) fun i h1=>?_
     rw [Nat.testBit_or,Bool.or_eq_true] at h1 ⊢
     exact h1.imp_left (hsub i)
def usf (gs:List Gp) (m c:Nat):Nat→Bool:=fun i=>match gs[i]? with
 | some g=>!c.testBit i&&!(m.testBit g.a.toNat&&m.testBit g.b.toNat)
 | none=>false
def msF (p:Nat→Bool):Nat→Nat
 | 0=>0
 | n+1=>msF p n|||(bif p n then 2 ^ n else 0)
theorem Z4g (p:Nat→Bool) (j:Nat):∀ n,(msF p n).testBit j=(decide (j<n)&&p j)
 | 0=>by simp [msF]
 | n+1=>by
   unfold msF
   rw [Nat.testBit_or,Z4g p j n]
   by_cases e:j=n
   · subst e
     cases p j<;>simp
   · rw [show decide (j<n+1)=decide (j<n) from decide_eq_decide.2 (by omega)]
     cases p n with
     | false=>simp
     | true=>rw [cond_true,Nat.testBit_two_pow,decide_eq_false (show ¬ n=j by omega),Bool.or_false]
def Z0w (gs:List Gp) (m c:Nat):Nat:=msF (usf gs m c) gs.length
theorem usfM_test {gs:List Gp} {m c i:Nat}:(Z0w gs m c).testBit i=true↔∃ g,gs[i]?=some g∧c.testBit i=false∧¬ (m.testBit g.a.toNat=true∧m.testBit g.b.toNat=true):=by
 unfold Z0w
 rw [Z4g,Bool.and_eq_true,decide_eq_true_eq]
 unfold usf
 constructor
 · rintro ⟨h1,h2⟩
   rw [List.getElem?_eq_getElem h1] at h2 ⊢
   dsimp only at h2
   rw [Bool.and_eq_true,Bool.not_eq_true',Bool.not_eq_true',Bool.and_eq_false_iff] at h2
   exact ⟨_,rfl,h2.1,fun h=>by rcases h2.2 with h3 | h3<;>simp_all⟩
 · rintro ⟨g,h1,h2,h3⟩
   refine ⟨(List.getElem?_eq_some_iff.1 h1).1,?_⟩
   rw [h1]
   dsimp only
   rw [h2]
   cases ha:m.testBit g.a.toNat<;>cases hb:m.testBit g.b.toNat<;>simp_all
theorem Pl.cons_inv {gs:List Gp} {K sp m c n:Nat} (h:Pl gs K sp m c n):∃ l,l<2 ^ gs.length∧l&&&c=0∧cnt gs.length l≤sp∧spr gs (c|||l) m&&&K=0∧((spr gs (c|||l) m=m∧n=cnt gs.length l)∨(spr gs (c|||l) m≠m∧∃ k,n=cnt gs.length l+k∧Pl gs K sp (spr gs (c|||l) m) (c|||l) k)):=by
 cases h with
 | @stay _ _ l hl hc hs he hk=>exact ⟨l,hl,hc,hs,by rw [he];exact hk,.inl ⟨he,rfl⟩⟩
 | @go _ _ l n hl hc hs hne hk h=>exact ⟨l,hl,hc,hs,hk,.inr ⟨hne,n,rfl,h⟩⟩
theorem Pl.of {gs:List Gp} {K sp m c l n k:Nat} (hl:l<2 ^ gs.length) (hc:l&&&c=0) (hs:cnt gs.length l≤sp) (hk:spr gs (c|||l) m&&&K=0) (h:(spr gs (c|||l) m=m∧n=cnt gs.length l)∨(spr gs (c|||l) m≠m∧n=cnt gs.length l+k∧Pl gs K sp (spr gs (c|||l) m) (c|||l) k)):Pl gs K sp m c n:=by
 rcases h with ⟨h1,rfl⟩ | ⟨h1,rfl,h2⟩
 · exact .stay hl hc hs h1 (by rw [h1] at hk;exact hk)
 · exact .go hl hc hs h1 hk h2
theorem Pl.first {gs:List Gp} {K sp m c n:Nat} (h:Pl gs K sp m c n):∃ l n',n'≤n∧l<2 ^ gs.length∧(∀ i,l.testBit i=true→(Z0w gs m c).testBit i=true)∧cnt gs.length l≤sp∧spr gs (c|||l) m&&&K=0∧((spr gs (c|||l) m=m∧n'=cnt gs.length l)∨(spr gs (c|||l) m≠m∧∃ k,n'=cnt gs.length l+k∧Pl gs K sp (spr gs (c|||l) m) (c|||l) k)):=by
 obtain ⟨l,hl,hc,hs,hk,h1⟩:=h.cons_inv
 have hsub:∀ i,(l&&&Z0w gs m c).testBit i=true→l.testBit i=true:=fun i hi=>by rw [Nat.testBit_and,Bool.and_eq_true] at hi;exact hi.1
 have hins:Ins gs m (c|||l) (c|||(l&&&Z0w gs m c)):=fun i g hg hne=>by
   rw [Nat.testBit_or,Nat.testBit_or,Nat.testBit_and] at hne
   cases hb:(Z0w gs m c).testBit i with
   | true=>rw [hb] at hne;simp at hne
   | false =>
     rw [hb] at hne
     have hli:l.testBit i=true:=by cases h2:l.testBit i with
       | true=>rfl
       | false=>rw [h2] at hne;simp at hne
     have hci:c.testBit i=false:=and_zero.1 hc i hli
     apply Classical.byContradiction
     intro hnb
     rw [usfM_test.2 ⟨g,hg,hci,hnb⟩] at hb;cases hb
 have e:=hins.spr
 have hcs:=ZfT (n:=gs.length) hsub
 refine ⟨l&&&Z0w gs m c,?_⟩
 rcases h1 with ⟨h2,rfl⟩ | ⟨h2,k,rfl,h3⟩
 · exact ⟨_,hcs,Nat.lt_of_le_of_lt Nat.and_le_left hl,fun i hi=>by rw [Nat.testBit_and,Bool.and_eq_true] at hi;exact hi.2,Nat.le_trans hcs hs,by rw [← e];exact hk,.inl ⟨by rw [← e];exact h2,rfl⟩⟩
 · refine ⟨cnt gs.length (l&&&Z0w gs m c)+k,by omega,Nat.lt_of_le_of_lt Nat.and_le_left hl,fun i hi=>by rw [Nat.testBit_and,Bool.and_eq_true] at hi;exact hi.2,Nat.le_trans hcs hs,by rw [← e];exact hk,.inr ⟨by rw [← e];exact h2,k,rfl,?_⟩⟩
   rw [← e]
   refine h3.ins (hins.mono fun v hv=>Z18 hv) fun i hi=>?_
   rw [Nat.testBit_or,Bool.or_eq_true] at hi ⊢
   exact hi.imp_right (hsub i)
def Stp (gs:List Gp) (op:Nat→Bool) (f:Nat→Int) (u i v:Nat):Prop:=∃ g,gs[i]?=some g∧op i=true∧((g.a.toNat=u∧g.b.toNat=v∧f i<1)∨(g.b.toNat=u∧g.a.toNat=v ∧ -1<f i))
structure Srch (gs:List Gp) (op:Nat→Bool) (f:Nat→Int) (S K:Nat) (V:List (Nat×Int)):Prop where
 nd:(V.map (·.1)).Nodup
 lt:∀ x∈V,x.1<7
 from_:∀ u,S.testBit u=true→(u,-1)∈V
 par:∀ q x,V[q]?=some x→(x.2=(-1:Int)∧S.testBit x.1=true)∨(S.testBit x.1=false∧∃ (i p:Nat) (y:Nat×Int),x.2=(i:Int)∧p<q∧V[p]?=some y∧K.testBit y.1=false∧Stp gs op f y.1 i x.1)
theorem Srch.few {gs:List Gp} {op:Nat→Bool} {f:Nat→Int} {S K:Nat} {V:List (Nat×Int)} (h:Srch gs op f S K V):V.length≤7:=by
 have h2:=h.nd.length_le_of_subset (l₂:=List.range 7) fun v hv=>by
   obtain ⟨x,hx,rfl⟩:=List.mem_map.1 hv
   exact List.mem_range.2 (h.lt x hx)
 simpa using h2
theorem Srch.start {gs:List Gp} {op:Nat→Bool} {f:Nat→Int} {S K:Nat} {l:List Nat} (hn:l.Nodup) (hl:∀ u∈l,u<7) (hS:∀ u,S.testBit u=true↔u∈l):Srch gs op f S K (l.map fun u=>(u,-1)):=by
 refine ⟨by rw [List.map_map];simpa [Function.comp_def] using hn,fun x hx=>?_,fun u hu=>List.mem_map.2 ⟨u,(hS u).1 hu,rfl⟩,fun q x hx=>?_⟩
 · obtain ⟨u,hu,rfl⟩:=List.mem_map.1 hx;exact hl u hu
 · obtain ⟨u,hu,rfl⟩:=List.mem_map.1 (List.mem_of_getElem? hx)
   exact .inl ⟨rfl,(hS u).2 hu⟩
theorem Srch.more {gs:List Gp} {op:Nat→Bool} {f:Nat→Int} {S K:Nat} {V:List (Nat×Int)} (h:Srch gs op f S K V) {j i v:Nat} {y:Nat×Int} (hj:V[j]?=some y) (hy:K.testBit y.1=false) (hs:Stp gs op f y.1 i v) (hv:v<7) (hn:v∉V.map (·.1)):Srch gs op f S K (V++[(v,(i:Int))]):=by
 have hjl:=(List.getElem?_eq_some_iff.1 hj).1
 refine ⟨?_,fun x hx=>?_,fun u hu=>List.mem_append_left _ (h.from_ u hu),fun q x hx=>?_⟩
 · rw [List.map_append]
   exact List.nodup_append.2 ⟨h.nd,by simp,fun a ha b hb=>by
     obtain rfl:b=v:=by simpa using hb
     intro e;exact hn (e▸ha)⟩
 · rcases List.mem_append.1 hx with h1 | h1
   · exact h.lt x h1
   · rw [List.mem_singleton.1 h1];exact hv
 · rcases Nat.lt_or_ge q V.length with h1 | h1
   · rw [List.getElem?_append_left h1] at hx
     rcases h.par q x hx with h2 | ⟨h2,i',p,z,h3,h4,h5,h6,h7⟩
     · exact .inl h2
     · exact .inr ⟨h2,i',p,z,h3,h4,by rw [List.getElem?_append_left (by omega)];exact h5,h6,h7⟩
   · rw [List.getElem?_append_right h1] at hx
     have hq:q=V.length:=by
       rcases Nat.eq_zero_or_pos (q-V.length) with h2 | h2
       · omega
       · rw [List.getElem?_eq_none (by simp;omega)] at hx;cases hx
     subst hq
     simp only [Nat.sub_self,List.getElem?_cons_zero,Option.some.injEq] at hx
     subst hx
     refine .inr ⟨?_,i,j,y,rfl,hjl,by rw [List.getElem?_append_left hjl];exact hj,hy,hs⟩
     cases hS:S.testBit v with
     | false=>rfl
     | true=>exact absurd (List.mem_map.2 ⟨_,h.from_ v hS,rfl⟩) hn
structure Back (gs:List Gp) (op:Nat→Bool) (f:Nat→Int) (S K:Nat) (V:List (Nat×Int)) (w q u:Nat) (l:List (Nat×Nat)):Prop where
 at_:∃ z,V[q]?=some (u,z)
 way:Way gs op f S K u l w
 nd:(l.map (·.1)).Nodup
 pos:∀ x∈l,∃ q',q<q'∧V[q']?=some (x.2,(x.1:Int))
theorem Back.start {gs:List Gp} {op:Nat→Bool} {f:Nat→Int} {S K:Nat} {V:List (Nat×Int)} {w q:Nat} {z:Int} (h:V[q]?=some (w,z)):Back gs op f S K V w q w []:=⟨⟨z,h⟩,.nil w,by simp,by simp⟩
theorem Z8S {V:List (Nat×Int)} (hn:(V.map (·.1)).Nodup) {q q' v:Nat} {z z':Int} (h:V[q]?=some (v,z)) (h':V[q']?=some (v,z')):q=q':=by
 have h1:(V.map (·.1))[q]?=some v:=by rw [List.getElem?_map,h];rfl
 have h2:(V.map (·.1))[q']?=some v:=by rw [List.getElem?_map,h'];rfl
 obtain ⟨k1,e1⟩:=List.getElem?_eq_some_iff.1 h1
 obtain ⟨k2,e2⟩:=List.getElem?_eq_some_iff.1 h2
 exact (List.getElem_inj hn).1 (e1.trans e2.symm)
theorem Back.more {gs:List Gp} {op:Nat→Bool} {f:Nat→Int} {S K:Nat} {V:List (Nat×Int)} (hs:Srch gs op f S K V) (hab:∀ (i:Nat) (g:Gp),gs[i]?=some g→g.a.toNat≠g.b.toNat) {w q u:Nat} {z:Int} {l:List (Nat×Nat)} (h:Back gs op f S K V w q u l) (hz:V[q]?=some (u,z)) (hne:z ≠ -1):∃ (i p y:Nat) (g:Gp),z=i∧p<q∧gs[i]?=some g∧((g.a.toNat=y∧g.b.toNat=u)∨(g.b.toNat=y∧g.a.toNat=u))∧Back gs op f S K V w p y ((i,u)::l):=by
 rcases hs.par q _ hz with ⟨h1,_⟩ | ⟨h1,i,p,⟨y,zy⟩,h2,h3,h4,h5,g,h6,h7,h8⟩
 · exact absurd h1 hne
 · dsimp only at h1 h2 h5 h8
   refine ⟨i,p,y,g,h2,h3,h6,h8.imp (fun h=>⟨h.1,h.2.1⟩) (fun h=>⟨h.1,h.2.1⟩),⟨⟨zy,h4⟩,.cons h6 h7 h5 h1 h8 h.way,?_,fun x hx=>?_⟩⟩
   · rw [List.map_cons,List.nodup_cons]
     refine ⟨fun hm=>?_,h.nd⟩
     obtain ⟨x,hx,e⟩:=List.mem_map.1 hm
     obtain ⟨q',h9,h10⟩:=h.pos x hx
     rcases hs.par q' _ h10 with ⟨h11,_⟩ | ⟨_,i',p',⟨y',zy'⟩,h12,h13,h14,_,g',h15,_,h16⟩
     · dsimp only at h11;omega
     · dsimp only at h12 h16
       have hi:i'=i:=by omega
       subst hi
       rw [h6] at h15
       obtain rfl:=Option.some.inj h15
       have hne:=hab i' g h6
       have hvu:x.2≠u:=fun e2=>by
         have:=Z8S hs.nd hz (e2▸h10)
         omega
       have hvy:x.2=y:=by
         rcases h8 with ⟨k1,k2,_⟩ | ⟨k1,k2,_⟩<;>rcases h16 with ⟨k3,k4,_⟩ | ⟨k3,k4,_⟩<;>omega
       have:=Z8S hs.nd h4 (hvy▸h10)
       omega
   · rcases List.mem_cons.1 hx with rfl | hx
     · exact ⟨q,h3,by rw [hz,h2]⟩
     · obtain ⟨q',h9,h10⟩:=h.pos x hx
       exact ⟨q',by omega,h10⟩
theorem Back.stop {gs:List Gp} {op:Nat→Bool} {f:Nat→Int} {S K:Nat} {V:List (Nat×Int)} (hs:Srch gs op f S K V) {w q u:Nat} {l:List (Nat×Nat)} (h:Back gs op f S K V w q u l) (hz:V[q]?=some (u,-1)) (hw:K.testBit w=true):WayK gs op f S K u l w:=by
 rcases hs.par q _ hz with ⟨_,h1⟩ | ⟨_,i,p,y,h2,_⟩
 · exact ⟨h.way,h.nd,h1,hw⟩
 · dsimp only at h2;omega
def Z1F (V:List (Nat×Int)):Nat:=V.foldl (fun n x=>n|||2 ^ x.1) 0
theorem Zbo (V:List (Nat×Int)) (n v:Nat):(V.foldl (fun n x=>n|||2 ^ x.1) n).testBit v=(n.testBit v||decide (v∈V.map (·.1))):=by
 induction V generalizing n with
 | nil=>simp
 | cons x V ih =>
   rw [List.foldl_cons,ih,Nat.testBit_or,Nat.testBit_two_pow,List.map_cons,Bool.or_assoc]
   congr 1
   rw [Bool.eq_iff_iff]
   simp only [Bool.or_eq_true,decide_eq_true_eq,List.mem_cons]
   exact or_congr ⟨fun h=>h.symm,fun h=>h.symm⟩ Iff.rfl
theorem Z0e (V:List (Nat×Int)) (v:Nat):(Z1F V).testBit v=true↔v∈V.map (·.1):=by
 unfold Z1F;rw [Zbo];simp
theorem Srch.met_lt {gs:List Gp} {op:Nat→Bool} {f:Nat→Int} {S K:Nat} {V:List (Nat×Int)} (h:Srch gs op f S K V):Z1F V<2 ^ 7:=Z0z fun v hv=>by
 obtain ⟨x,hx,rfl⟩:=List.mem_map.1 ((Z0e V v).1 hv)
 exact h.lt x hx
structure Shn (gs:List Gp) (op:Nat→Bool) (f:Nat→Int) (S K:Nat) (V:List (Nat×Int)):Prop where
 s:Srch gs op f S K V
 no:∀ x∈V,K.testBit x.1=false
 cl:∀ u v i,u∈V.map (·.1)→Stp gs op f u i v→v∈V.map (·.1)
theorem Shn.sub {gs:List Gp} {op:Nat→Bool} {f:Nat→Int} {S K:Nat} {V:List (Nat×Int)} (h:Shn gs op f S K V):(∀ v,S.testBit v=true→(Z1F V).testBit v=true)∧∀ v,K.testBit v=true→(Z1F V).testBit v=false:=by
 refine ⟨fun v hv=>(Z0e V v).2 (List.mem_map.2 ⟨_,h.s.from_ v hv,rfl⟩),fun v hv=>?_⟩
 cases hm:(Z1F V).testBit v with
 | false=>rfl
 | true =>
   obtain ⟨x,hx,rfl⟩:=List.mem_map.1 ((Z0e V v).1 hm)
   rw [h.no x hx] at hv;cases hv
theorem Shn.full {gs:List Gp} {f:Nat→Int} {S K:Nat} {V:List (Nat×Int)} (h:Shn gs (fun _=>true) f S K V) (hf:Flw f S K gs):Z1r f S gs=(Z1C (Z1F V) gs).length:=by
 obtain ⟨h1,h2⟩:=h.sub
 rw [← Z5U hf.cons h.s.met_lt h1 h2,← Z5R]
 refine ZaY hf.one fun i g hg=>⟨fun h3 h4=>?_,fun h3 h4=>?_⟩
 · rcases Int.lt_or_le (f i) 1 with h5 | h5
   · have:=(Z0e V _).2 (h.cl _ _ i ((Z0e V _).1 h3) ⟨g,hg,rfl,.inl ⟨rfl,rfl,h5⟩⟩)
     rw [h4] at this;cases this
   · exact h5
 · rcases Int.lt_or_le (-1) (f i) with h5 | h5
   · have:=(Z0e V _).2 (h.cl _ _ i ((Z0e V _).1 h3) ⟨g,hg,rfl,.inr ⟨rfl,rfl,h5⟩⟩)
     rw [h4] at this;cases this
   · exact h5
theorem Shn.empty {gs:List Gp} {f:Nat→Int} {S K:Nat} {V:List (Nat×Int)} (h:Shn gs (fun i=>decide (f i≠0)) (fun i => -f i) S K V) (hf:Flw f S K gs):Z1r f S gs=0:=by
 obtain ⟨h1,h2⟩:=h.sub
 have h0:=Zb0 hf.drc
 have h3:Z1r f (Z1F V) gs≤0:=Zb1 fun i g hg=>⟨fun h3 h4=>by
     rcases Int.lt_or_le 0 (f i) with h5 | h5
     · have:=(Z0e V _).2 (h.cl _ _ i ((Z0e V _).1 h3) ⟨g,hg,decide_eq_true (by omega),.inl ⟨rfl,rfl,by dsimp only;omega⟩⟩)
       rw [h4] at this;cases this
     · exact h5,fun h3 h4=>by
     rcases Int.lt_or_le (f i) 0 with h5 | h5
     · have:=(Z0e V _).2 (h.cl _ _ i ((Z0e V _).1 h3) ⟨g,hg,decide_eq_true (by omega),.inr ⟨rfl,rfl,by dsimp only;omega⟩⟩)
       rw [h4] at this;cases this
     · exact h5⟩
 rw [Z5U hf.cons h.s.met_lt h1 h2] at h3
 omega
structure Two (gs:List Gp) (S K:Nat):Prop where
 w:Wth gs 7
 ab:∀ (i:Nat) (g:Gp),gs[i]?=some g→g.a.toNat≠g.b.toNat
 s:S<2 ^ 7
 k:K<2 ^ 7
 no:∀ v,S.testBit v=true→K.testBit v=false
theorem Z2z (n m:Nat):((List.range n).filter fun i=>m.testBit i).length=cnt n m:=by unfold cnt;rw [List.countP_eq_length_filter]
def Cut (gs:List Gp) (S K:Nat) (m:Nat):Prop:=Lst (fun n=>∃ C,C<2 ^ gs.length∧Shut gs C S K∧cnt gs.length C=n) m
theorem ZaQ (X:Nat) (gs:List Gp):msk (Z1C X gs)<2 ^ gs.length:=Z0Y fun j hj=>by
 obtain ⟨i,g,h1,_,rfl⟩:=cutM_mem.1 hj
 have:=(List.getElem?_eq_some_iff.1 h1).1;omega
theorem Z8p (X:Nat) (gs:List Gp):cnt gs.length (msk (Z1C X gs))=(Z1C X gs).length:=by
 have e:∀ i,(msk (Z1C X gs)).testBit i=match gs[i]? with | some g=>crs X g | none=>false:=fun i=>by
   rw [Bool.eq_iff_iff,ZK (fun j hj=>by obtain ⟨q,_,_,_,rfl⟩:=cutM_mem.1 hj;omega),cutM_mem]
   constructor
   · rintro ⟨q,g,h1,h2,e⟩
     obtain rfl:i=q:=by omega
     rw [h1];exact h2
   · intro h
     cases hg:gs[i]? with
     | none=>rw [hg] at h;cases h
     | some g=>rw [hg] at h;exact ⟨i,g,hg,h,rfl⟩
 unfold Z1C
 rw [List.length_map,← Z2z]
 congr 1
 refine List.filter_congr fun i _=>?_
 have:=e i
 unfold Z1C at this
 exact this
theorem Shn.cut {gs:List Gp} {f:Nat→Int} {S K:Nat} {V:List (Nat×Int)} (ht:Two gs S K) (h:Shn gs (fun _=>true) f S K V) (hf:Flw f S K gs):Cut gs S K (Z1C (Z1F V) gs).length∧Shut gs (msk (Z1C (Z1F V) gs)) S K:=by
 obtain ⟨h1,h2⟩:=h.sub
 have hs:=Zd9 (gs:=gs) h1 h2
 refine ⟨⟨⟨_,ZaQ _ _,hs,Z8p _ _⟩,?_⟩,hs⟩
 rintro n ⟨C,hC,h3,rfl⟩
 have h4:=ZgA ht.w ht.s hf.one hf.cons h3
 rw [h.full hf,Z2z] at h4
 omega
theorem Shut.mono {gs:List Gp} {C S S' K:Nat} (h:Shut gs C S' K) (hs:∀ v,S.testBit v=true→S'.testBit v=true):Shut gs C S K:=fun t v hv=>h t v (Z7G hs hv)
theorem Z8G (gs:List Gp) (cl m:Nat):∀ t,lv gs cl (spr gs cl m) t=lv gs cl m (t+1)
 | 0=>rfl
 | t+1=>by show spr gs cl (lv gs cl (spr gs cl m) t)=spr gs cl (lv gs cl m (t+1));rw [Z8G gs cl m t]
theorem Shut.next {gs:List Gp} {C S K:Nat} (h:Shut gs C S K):Shut gs C (spr gs C S) K:=fun t v hv=>h (t+1) v (by rw [← Z8G];exact hv)
theorem Z2F {gs:List Gp} {C S K:Nat} (h:Shut gs C S K):S&&&K=0:=and_zero.2 fun v hv=>h 0 v hv
theorem Z21 (n:Nat):cnt n 0=0:=by unfold cnt;simp
theorem Pl.free {gs:List Gp} {K sp:Nat} (hw:Wth gs 7):∀ (d m c:Nat),m<2 ^ 7→7-cnt 7 m≤d→Shut gs c m K→Pl gs K sp m c 0:=by
 intro d
 induction d with
 | zero =>
   intro m c hm hd hs
   have e:spr gs c m=m:=Classical.byContradiction fun hne=>by
     have:=Z4S hw hm hne
     have:=Z1O 7 (spr gs c m)
     omega
   have:=Pl.stay (gs:=gs) (K:=K) (sp:=sp) (m:=m) (c:=c) (l:=0) (Nat.two_pow_pos _) (Nat.zero_and _) (by rw [Z21];omega) (by rw [Nat.or_zero];exact e) (Z2F hs)
   rwa [Z21] at this
 | succ d ih =>
   intro m c hm hd hs
   by_cases e:spr gs c m=m
   · have:=Pl.stay (gs:=gs) (K:=K) (sp:=sp) (m:=m) (c:=c) (l:=0) (Nat.two_pow_pos _) (Nat.zero_and _) (by rw [Z21];omega) (by rw [Nat.or_zero];exact e) (Z2F hs)
     rwa [Z21] at this
   · have h1:=Z4S hw hm e
     have h2:=ih (spr gs c m) c (Z3q hw hm) (by omega) hs.next
     have:=Pl.go (gs:=gs) (K:=K) (sp:=sp) (m:=m) (c:=c) (l:=0) (n:=0) (Nat.two_pow_pos _) (Nat.zero_and _) (by rw [Z21];omega) (by rw [Nat.or_zero];exact e) (by rw [Nat.or_zero];exact Z2F hs.next) (by rw [Nat.or_zero];exact h2)
     rwa [Z21] at this
theorem Pl.once {gs:List Gp} {K sp S C:Nat} (hw:Wth gs 7) (hS:S<2 ^ 7) (hC:C<2 ^ gs.length) (hs:Shut gs C S K) (hn:cnt gs.length C≤sp):Pl gs K sp S 0 (cnt gs.length C):=by
 by_cases e:spr gs C S=S
 · exact .stay hC (Nat.and_zero _) hn (by rw [Nat.zero_or];exact e) (Z2F hs)
 · have h2:=Pl.free (sp:=sp) hw 7 (spr gs C S) C (Z3q hw hS) (by omega) hs.next
   have:=Pl.go (gs:=gs) (K:=K) (sp:=sp) (m:=S) (c:=0) (l:=C) (n:=0) hC (Nat.and_zero _) hn (by rw [Nat.zero_or];exact e) (by rw [Nat.zero_or];exact Z2F hs.next) (by rw [Nat.zero_or];exact h2)
   rwa [Nat.add_zero] at this
theorem Z8o {n a b:Nat} (h:a&&&b=0):cnt n (a|||b)=cnt n a+cnt n b:=by
 unfold cnt
 have h:=and_zero.1 h
 induction (List.range n) with
 | nil=>rfl
 | cons x l ih =>
   simp only [List.countP_cons,ih,Nat.testBit_or]
   have:=h x
   cases ha:a.testBit x<;>cases hb:b.testBit x<;>simp_all<;>omega
theorem ZdE {a b n:Nat} (ha:a<2 ^ n) (hb:b<2 ^ n):a|||b<2 ^ n:=Nat.or_lt_two_pow ha hb
theorem Pl.shut {gs:List Gp} {K sp m c n:Nat} (h:Pl gs K sp m c n):c<2 ^ gs.length→∃ C,C<2 ^ gs.length∧(∀ i,c.testBit i=true→C.testBit i=true)∧cnt gs.length C=cnt gs.length c+n∧Shut gs C m K:=by
 induction h with
 | @stay m c l hl hc hs he hk =>
   intro hcl
   refine ⟨c|||l,ZdE hcl hl,fun i hi=>by rw [Nat.testBit_or,hi];rfl,Z8o (by rw [Nat.and_comm];exact hc),fun t v hv=>?_⟩
   have:lv gs (c|||l) m t=m:=by
     have:=Z3H (gs:=gs) (cl:=c|||l) (m:=m) (t:=0) he t
     rwa [Nat.zero_add] at this
   rw [this] at hv
   exact and_zero.1 hk v hv
 | @go m c l n hl hc hs hne hk h ih =>
   intro hcl
   obtain ⟨C,h1,h2,h3,h4⟩:=ih (ZdE hcl hl)
   refine ⟨C,h1,fun i hi=>h2 i (by rw [Nat.testBit_or,hi];rfl),?_,h4.mono fun v hv=>Z18 hv⟩
   rw [h3,Z8o (by rw [Nat.and_comm];exact hc)];omega
theorem Pl.cut {gs:List Gp} {K sp S n m:Nat} (h:Pl gs K sp S 0 n) (hc:Cut gs S K m):m≤n:=by
 obtain ⟨C,h1,_,h3,h4⟩:=h.shut (Nat.two_pow_pos _)
 rw [Z21,Nat.zero_add] at h3
 exact hc.2 n ⟨C,h1,h4,h3⟩
theorem Cut.plan {gs:List Gp} {K sp S m:Nat} (hw:Wth gs 7) (hS:S<2 ^ 7) (hc:Cut gs S K m) (hm:m≤sp):Lst (Pl gs K sp S 0) m:=by
 refine ⟨?_,fun n hn=>hn.cut hc⟩
 obtain ⟨⟨C,h1,h2,h3⟩,_⟩:=hc
 have:=Pl.once (sp:=sp) hw hS h1 h2 (by omega)
 rwa [h3] at this
theorem Z93 {gs:List Gp} {S K:Nat} (ht:Two gs S K):Shut gs (2 ^ gs.length-1) S K:=fun t v hv=>by
 have:∀ t,lv gs (2 ^ gs.length-1) S t=S:=by
   intro t
   have e:spr gs (2 ^ gs.length-1) S=S:=Z0i fun v=>by
     rw [Bool.eq_iff_iff,spr_test]
     constructor
     · rintro (h | ⟨u,_,i,g,h2,h3,_⟩)
       · exact h
       · have:=(List.getElem?_eq_some_iff.1 h2).1
         rw [Nat.testBit_two_pow_sub_one,decide_eq_true this] at h3;cases h3
     · exact .inl
   have:=Z3H (gs:=gs) (cl:=2 ^ gs.length-1) (m:=S) (t:=0) e t
   rwa [Nat.zero_add] at this
 rw [this] at hv
 exact ht.no v hv
theorem Z9S (a b:Nat):(a&&&b)%2=(a%2)*(b%2):=by
 have h:=Nat.testBit_and a b 0
 rw [Nat.testBit_zero,Nat.testBit_zero,Nat.testBit_zero] at h
 rcases Nat.mod_two_eq_zero_or_one a with ha | ha<;>rcases Nat.mod_two_eq_zero_or_one b with hb | hb<;>rcases Nat.mod_two_eq_zero_or_one (a&&&b) with hc | hc<;>rw [ha,hb,hc] at h<;>simp_all
theorem Z6k:∀ (n:Nat) {all now s:Nat},all<2 ^ n→now&&&all=now→s&&&all=s→s<now→s≤(now-1)&&&all
 | 0,all,now,s,h,h1,_,h3=>by
   obtain rfl:all=0:=by simpa using h
   rw [Nat.and_zero] at h1;omega
 | n+1,all,now,s,h,h1,h2,h3=>by
   have a1:=congrArg (· / 2) h1
   have a2:=congrArg (· / 2) h2
   have b1:=congrArg (· % 2) h1
   have b2:=congrArg (· % 2) h2
   simp only [Nat.and_div_two,Z9S] at a1 a2 b1 b2
   have hA:all / 2<2 ^ n:=by rw [Nat.pow_succ] at h;omega
   have e:(now-1)&&&all=2*(((now-1)&&&all) / 2)+((now-1)&&&all)%2:=by omega
   rw [e,Nat.and_div_two,Z9S]
   rcases Nat.mod_two_eq_zero_or_one now with hn | hn
   · have ih:=Z6k n hA a1 a2 (by omega)
     have e2:(now-1) / 2=now / 2-1:=by omega
     have e3:(now-1)%2=1:=by omega
     rw [e2,e3]
     have:s%2≤all%2:=by rw [← b2];rcases Nat.mod_two_eq_zero_or_one s with h4 | h4<;>rw [h4]<;>omega
     omega
   · have e2:(now-1) / 2=now / 2:=by omega
     have e3:(now-1)%2=0:=by omega
     rw [e2,e3,a1];omega
theorem Pl.few {gs:List Gp} {K sp m c n:Nat} (h:Pl gs K sp m c n):n+cnt gs.length c≤gs.length:=by
 induction h with
 | @stay m c l _ hc _ _ _ =>
   have:=Z8o (n:=gs.length) hc
   have:=Z1O gs.length (l|||c)
   omega
 | @go m c l n _ hc _ _ _ _ ih =>
   have:=Z8o (n:=gs.length) hc
   rw [Nat.or_comm] at this
   omega
theorem Lst.ex {P:Nat→Prop}:∀ {n:Nat},P n→∃ m,Lst P m∧m≤n:=by
 intro n
 induction n using Nat.strongRecOn with
 | ind n ih =>
   intro h
   by_cases hx:∃ k,k<n∧P k
   · obtain ⟨k,h1,h2⟩:=hx
     obtain ⟨m,h3,h4⟩:=ih k h1 h2
     exact ⟨m,h3,by omega⟩
   · exact ⟨n,⟨h,fun k hk=>Nat.le_of_not_lt fun hl=>hx ⟨k,hl,hk⟩⟩,Nat.le_refl _⟩
def Cnd (gs:List Gp) (K sp m c l n:Nat):Prop:=(∀ i,l.testBit i=true→(Z0w gs m c).testBit i=true)∧cnt gs.length l≤sp∧spr gs (c|||l) m&&&K=0∧((spr gs (c|||l) m=m∧n=cnt gs.length l)∨(spr gs (c|||l) m≠m∧∃ k,n=cnt gs.length l+k∧Lst (Pl gs K sp (spr gs (c|||l) m) (c|||l)) k))
theorem Cnd.unique {gs:List Gp} {K sp m c l n n':Nat} (h:Cnd gs K sp m c l n) (h':Cnd gs K sp m c l n'):n=n':=by
 rcases h.2.2.2 with ⟨h1,h2⟩ | ⟨h1,k,h2,h3⟩<;>rcases h'.2.2.2 with ⟨h4,h5⟩ | ⟨h4,k',h5,h6⟩
 · omega
 · exact absurd h1 h4
 · exact absurd h4 h1
 · rw [h2,h5,h3.unique h6]
theorem Cnd.pl {gs:List Gp} {K sp m c l n:Nat} (h:Cnd gs K sp m c l n):Pl gs K sp m c n:=by
 obtain ⟨h1,h2,h3,h4⟩:=h
 have hl:l<2 ^ gs.length:=Z0z fun i hi=>by
   obtain ⟨g,h5,_⟩:=usfM_test.1 (h1 i hi)
   exact (List.getElem?_eq_some_iff.1 h5).1
 have hc:l&&&c=0:=and0_iff.2 fun i=>by
   cases hi:l.testBit i with
   | false=>rfl
   | true =>
     obtain ⟨g,_,h6,_⟩:=usfM_test.1 (h1 i hi)
     rw [h6];rfl
 rcases h4 with ⟨h5,h6⟩ | ⟨h5,k,h6,h7⟩
 · exact Pl.of (k:=0) hl hc h2 h3 (.inl ⟨h5,h6⟩)
 · exact Pl.of hl hc h2 h3 (.inr ⟨h5,h6,h7.1⟩)
theorem Cnd.sub {gs:List Gp} {K sp m c l n:Nat} (h:Cnd gs K sp m c l n):l&&&Z0w gs m c=l:=Z0i fun i=>by
 rw [Nat.testBit_and]
 cases hi:l.testBit i with
 | false=>rfl
 | true=>rw [h.1 i hi];rfl
def Z52 (gs:List Gp) (K sp m c n l:Nat) (lost:Bool):Prop:=(lost=true∧n=11∧l=0∧∀ k,¬ Pl gs K sp m c k)∨(lost=false∧n≤10∧Lst (Pl gs K sp m c) n∧Cnd gs K sp m c l n)
structure BI (gs:List Gp) (K sp m c now n l:Nat) (lost:Bool):Prop where
 min:∀ s n',now<s→Cnd gs K sp m c s n'→n≤n'
 is:(lost=true∧n=11∧l=0)∨(lost=false∧n≤10∧Cnd gs K sp m c l n)
theorem Z0k (gs:List Gp) (m c:Nat):Z0w gs m c<2 ^ gs.length:=Z0z fun i hi=>by
 obtain ⟨g,h5,_⟩:=usfM_test.1 hi
 exact (List.getElem?_eq_some_iff.1 h5).1
theorem Zc3 {a b:Nat} (h:a&&&b=a):a≤b:=h▸Nat.and_le_right
theorem BI.start (gs:List Gp) (K sp m c:Nat):BI gs K sp m c (Z0w gs m c) 11 0 true:=⟨fun s n' h1 h2=>absurd (Zc3 h2.sub) (by omega),.inl ⟨rfl,rfl,rfl⟩⟩
theorem BI.le {gs:List Gp} {K sp m c now n l:Nat} {lost:Bool} (h:BI gs K sp m c now n l lost):n≤11:=by rcases h.is with ⟨_,h1,_⟩ | ⟨_,h1,_⟩<;>omega
theorem BI.no {gs:List Gp} {K sp m c now n l:Nat} {lost:Bool} (h:BI gs K sp m c now n l lost) (hu:now&&&Z0w gs m c=now) (h0:now≠0) (hx:∀ n',Cnd gs K sp m c now n'→n≤n'):BI gs K sp m c ((now-1)&&&Z0w gs m c) n l lost:=⟨fun s n' h1 h2=>by
 rcases Nat.lt_trichotomy s now with h3 | h3 | h3
 · have:=Z6k gs.length (Z0k gs m c) hu h2.sub h3;omega
 · subst h3;exact hx n' h2
 · exact h.min s n' h3 h2,h.is⟩
theorem BI.take {gs:List Gp} {K sp m c now n l n2:Nat} {lost:Bool} (h:BI gs K sp m c now n l lost) (hu:now&&&Z0w gs m c=now) (h0:now≠0) (hc:Cnd gs K sp m c now n2) (hl:n2<n):BI gs K sp m c ((now-1)&&&Z0w gs m c) n2 now false:=⟨fun s n' h1 h2=>by
 rcases Nat.lt_trichotomy s now with h3 | h3 | h3
 · have:=Z6k gs.length (Z0k gs m c) hu h2.sub h3;omega
 · subst h3;rw [hc.unique h2];exact Nat.le_refl _
 · have:=h.min s n' h3 h2;omega,.inr ⟨rfl,by have:=h.le;omega,hc⟩⟩
theorem BI.done {gs:List Gp} {K sp m c n l:Nat} {lost:Bool} (hg:gs.length≤10) (hmin:∀ s n',Cnd gs K sp m c s n'→n≤n') (is:(lost=true∧n=11∧l=0)∨(lost=false∧n≤10∧Cnd gs K sp m c l n)):Z52 gs K sp m c n l lost:=by
 have key:∀ k,Pl gs K sp m c k→∃ s n',Cnd gs K sp m c s n'∧n'≤k:=fun k hk=>by
   obtain ⟨s,n',h1,h2,h3,h4,h5,h6⟩:=hk.first
   rcases h6 with ⟨h7,h8⟩ | ⟨h7,k2,h8,h9⟩
   · exact ⟨s,n',⟨h3,h4,h5,.inl ⟨h7,h8⟩⟩,h1⟩
   · obtain ⟨k3,h10,h11⟩:=Lst.ex h9
     exact ⟨s,cnt gs.length s+k3,⟨h3,h4,h5,.inr ⟨h7,k3,rfl,h10⟩⟩,by omega⟩
 rcases is with ⟨h1,h2,h3⟩ | ⟨h1,h2,h3⟩
 · refine .inl ⟨h1,h2,h3,fun k hk=>?_⟩
   obtain ⟨s,n',h4,h5⟩:=key k hk
   have:=hmin s n' h4
   have:=h4.pl.few
   omega
 · refine .inr ⟨h1,h2,⟨h3.pl,fun k hk=>?_⟩,h3⟩
   obtain ⟨s,n',h4,h5⟩:=key k hk
   have:=hmin s n' h4
   omega
theorem BI.endNo {gs:List Gp} {K sp m c n l:Nat} {lost:Bool} (hg:gs.length≤10) (h:BI gs K sp m c 0 n l lost) (hx:∀ n',Cnd gs K sp m c 0 n'→n≤n'):Z52 gs K sp m c n l lost:=BI.done hg (fun s n' h2=>by
 rcases Nat.eq_zero_or_pos s with h3 | h3
 · subst h3;exact hx n' h2
 · exact h.min s n' h3 h2) h.is
theorem BI.endTake {gs:List Gp} {K sp m c n l n2:Nat} {lost:Bool} (hg:gs.length≤10) (h:BI gs K sp m c 0 n l lost) (hc:Cnd gs K sp m c 0 n2) (hl:n2<n):Z52 gs K sp m c n2 0 false:=BI.done hg (fun s n' h2=>by
 rcases Nat.eq_zero_or_pos s with h3 | h3
 · subst h3;rw [hc.unique h2];exact Nat.le_refl _
 · have:=h.min s n' h3 h2;omega) (.inr ⟨rfl,by have:=h.le;omega,hc⟩)
theorem Z4j {gs:List Gp} {cl m:Nat} (h:spr gs cl m≠m):m<spr gs cl m:=by
 have h1:m&&&spr gs cl m=m:=Z0i fun i=>by
   rw [Nat.testBit_and]
   cases hi:m.testBit i with
   | false=>rfl
   | true=>rw [Z18 hi];rfl
 have:=Zc3 h1
 omega
def Zkb (gs:List Gp) (K sp m c l:Nat):Prop:=l<2 ^ gs.length∧l&&&c=0∧cnt gs.length l≤sp∧spr gs (c|||l) m&&&K=0
def Seg (gs:List Gp) (K sp:Nat):Nat→Nat→List Nat→Nat→Nat→Prop
 | m,c,[],m',c'=>m'=m∧c'=c
 | m,c,l::ls,m',c'=>Zkb gs K sp m c l∧Seg gs K sp (spr gs (c|||l) m) (c|||l) ls m' c'
theorem Seg.snoc {gs:List Gp} {K sp:Nat}:∀ {ls:List Nat} {m c m' c' l:Nat},Seg gs K sp m c ls m' c'→Zkb gs K sp m' c' l→Seg gs K sp m c (ls++[l]) (spr gs (c'|||l) m') (c'|||l)
 | [],m,c,m',c',l,⟨h1,h2⟩,hw=>by subst h1;subst h2;exact ⟨hw,rfl,rfl⟩
 | x::ls,m,c,m',c',l,⟨h1,h2⟩,hw=>⟨h1,Seg.snoc h2 hw⟩
def Z9L (gs:List Gp):List Nat→Nat
 | []=>0
 | l::ls=>cnt gs.length l+Z9L gs ls
theorem Z2r (gs:List Gp) (l:Nat):∀ ls,Z9L gs (ls++[l])=Z9L gs ls+cnt gs.length l
 | []=>by simp [Z9L]
 | x::ls=>by
   rw [List.cons_append]
   unfold Z9L
   rw [Z2r gs l ls];omega
def RunP (gs:List Gp) (K sp m c:Nat) (ls:List Nat):Prop:=∃ m' c',Seg gs K sp m c ls m' c'∧Shut gs c' m' K
theorem Cnd.wk {gs:List Gp} {K sp m c l n:Nat} (h:Cnd gs K sp m c l n):Zkb gs K sp m c l:=by
 obtain ⟨h1,h2,h3,_⟩:=h
 refine ⟨Z0z fun i hi=>by
   obtain ⟨g,h5,_⟩:=usfM_test.1 (h1 i hi)
   exact (List.getElem?_eq_some_iff.1 h5).1,and0_iff.2 fun i=>?_,h2,h3⟩
 cases hi:l.testBit i with
 | false=>rfl
 | true =>
   obtain ⟨g,_,h6,_⟩:=usfM_test.1 (h1 i hi)
   rw [h6];rfl
theorem RunP.once {gs:List Gp} {K sp S C:Nat} (hs:Shut gs C S K) (hC:C<2 ^ gs.length) (hn:cnt gs.length C≤sp):RunP gs K sp S 0 [C] :=
 ⟨spr gs (0|||C) S,0|||C,⟨⟨hC,Nat.and_zero _,hn,by rw [Nat.zero_or];exact Z2F hs.next⟩,rfl,rfl⟩,by rw [Nat.zero_or];exact hs.next⟩
theorem RunP.stop {gs:List Gp} {K sp S c0 m c l n:Nat} {ls:List Nat} (h:Seg gs K sp S c0 ls m c) (hc:Cnd gs K sp m c l n) (he:spr gs (c|||l) m=m):RunP gs K sp S c0 (ls++[l]):=by
 refine ⟨_,_,h.snoc hc.wk,fun t v hv=>?_⟩
 have h0:=hc.2.2.1
 rw [he] at hv h0
 have hst:=Z3H (gs:=gs) (cl:=c|||l) (m:=m) (t:=0) he t
 rw [Nat.zero_add] at hst
 rw [hst] at hv
 exact and_zero.1 h0 v hv
theorem Z6K {gs:List Gp} (hg:gs.length≤10) (X:Nat):Zs (msk (Z1C X gs))=Z1C X gs:=by
 obtain ⟨t,h1,h2,_⟩:=Zbm (y:=(List.range gs.length).filter fun i=>match gs[i]? with | some g=>crs X g | none=>false) hg (List.pairwise_lt_range.filter _) (fun j hj=>List.mem_range.1 (List.mem_filter.1 hj).1)
 have h3:Zs t=Z1C X gs:=h2
 rw [← h3,Z1x (Nat.lt_of_lt_of_le h1 (Nat.pow_le_pow_right (by decide) hg))]
def plD (gs:List Gp) (K sp:Nat):Nat→Nat→Nat→Nat→Bool
 | 0,_,_,_=>false
 | f+1,m,c,n=>(List.range (2 ^ gs.length)).any fun l=>Nat.beq (l&&&c) 0&&Nat.ble (cnt gs.length l) sp&&Nat.ble (cnt gs.length l) n&&Nat.beq (spr gs (c|||l) m&&&K) 0&&(Nat.beq (spr gs (c|||l) m) m||plD gs K sp f (spr gs (c|||l) m) (c|||l) (n-cnt gs.length l))
theorem Z69 {gs:List Gp} {K sp:Nat}:∀ {f m c n:Nat},plD gs K sp f m c n=true→∃ k,k≤n∧Pl gs K sp m c k
 | 0,_,_,_,h=>by cases h
 | f+1,m,c,n,h=>by
   unfold plD at h
   obtain ⟨l,hl,h1⟩:=List.any_eq_true.1 h
   simp only [Bool.and_eq_true,Bool.or_eq_true,Nat.beq_eq,Nat.ble_eq] at h1
   obtain ⟨⟨⟨⟨h2,h3⟩,h4⟩,h5⟩,h6⟩:=h1
   have hl:=List.mem_range.1 hl
   by_cases he:spr gs (c|||l) m=m
   · exact ⟨_,h4,Pl.of (k:=0) hl h2 h3 h5 (.inl ⟨he,rfl⟩)⟩
   · obtain ⟨k,h7,h8⟩:=Z69 (h6.resolve_left he)
     exact ⟨cnt gs.length l+k,by omega,Pl.of hl h2 h3 h5 (.inr ⟨he,rfl,h8⟩)⟩
theorem Z7L {gs:List Gp} {K sp:Nat} (hw:Wth gs 7):∀ {f m c n k:Nat},m<2 ^ 7→8≤f+cnt 7 m→Pl gs K sp m c k→k≤n→plD gs K sp f m c n=true
 | 0,m,_,_,_,hm,hf,_,_=>by have:=Z1O 7 m;omega
 | f+1,m,c,n,k,hm,hf,h,hk=>by
   obtain ⟨l,hl,hc,hs,h1,h2⟩:=h.cons_inv
   unfold plD
   refine List.any_eq_true.2 ⟨l,List.mem_range.2 hl,?_⟩
   simp only [Bool.and_eq_true,Bool.or_eq_true,Nat.beq_eq,Nat.ble_eq]
   rcases h2 with ⟨h3,h4⟩ | ⟨h3,k',h4,h5⟩
   · exact ⟨⟨⟨⟨hc,hs⟩,by omega⟩,h1⟩,.inl h3⟩
   · have hn:=Z4S hw hm h3
     exact ⟨⟨⟨⟨hc,hs⟩,by omega⟩,h1⟩,.inr (Z7L hw (Z3q hw hm) (by omega) h5 (by omega))⟩
theorem ZbA {gs:List Gp} {K sp m c n:Nat} (hw:Wth gs 7) (hm:m<2 ^ 7) (h1:plD gs K sp 8 m c (n+1)=true) (h2:plD gs K sp 8 m c n=false):Lst (Pl gs K sp m c) (n+1):=by
 have key:∀ k,Pl gs K sp m c k→n+1≤k:=fun k hk=>Nat.lt_of_not_le fun hle=>by
   rw [Z7L hw hm (by omega) hk hle] at h2;cases h2
 obtain ⟨k,h3,h4⟩:=Z69 h1
 have:=key k h4
 obtain rfl:k=n+1:=by omega
 exact ⟨h4,key⟩
end Go.Proofs.YtclnhdkneegfkaaGreat
