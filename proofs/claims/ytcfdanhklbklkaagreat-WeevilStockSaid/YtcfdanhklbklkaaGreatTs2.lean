/- Walks of the functions of the program, and the laws that join them: what the last theorem of this claim needs, in order. -/
import Derived.Test.YtcfdanhklbklkaaGreatTs1
namespace Go.Proofs.YtcfdanhklbklkaaGreat
set_option linter.unusedSimpArgs false
set_option linter.unusedVariables false
open Go
section pe
variable {P:Program} {L:Zk} {d:Option Tmp} {ty:TypeId} {pos:String} {af:Array Edge} {g:Option (Nat×Bool)}
end pe
section steps
variable {P:Program} {r:Option Nat} {ops:Array Oper} {n:Nat} {L:Zk} {D:List Deferred} {H:Z8} {R:Z4} {K:Act→World→Prop}
 {i d:Nat} {ty:TypeId} {pos:String} {af:Array Edge}
theorem Z7D {P:Program} {T e s:Nat} (h:slE P T=some (e,s)):∃ i,P.underlying T=some (.slice e)∧P.info? e=some i∧i.size=s:=by
 unfold slE at h
 split at h
 · rename_i e' hu
   rw [Option.map_eq_some_iff] at h
   obtain ⟨i,hi,he⟩:=h
   cases he
   exact ⟨i,hu,hi,rfl⟩
 · cases h
theorem Z9h {P:Program} {b e:Nat} {l vs:List Value} (h1:vs.all (·.oneCell')=true) (hb:vs.length≤l.length) {w:World} (h:w.heap[b]?=some (cel e l)) :
   (storeCells ⟨b,0,none⟩ vs).run P w = .ok () { w with heap:=w.heap.setIfInBounds b (cel e (spl l 0 vs)) }:=by
 have:=run_storeCells_at (P:=P) b 0 e vs 0 l.toArray w h (by simpa using hb) (fun x hx=>List.all_eq_true.1 h1 x hx)
 rw [Z1d h] at this
 simpa [spl] using this
theorem clr {T e s:Nat} {x:Operand} {rows:List (List Value)} (o:OSl e s rows) {z:List Value} {C:Z8→Z8} {dd:Option Nat}
   (ho:ops[i]?=some ⟨dd,.call { callee:=.builtin .clear,args := #[x],argTypes := #[T] },ty,pos,af,none⟩) (hdd:dd=none) (hT:slE P T=some (e,s)) (hz:ZD P e=some z) (hzs:z.length=s) (hz1:z.all (·.oneCell')=true)
   (hx:ev L x=some o.fs) [rp:RepF o.G H C]
   (h:∀ o':OSl e s (List.replicate rows.length z),o'.fs=o.fs→Sy n L D (C o'.G) R K):Sy n L D H R (stp P r ops i K):=fun a w ha hD hs0=>by
 subst hdd
 obtain ⟨T0,p1,p2⟩:=rp.rep
 have hs:=hs0.perm p1
 obtain ⟨ie,hu,hi,rfl⟩:=Z7D hT
 obtain ⟨zv,hzv1,hzv2⟩:=Z2f hz
 have key:∃ (o':OSl e ie.size (List.replicate rows.length z)) (w':World),o'.fs=o.fs∧(Builtin.clear_ #[T] ty #[o.fs]).run P w = .ok (.tuple #[]) w'∧St (o'.G++T0) R w':=by
   have hlz:∀ r∈List.replicate rows.length z,r.length=ie.size:=fun r hr=>by rw [(List.mem_replicate.1 hr).2];exact hzs
   rcases o.is with ⟨h1,h2,h3⟩ | ⟨b,cap,junk,h2,h3,hj,hc,hm⟩
   · subst h1
     refine ⟨OSl.nil _ _,w,by rw [h2];rfl,?_,by rw [h3] at hs;exact hs⟩
     rw [h2]
     simp [Builtin.clear_,run_underlying hu]
   · rcases Nat.eq_zero_or_pos rows.length with h0 | h0
     · have h1:rows=[]:=List.eq_nil_of_length_eq_zero h0
       subst h1
       refine ⟨⟨o.fs,o.G,by simp,.inr ⟨b,cap,junk,h2,h3,hj,hc,hm⟩⟩,w,rfl,?_,hs⟩
       rw [h2]
       simp [Builtin.clear_,run_underlying hu]
     · have hf:=Z0i o.len
       have hr:(Z2C rows.length z).length=rows.length*ie.size:=by rw [← Z1R,Z0i hlz];simp
       rw [h3] at hs
       have hst:=Z9h (P:=P) (e:=e) (l:=rows.flatten++junk) (vs:=Z2C rows.length z) (by
         rw [← Z1R]
         refine List.all_eq_true.2 fun v hv=>?_
         obtain ⟨q,hq,hvq⟩:=List.mem_flatten.1 hv
         rw [(List.mem_replicate.1 hq).2] at hvq
         exact List.all_eq_true.1 hz1 v hvq) (by rw [hr,List.length_append,hf];omega) (hs.held (b,cel e (rows.flatten++junk)) (by simp))
       have hspl:spl (rows.flatten++junk) 0 (Z2C rows.length z)=(List.replicate rows.length z).flatten++junk:=by
         unfold spl
         rw [List.take_zero,List.nil_append,Nat.zero_add,hr,← hf,List.drop_left,Z1R]
       rw [hspl] at hst
       refine ⟨⟨.slice (some ⟨b,0,none⟩) (List.replicate rows.length z).length cap,[(b,cel e ((List.replicate rows.length z).flatten++junk))],hlz,.inr ⟨b,cap,junk,rfl,rfl,by simpa using hj,by simpa using hc,hm⟩⟩,_,?_,?_,St.set (o:=cel e (rows.flatten++junk)) hs⟩
       · rw [h2];simp
       · obtain ⟨k,hk⟩:∃ k,rows.length=k+1:=⟨rows.length-1,by omega⟩
         have hzc:(Builtin.zeroCells zv.cells rows.length).toList=Z2C rows.length z:=by rw [hzv1];simp [Builtin.zeroCells,Z2C]
         rw [h2]
         rw [hk] at hzc hst ⊢
         simp only [Builtin.clear_,Sem.run_bind,run_underlying hu,Result.andThen,hzv2,hzc,hst,Sem.run_pure,List.getElem?_toArray,List.getElem?_cons_zero]
 obtain ⟨o',w',e1,e2,e3⟩:=key
 refine ZA ho (Zg _ rfl _) (v:=.tuple #[]) (w':=w') ?_ (h o' e1 _ _ (ha.putNone _) hD (e3.perm (p2 _)))
 simp only [execOp,resolve,invoke,builtin,Sem.run_bind,Sem.run_pure,Result.andThen,List.map_toArray,List.map_cons,List.map_nil,ha.reads _ _ hx]
 rw [e2]
end steps
def back (b:Nat) (o:Obj) (R:Z4):World→Prop:=fun w=>w.heap[b]?=some o∧∀ f∈R,∀ w',Keep [b] w w'→f w'
theorem St.pullG {H:Z8} {R:Z4} {w:World} (F:Z8) {C:Z8→Z8} [r:RepF F H C] (h:St H R w):St (F++C []) R w:=by
 obtain ⟨T,h1,h2⟩:=r.rep
 exact h.perm (h1.trans (List.Perm.append_left F (h2 [])))
theorem Z6J {P:Program} {k:IntKind} {i:Int} {y:Nat} {c:BoundsCode} (h:0≤i∧i≤y) (w:World):(Instr.sliceBound (.int k i) y c).run P w = .ok i.toNat w:=by
 unfold Instr.sliceBound
 simp only [asIntOf,Sem.run_bind,Sem.run_pure,Result.andThen]
 rw [if_pos h];rfl
section pe
variable {P:Program} {L:Zk} {d:Option Tmp} {ty:TypeId} {pos:String} {af:Array Edge} {g:Option (Nat×Bool)}
theorem PE.slHi {T e s:Nat} {x y:Operand} {a:Option Addr} {len cap h:Nat} {k:IntKind} (hT:slE P T=some (e,s)) (hx:ev L x=some (.slice a len cap)) (hy:ev L y=some (.int k h)) (hh:h≤cap) :
   PE P L ⟨d,.slice T x none (some y) none,ty,pos,af,g⟩ (.slice a h cap):=fun ρ hρ w=>by
 obtain ⟨i,hu,hi,_⟩:=Z7D hT
 have hb:∀ c w,(Instr.sliceBound (.int k (h:Int)) cap c).run P w = .ok h w:=fun c w=>by rw [Z6J (by omega)];simp
 have e1:(if cap=0 then a else a.map (·.add (0*i.size)))=a:=by
   have:a.map (·.add (0*i.size))=a:=by
     cases a with
     | none=>rfl
     | some ad=>simp [Addr.add]
   rw [this];split<;>rfl
 simp only [execOp,hρ _ _ hx,hρ _ _ hy,Option.map_none,Option.map_some,Instr.sliceAt,Instr.slice,Sem.run_bind,run_underlying hu,Result.andThen,Sem.run_pure,Instr.sliceBounds,hb,sizeOf,typeInfo,program,hi,Sem.run]
 rw [e1];simp
def arE (P:Program) (T:Nat):Option (Nat×Nat):=match P.underlying T with | some (.array n e)=>some (n,e) | _=>none
theorem PE.indexI {T len e s i:Nat} {b:Bool} {x y:Operand} {k:IntKind} {l:List Int} (hT:arE P T=some (len,e)) (hE:EQ P 10000 b e s) (hs:b=false→s=1) (hx:ev L x=some (.agg (Zp l).toArray)) (hy:ev L y=some (.int k i)) (hi:i<len) (hl:i*s+s≤l.length) :
   PE P L ⟨d,.index T x y,ty,pos,af,g⟩ (mkv b ((l.drop (i*s)).take s)):=fun ρ hρ w=>by
 unfold arE at hT
 split at hT
 · rename_i n e' hu
   cases hT
   have hsz:=Z5R hE.1.1
   have hp:=Z1F hE hs l (i*s) hl
   simp only [execOp,hρ _ _ hx,hρ _ _ hy,Instr.index,asIntOf,Sem.run_bind,Sem.run_pure,run_underlying hu,Result.andThen]
   rw [if_pos ⟨by omega,by omega⟩]
   simp only [Sem.run_bind,hsz,Result.andThen,Int.toNat_natCast,hp,Sem.run_pure]
 · cases hT
end pe
theorem Zbx {a:Option Addr} {sz:Nat} {rows:List (List Value)} {w:World} (h:RowsA a sz rows w) (n:Nat):RowsA a sz (rows.take n) w:=fun i row hi=>by
 rw [List.getElem?_take] at hi
 split at hi
 · exact h i row hi
 · cases hi
theorem St.rowsTake {a:Option Addr} {sz:Nat} {rows:List (List Value)} {H:Z8} {R:Z4} {w:World} [m:MemRows a sz rows R] (h:St H R w) (n:Nat):St H (RowsA a sz (rows.take n)::R) w:=h.also fun _ hg=>Zbx (hg _ m.mem) n
section calls
variable {P:Program} {r:Option Nat} {ops:Array Oper} {n:Nat} {L:Zk} {D:List Deferred} {H:Z8} {R:Z4} {K:Act→World→Prop}
 {i:Nat} {ty:TypeId} {pos:String} {af:Array Edge}
end calls
theorem FnV.app {P:Program} {f:FuncId} {a:List Value} {G G2 H:Z8} {R:Z4} {v:Value} (h:FnV P f a ((G++G2)++H) R v):FnV P f a (G++(G2++H)) R v:=by rw [← List.append_assoc];exact h
theorem Yd.app {P:Program} {l:Nat} {a:List Value} {G G2 H:Z8} {R:Z4} {Q:Value→Z8→Z4→Prop} (h:Yd P l a ((G++G2)++H) R Q):Yd P l a (G++(G2++H)) R Q:=by rw [← List.append_assoc];exact h
theorem Yd.mono {P:Program} {l:Nat} {a:List Value} {H:Z8} {R:Z4} {Q Q':Value→Z8→Z4→Prop} (h:Yd P l a H R Q) (hq:∀ v H' R',Q v H' R'→Q' v H' R'):Yd P l a H R Q':=fun w hs=>by
 obtain ⟨f,tm,asg,bo,h1,h2⟩:=h w hs
 exact ⟨f,tm,asg,bo,h1,RoundIn.mono h2 fun e w' ⟨v,H',R',q,he,hs'⟩=>⟨v,H',R',hq _ _ _ q,he,hs'⟩⟩
theorem Z34 (n:Int):0≤IntKind.u32.wrap n∧IntKind.u32.wrap n≤4294967295:=by
 have e:IntKind.u32.wrap n=n%4294967296:=rfl
 rw [e];omega
theorem Z7K {n:Int} (h0:0≤n) (h1:n≤4294967295):IntKind.u32.wrap n=n:=by
 have e:IntKind.u32.wrap n=n%4294967296:=rfl
 rw [e];omega
theorem Z1H {n:Int} (h0 : -9223372036854775808≤n) (h1:n≤9223372036854775807):IntKind.i64.wrap n=n:=by
 have e:IntKind.i64.wrap n=if n%18446744073709551616≥9223372036854775808 then n%18446744073709551616-18446744073709551616 else n%18446744073709551616:=by
   unfold IntKind.wrap
   simp [IntKind.signed,IntKind.bits]
 rw [e]
 split<;>omega
def U32 (m:Int) (v:Value):Prop:=∃ x:Int,v = .int .u32 x∧0≤x∧x≤m
section pe
variable {P:Program} {L:Zk} {d:Option Tmp} {ty:TypeId} {pos:String} {af:Array Edge} {g:Option (Nat×Bool)}
theorem Zdh {op:BinOp} {T:TypeId} {k:IntKind} {m n:Int} (hop:op = .and∨op = .or∨op = .xor∨op = .andNot):binOp op T (.int k m) (.int k n)=Op.intBits op k m n:=by
 rcases hop with rfl | rfl | rfl | rfl<;>simp [binOp]
theorem PE.bits {op:BinOp} {T U:TypeId} {x y:Operand} {k:IntKind} {m n:Int} {v:Value} (hop:op = .and∨op = .or∨op = .xor∨op = .andNot) (hx:ev L x=some (.int k m)) (hy:ev L y=some (.int k n))
   (h:∀ w,(Op.intBits op k m n).run P w = .ok v w):PE P L ⟨d,.binOp op T x y U,ty,pos,af,g⟩ v:=fun ρ hρ w=>by
 have hg:∀ w,(eqGuard op T x y (.int k m) (.int k n)).run P w = .ok () w:=fun w=>by rcases hop with rfl | rfl | rfl | rfl<;>rfl
 simp only [execOp,hρ _ _ hx,hρ _ _ hy,Sem.run_bind,hg,Zdh hop,h,Result.andThen,Sem.run_pure]
theorem PE.xorU {T U:TypeId} {x y:Operand} {m n:Int} (hx:ev L x=some (.int .u32 m)) (hy:ev L y=some (.int .u32 n)):∃ v,PE P L ⟨d,.binOp .xor T x y U,ty,pos,af,g⟩ v∧U32 4294967295 v :=
 ⟨_,PE.bits (by simp) hx hy (fun w=>rfl),_,rfl,Z34 _⟩
theorem PE.mulU {T U:TypeId} {x y:Operand} {m n:Int} (hx:ev L x=some (.int .u32 m)) (hy:ev L y=some (.int .u32 n)):∃ v,PE P L ⟨d,.binOp .mul T x y U,ty,pos,af,g⟩ v∧U32 4294967295 v:=⟨_,PE.mulW hx hy,_,rfl,Z34 _⟩
theorem PE.addU {T U:TypeId} {x y:Operand} {m n:Int} (hx:ev L x=some (.int .u32 m)) (hy:ev L y=some (.int .u32 n)):∃ v,PE P L ⟨d,.binOp .add T x y U,ty,pos,af,g⟩ v∧U32 4294967295 v:=⟨_,PE.addW hx hy,_,rfl,Z34 _⟩
theorem PE.convU {S T:TypeId} {x:Operand} {k:IntKind} {m:Int} (hS:(P.underlying S).isSome=true) (hT:Zb3 P T=some .u32) (hx:ev L x=some (.int k m)):∃ v,PE P L ⟨d,.convert S T x,ty,pos,af,g⟩ v∧U32 4294967295 v:=⟨_,PE.convert hS hT hx,_,rfl,Z34 _⟩
theorem PE.conv64 {S T:TypeId} {x:Operand} {k:IntKind} {m:Int} (hS:(P.underlying S).isSome=true) (hT:Zb3 P T=some .i64) (hx:ev L x=some (.int k m)) (h0 : -9223372036854775808≤m∧m≤9223372036854775807):PE P L ⟨d,.convert S T x,ty,pos,af,g⟩ (.int .i64 m):=by
 have:=PE.convert (P:=P) (L:=L) (d:=d) (ty:=ty) (pos:=pos) (af:=af) (g:=g) hS hT hx
 rwa [Z1H h0.1 h0.2] at this
theorem PE.andU {T U:TypeId} {x y:Operand} {m n:Int} (hx:ev L x=some (.int .u32 m)) (hy:ev L y=some (.int .u32 n)) (h0:0≤n) (h1:n≤4294967295):∃ v,PE P L ⟨d,.binOp .and T x y U,ty,pos,af,g⟩ v∧U32 n v:=by
 refine ⟨_,PE.bits (by simp) hx hy (fun w=>rfl),_,rfl,(Z34 _).1,?_⟩
 have hb:(BitVec.ofInt 32 n).toNat=n.toNat:=by
   rw [BitVec.toNat_ofInt];omega
 have hle:(BitVec.ofInt 32 m&&&BitVec.ofInt 32 n).toNat≤n.toNat:=by
   rw [BitVec.toNat_and,hb];exact Nat.and_le_right
 show IntKind.u32.wrap ((BitVec.ofInt 32 m&&&BitVec.ofInt 32 n).toNat:Int)≤n
 rw [Z7K (by omega) (by omega)]
 omega
theorem PE.shrU {T U:TypeId} {x y:Operand} {q:IntKind} {m n:Int} (hx:ev L x=some (.int .u32 m)) (hy:ev L y=some (.int q n)) (hn:0≤n) (h0:0≤m) (h1:m≤4294967295):∃ v,PE P L ⟨d,.binOp .shr T x y U,ty,pos,af,g⟩ v∧U32 4294967295 v:=by
 refine ⟨.int .u32 (m.fdiv (2 ^ (Min.min n.toNat 32))),fun ρ hρ w=>?_,_,rfl,?_,?_⟩
 · have hg:∀ w,(eqGuard .shr T x y (.int .u32 m) (.int q n)).run P w = .ok () w:=fun w=>rfl
   have hb:binOp .shr T (.int .u32 m) (.int q n)=Op.shift .shr .u32 m q n:=by simp [binOp]
   have hs:∀ w,(Op.shift .shr .u32 m q n).run P w = .ok (.int .u32 (m.fdiv (2 ^ (Min.min n.toNat 32)))) w:=fun w=>by
     unfold Op.shift
     rw [if_neg (by omega)]
     rfl
   simp only [execOp,hρ _ _ hx,hρ _ _ hy,Sem.run_bind,hg,hb,hs,Result.andThen,Sem.run_pure]
 · rw [Int.fdiv_eq_ediv_of_nonneg _ (Int.pow_nonneg (by omega))]
   exact Int.ediv_nonneg h0 (Int.pow_nonneg (by omega))
 · rw [Int.fdiv_eq_ediv_of_nonneg _ (Int.pow_nonneg (by omega))]
   have:=Int.ediv_le_self (a:=m) (2 ^ (Min.min n.toNat 32)) h0
   omega
end pe
section steps
variable {P:Program} {r:Option Nat} {ops:Array Oper} {n:Nat} {L:Zk} {D:List Deferred} {H:Z8} {R:Z4} {K:Act→World→Prop}
 {bm:List Nat} {X:Act→World→Prop} {p:Plan} {pend:Z3E}
 {i d:Nat} {op:Op} {ty:TypeId} {pos:String} {af:Array Edge}
theorem spE {q:Value→Prop} (ho:ops[i]?=some ⟨some d,op,ty,pos,af,none⟩) (hv:∃ v,PE P L ⟨some d,op,ty,pos,af,none⟩ v∧q v) (hd:Nat.blt d n=true)
   (h:∀ v,q v→Sy n ((d,v)::L) D H R K):Sy n L D H R (stp P r ops i K):=by
 obtain ⟨v,hv,hq⟩:=hv
 exact sp ho hv hd (h v hq)
theorem tkE {q:Value→Prop} (ho:ops[i]?=some ⟨some d,op,ty,pos,af,none⟩) (hv:∃ v,PE P L ⟨some d,op,ty,pos,af,none⟩ v∧q v) (hd:Nat.blt d n=true)
   (h:∀ v,q v→Sy n ((d,v)::L) D H R (Dv P r ops bm X p pend)):Sy n L D H R (Dv P r ops bm X (.tk i p) pend):=by
 obtain ⟨v,hv,hq⟩:=hv
 exact tk ho hv hd (h v hq)
end steps
section pe
variable {P:Program} {L:Zk} {d:Option Tmp} {ty:TypeId} {pos:String} {af:Array Edge} {g:Option (Nat×Bool)}
theorem PE.shlN {T U:TypeId} {x y:Operand} {m:Nat} {k:Int} {n:Nat} {q:IntKind} (hx:ev L x=some (.int .i64 k)) (hy:ev L y=some (.int q (n:Int))) (hk:k=(m:Int)) (hn:n≤62) (hb:m*2 ^ n≤9223372036854775807) :
   PE P L ⟨d,.binOp .shl T x y U,ty,pos,af,g⟩ (.int .i64 ((m*2 ^ n:Nat):Int)):=fun ρ hρ w=>by
 subst hk
 have hg:∀ w,(eqGuard .shl T x y (.int .i64 (m:Int)) (.int q (n:Int))).run P w = .ok () w:=fun w=>rfl
 have hbo:binOp .shl T (.int .i64 (m:Int)) (.int q (n:Int))=Op.shift .shl .i64 m q n:=by simp [binOp]
 have hs:∀ w,(Op.shift .shl .i64 (m:Int) q (n:Int)).run P w = .ok (.int .i64 ((m*2 ^ n:Nat):Int)) w:=fun w=>by
   unfold Op.shift
   rw [if_neg (by omega)]
   have e:Min.min ((n:Int).toNat) (IntKind.i64.bits)=n:=by
     have:IntKind.i64.bits=64:=rfl
     rw [this,Int.toNat_natCast];omega
   have e2:((m:Int)*2 ^ n)=((m*2 ^ n:Nat):Int):=by push_cast;rfl
   show Result.ok (Value.int .i64 (IntKind.i64.wrap ((m:Int)*2 ^ (Min.min ((n:Int).toNat) (IntKind.i64.bits))))) w=_
   rw [e,e2,Z1H (by omega) (by omega)]
 simp only [execOp,hρ _ _ hx,hρ _ _ hy,Sem.run_bind,hg,hbo,hs,Result.andThen,Sem.run_pure]
theorem PE.shrN {T U:TypeId} {x y:Operand} {m n:Nat} {q:IntKind} (hx:ev L x=some (.int .i64 (m:Int))) (hy:ev L y=some (.int q (n:Int))) (hn:n≤64) :
   PE P L ⟨d,.binOp .shr T x y U,ty,pos,af,g⟩ (.int .i64 ((m>>>n:Nat):Int)):=fun ρ hρ w=>by
 have hg:∀ w,(eqGuard .shr T x y (.int .i64 (m:Int)) (.int q (n:Int))).run P w = .ok () w:=fun w=>rfl
 have hbo:binOp .shr T (.int .i64 (m:Int)) (.int q (n:Int))=Op.shift .shr .i64 m q n:=by simp [binOp]
 have hs:∀ w,(Op.shift .shr .i64 (m:Int) q (n:Int)).run P w = .ok (.int .i64 ((m>>>n:Nat):Int)) w:=fun w=>by
   unfold Op.shift
   rw [if_neg (by omega)]
   have e:Min.min ((n:Int).toNat) (IntKind.i64.bits)=n:=by
     have:IntKind.i64.bits=64:=rfl
     rw [this,Int.toNat_natCast];omega
   show Result.ok (Value.int .i64 ((m:Int).fdiv (2 ^ (Min.min ((n:Int).toNat) (IntKind.i64.bits))))) w=_
   rw [e,Int.fdiv_eq_ediv_of_nonneg _ (Int.pow_nonneg (by omega)),Nat.shiftRight_eq_div_pow]
   congr 2
 simp only [execOp,hρ _ _ hx,hρ _ _ hy,Sem.run_bind,hg,hbo,hs,Result.andThen,Sem.run_pure]
theorem Z2W {m:Nat} (h:m≤9223372036854775807):(BitVec.ofInt 64 (m:Int)).toNat=m:=by
 rw [BitVec.toNat_ofInt];omega
theorem PE.andN {T U:TypeId} {x y:Operand} {m n:Nat} {k:Int} (hx:ev L x=some (.int .i64 (m:Int))) (hy:ev L y=some (.int .i64 k)) (hk:k=(n:Int)) (hm:m≤9223372036854775807) (hn:n≤9223372036854775807) :
   PE P L ⟨d,.binOp .and T x y U,ty,pos,af,g⟩ (.int .i64 ((m&&&n:Nat):Int)):=by
 subst hk
 refine PE.bits (by simp) hx hy (fun w=>?_)
 show Result.ok (Value.int .i64 (IntKind.i64.wrap ((BitVec.ofInt 64 (m:Int)&&&BitVec.ofInt 64 (n:Int)).toNat:Int))) w=_
 have:m&&&n≤m:=Nat.and_le_left
 rw [BitVec.toNat_and,Z2W hm,Z2W hn,Z1H (by omega) (by omega)]
theorem PE.orN {T U:TypeId} {x y:Operand} {m n:Nat} (hx:ev L x=some (.int .i64 (m:Int))) (hy:ev L y=some (.int .i64 (n:Int))) (hm:m<2 ^ 62) (hn:n<2 ^ 62) :
   PE P L ⟨d,.binOp .or T x y U,ty,pos,af,g⟩ (.int .i64 ((m|||n:Nat):Int)):=by
 refine PE.bits (by simp) hx hy (fun w=>?_)
 show Result.ok (Value.int .i64 (IntKind.i64.wrap ((BitVec.ofInt 64 (m:Int)|||BitVec.ofInt 64 (n:Int)).toNat:Int))) w=_
 have:m|||n<2 ^ 62:=Nat.or_lt_two_pow hm hn
 rw [BitVec.toNat_or,Z2W (by omega),Z2W (by omega),Z1H (by omega) (by omega)]
theorem Z1u (m k:Nat):decide (((((m>>>k)&&&1:Nat)):Int)=1)=m.testBit k:=by
 rw [Nat.testBit,Nat.and_comm]
 have:1&&&(m>>>k)=(m>>>k)%2:=by rw [Nat.and_comm,Nat.and_one_is_mod]
 rw [this]
 have h2:=Nat.mod_lt (m>>>k) (show 0<2 by decide)
 rcases Nat.lt_or_ge ((m>>>k)%2) 1 with h | h
 · have:(m>>>k)%2=0:=by omega
   rw [this];rfl
 · have:(m>>>k)%2=1:=by omega
   rw [this];rfl
end pe
section look
variable {P:Program} {r:Option Nat} {ops:Array Oper} {n:Nat} {L:Zk} {D:List Deferred} {H:Z8} {R:Z4} {K:Act→World→Prop}
 {bm:List Nat} {X:Act→World→Prop} {p:Plan} {pend:Z3E} {i d:Nat} {ty:TypeId} {pos:String} {af:Array Edge}
theorem ZkE {T:TypeId} {x y:Operand} {vx vy v:Value} {c:Bool} {j t:Nat} {b:Bool} {oj:Oper} (ho:ops[i]?=some ⟨some d,.lookup T x y c,ty,pos,af,some (j,b)⟩) (hj:ops[j]?=some oj) (ht:oj.dst=some t) (hb:lk L t=some (.bool b)) (hx:ev L x=some vx) (hy:ev L y=some vy)
   (hl:∀ w,St H R w→Lkp P T vx vy c v w) (hd:Nat.blt d n=true) (h:Sy n ((d,v)::L) D H R K):Sy n L D H R (stp P r ops i K):=fun a w ha hD hs =>
 ZA ho (by simp [Region.wanted,ZS ha hj ht hb]) (Z1E ha.reads hx hy (hl w hs)) (h _ w (ha.put (by simpa using hd) v) hD hs)
theorem Zbd {T KT E s m:Nat} {b:Bool} (l:KV) (k:List Int) {zv:Value} (hT:Z3g P T=some (KT,E)) (hK:KeyT P b KT s) (hz:∀ w,(zeroValue E).run P w = .ok zv w) (hk:k.length=s) (hl:∀ e∈l,e.1.length=s)
   (hm:∀ w,St H R w→w.heap[m]?=some (Z0q b l)) (c:Bool):∀ w,St H R w→Lkp P T (.map (some m)) (mkv b k) c (bif c then .tuple #[(l.get k).getD zv,.bool (l.get k).isSome] else (l.get k).getD zv) w:=fun w hs=>by
 unfold Z3g at hT
 split at hT<;>cases hT
 rename_i hu
 have h1:=Z3j (P:=P) (hm w hs)
 have h3:=Z2D hK k hk l hl w
 unfold Lkp Instr.lookup
 simp only [Sem.run_bind,run_underlying hu,Result.andThen,h1,Z0q,hK.ck _ k hk,h3,Sem.run_pure]
 rw [← Z8j]
 cases hf:l.findIdx? fun e=>decide (e.1=k) with
 | none=>simp only [Option.map_none,Sem.run_bind,hz,Result.andThen,Sem.run_pure];cases c<;>rfl
 | some j=>simp only [Option.map_some,Sem.run_pure];cases c<;>rfl
end look
section nested
variable {P:Program} {n:Nat} {L:Zk} {D:List Deferred} {H:Z8} {R:Z4} {Q:Exit→Act→World→Prop}
end nested
section pe
variable {P:Program} {L:Zk} {d:Option Tmp} {ty:TypeId} {pos:String} {af:Array Edge} {g:Option (Nat×Bool)}
theorem PE.slLoA {T e s:Nat} {x z:Operand} {a:Option Addr} {len cap l:Nat} {k2:IntKind} (hT:slE P T=some (e,s)) (hx:ev L x=some (.slice a len cap)) (hz:ev L z=some (.int k2 l)) (hl:l≤len) :
   PE P L ⟨d,.slice T x (some z) none none,ty,pos,af,g⟩ (.slice (if cap=l then a else a.map (·.add (l*s))) (len-l) (cap-l)):=fun ρ hρ w=>by
 obtain ⟨i,hu,hi,rfl⟩:=Z7D hT
 have hb2:∀ c w,(Instr.sliceBound (.int k2 (l:Int)) len c).run P w = .ok l w:=fun c w=>by rw [Z6J (by omega)];simp
 simp only [execOp,hρ _ _ hx,hρ _ _ hz,Option.map_none,Option.map_some,Instr.sliceAt,Instr.slice,Sem.run_bind,run_underlying hu,Result.andThen,Sem.run_pure,Instr.sliceBounds,hb2,sizeOf,typeInfo,program,hi,Sem.run]
def fTy (P:Program) (T k:Nat):Option (Nat×Nat):=match P.underlying T with
 | some (.struct fs)=>fs[k]?.map fun f=>(f.type,f.offset)
 | _=>none
end pe
theorem Z5d {P:Program} {b e od:Nat} {l vs:List Value} (h1:vs.all (·.oneCell')=true) (hb:od+vs.length≤l.length) {w:World} (h:w.heap[b]?=some (cel e l)) :
   (storeCells ⟨b,od,none⟩ vs).run P w = .ok () { w with heap:=w.heap.setIfInBounds b (cel e (spl l od vs)) }:=by
 have:=run_storeCells_at (P:=P) b od e vs 0 l.toArray w h (by simpa using hb) (fun x hx=>List.all_eq_true.1 h1 x hx)
 rw [Z1d h] at this
 simpa [spl] using this
section steps
variable {P:Program} {r:Option Nat} {ops:Array Oper} {n:Nat} {L:Zk} {D:List Deferred} {H:Z8} {R:Z4} {K:Act→World→Prop}
 {i d:Nat} {ty:TypeId} {pos:String} {af:Array Edge}
end steps
section dag
variable {P:Program} {r:Option Nat} {ops:Array Oper} {bm:List Nat} {X:Act→World→Prop} {n:Nat} {L:Zk} {D:List Deferred} {H:Z8} {R:Z4} {p:Plan} {pend:Z3E}
end dag
section pe
variable {P:Program} {L:Zk} {d:Option Tmp} {ty:TypeId} {pos:String} {af:Array Edge} {g:Option (Nat×Bool)}
end pe
section steps
variable {P:Program} {r:Option Nat} {ops:Array Oper} {n:Nat} {L:Zk} {D:List Deferred} {H:Z8} {R:Z4} {K:Act→World→Prop}
 {i d:Nat} {ty:TypeId} {pos:String} {af:Array Edge}
end steps
def AllS:List Nat→(Nat→Prop)→Prop
 | [],_=>True
 | i::l,p=>p i∧AllS l p
theorem AllS.all {p:Nat→Prop}:∀ {l:List Nat},AllS l p→∀ i∈l,p i
 | [],_,i,h=>by cases h
 | j::l,h,i,hi=>by
   rcases List.mem_cons.1 hi with rfl | hi
   · exact h.1
   · exact AllS.all h.2 i hi
section free
variable {P:Program} {r:Option Nat} {ops:Array Oper} {n:Nat} {L:Zk} {D:List Deferred} {H:Z8} {R:Z4}
end free
def pvl (L:Zk):Op→Option Value
 | .move x=>ev L x
 | .assign x=>ev L x
 | .pick c x y=>match ev L c with
   | some (.bool b)=>match ev L x with
     | some u=>match ev L y with
       | some v=>some (bif b then u else v)
       | none=>none
     | none=>none
   | _=>none
 | .extract x k=>match ev L x with
   | some (.tuple l)=>l.toList[k]?
   | _=>none
 | .unOp .not _ x=>match ev L x with
   | some (.bool b)=>some (.bool !b)
   | _=>none
 | .binOp .lss _ x y _=>match ev L x with
   | some (.int .i64 m)=>match ev L y with
     | some (.int .i64 n)=>some (.bool (decide (m<n)))
     | _=>none
   | _=>none
 | .binOp .leq _ x y _=>match ev L x with
   | some (.int .i64 m)=>match ev L y with
     | some (.int .i64 n)=>some (.bool (decide (m≤n)))
     | _=>none
   | _=>none
 | .binOp .gtr _ x y _=>match ev L x with
   | some (.int .i64 m)=>match ev L y with
     | some (.int .i64 n)=>some (.bool (decide (n<m)))
     | _=>none
   | _=>none
 | .binOp .geq _ x y _=>match ev L x with
   | some (.int .i64 m)=>match ev L y with
     | some (.int .i64 n)=>some (.bool (decide (n≤m)))
     | _=>none
   | _=>none
 | .binOp .eql _ x y _=>match ev L x with
   | some (.int .i64 m)=>match ev L y with
     | some (.int .i64 n)=>some (.bool (decide (m=n)))
     | _=>none
   | _=>none
 | .binOp .neq _ x y _=>match ev L x with
   | some (.int .i64 m)=>match ev L y with
     | some (.int .i64 n)=>some (.bool (decide (m≠n)))
     | _=>none
   | _=>none
 | _=>none
theorem Z8I {P:Program} {L:Zk} {o:Oper} {v:Value} (h:pvl L o.op=some v):PE P L o v:=by
 obtain ⟨d,op,ty,pos,af,g⟩:=o
 dsimp only at h
 unfold pvl at h
 split at h
 · exact PE.move h
 · exact PE.assign h
 · split at h
   · rename_i b hb
     split at h
     · rename_i u hu
       split at h
       · rename_i w hw
         obtain rfl:=Option.some.inj h
         exact PE.pick hb hu hw
       · cases h
     · cases h
   · cases h
 · split at h
   · rename_i l hl
     exact PE.extract (l:=l.toList) hl h
   · cases h
 · split at h
   · rename_i b hb
     obtain rfl:=Option.some.inj h
     exact PE.not hb
   · cases h
 · split at h
   · rename_i m hm
     split at h
     · rename_i k hk
       obtain rfl:=Option.some.inj h
       exact PE.lss hm hk
     · cases h
   · cases h
 · split at h
   · rename_i m hm
     split at h
     · rename_i k hk
       obtain rfl:=Option.some.inj h
       exact PE.leq hm hk
     · cases h
   · cases h
 · split at h
   · rename_i m hm
     split at h
     · rename_i k hk
       obtain rfl:=Option.some.inj h
       exact PE.gtr hm hk
     · cases h
   · cases h
 · split at h
   · rename_i m hm
     split at h
     · rename_i k hk
       obtain rfl:=Option.some.inj h
       exact PE.geq hm hk
     · cases h
   · cases h
 · split at h
   · rename_i m hm
     split at h
     · rename_i k hk
       obtain rfl:=Option.some.inj h
       exact PE.eql hm hk
     · cases h
   · cases h
 · split at h
   · rename_i m hm
     split at h
     · rename_i k hk
       obtain rfl:=Option.some.inj h
       exact PE.neq hm hk
     · cases h
   · cases h
 · cases h
def gok (ops:Array Oper) (L:Zk):Option (Nat×Bool)→Option Bool
 | none=>some true
 | some (j,b)=>match ops[j]? with
   | some oj=>match oj.dst with
     | some t=>match lk L t with
       | some (.bool c)=>some (b == c)
       | _=>none
     | none=>none
   | none=>none
def prS (ops:Array Oper) (n:Nat) (L:Zk) (i:Nat):Option Zk:=match ops[i]? with
 | some o=>match o.dst with
   | some d=>bif Nat.blt d n then
       match gok ops L o.guard with
       | some true=>match pvl L o.op with
         | some v=>some ((d,v)::L)
         | none=>none
       | some false=>some ((d,undef)::L)
       | none=>none
     else none
   | none=>none
 | none=>none
section ops
variable {P:Program} {r:Option Nat} {ops:Array Oper} {n:Nat} {L L':Zk} {D:List Deferred} {H:Z8} {R:Z4} {K:Act→World→Prop}
 {bm:List Nat} {X:Act→World→Prop} {p p':Plan} {pend:Z3E} {i:Nat}
theorem Z6I (h:prS ops n L i=some L'):∃ o d,ops[i]?=some o∧o.dst=some d∧Nat.blt d n=true ∧
   ((∃ v,pvl L o.op=some v∧L'=(d,v)::L∧(o.guard=none∨∃ j b oj t,o.guard=some (j,b)∧ops[j]?=some oj∧oj.dst=some t∧lk L t=some (.bool b))) ∨
    (L'=(d,undef)::L∧∃ j b oj t c,o.guard=some (j,b)∧ops[j]?=some oj∧oj.dst=some t∧lk L t=some (.bool c)∧b=!c)):=by
 unfold prS at h
 split at h
 · rename_i o ho
   split at h
   · rename_i d hd
     cases hb:Nat.blt d n with
     | false=>rw [hb] at h;cases h
     | true =>
       rw [hb,cond_true] at h
       refine ⟨o,d,ho,hd,hb,?_⟩
       have hg:∀ x,gok ops L o.guard=some x→(o.guard=none∧x=true)∨∃ j b oj t c,o.guard=some (j,b)∧ops[j]?=some oj∧oj.dst=some t∧lk L t=some (.bool c)∧x=(b == c):=by
         intro x hx
         unfold gok at hx
         split at hx
         · rename_i h0;exact .inl ⟨h0,(Option.some.inj hx).symm⟩
         · rename_i j b h0
           split at hx
           · rename_i oj hj
             split at hx
             · rename_i t ht
               split at hx
               · rename_i c hc
                 exact .inr ⟨j,b,oj,t,c,h0,hj,ht,hc,(Option.some.inj hx).symm⟩
               · cases hx
             · cases hx
           · cases hx
       split at h
       · rename_i h0
         split at h
         · rename_i v hv
           refine .inl ⟨v,hv,(Option.some.inj h).symm,?_⟩
           rcases hg _ h0 with ⟨h1,_⟩ | ⟨j,b,oj,t,c,h1,h2,h3,h4,h5⟩
           · exact .inl h1
           · obtain rfl:=eq_of_beq h5.symm
             exact .inr ⟨j,b,oj,t,h1,h2,h3,h4⟩
         · cases h
       · rename_i h0
         refine .inr ⟨(Option.some.inj h).symm,?_⟩
         rcases hg _ h0 with ⟨_,h1⟩ | ⟨j,b,oj,t,c,h1,h2,h3,h4,h5⟩
         · cases h1
         · exact ⟨j,b,oj,t,c,h1,h2,h3,h4,by cases b<;>cases c<;>first | rfl | cases h5⟩
       · cases h
   · cases h
 · cases h
theorem Zig (h:prS ops n L i=some L') (hk:Sy n L' D H R K):Sy n L D H R (stp P r ops i K):=by
 obtain ⟨⟨dst,op,ty,pos,af,g⟩,d,ho,hd,hb,h1⟩:=Z6I h
 dsimp only at hd h1
 subst hd
 rcases h1 with ⟨v,hv,rfl,rfl | ⟨j,b,oj,t,rfl,hj,ht,hl⟩⟩ | ⟨rfl,j,b,oj,t,c,hg,hj,ht,hl,hbc⟩
 · exact sp ho (Z8I hv) hb hk
 · exact spG ho hj ht hl (Z8I hv) hb hk
 · exact spN ho hg hj ht hl hbc rfl hb hk
theorem Zih (h:prS ops n L i=some L') (hk:Sy n L' D H R (Dv P r ops bm X p pend)):Sy n L D H R (Dv P r ops bm X (.tk i p) pend):=by
 obtain ⟨⟨dst,op,ty,pos,af,g⟩,d,ho,hd,hb,h1⟩:=Z6I h
 dsimp only at hd h1
 subst hd
 rcases h1 with ⟨v,hv,rfl,rfl | ⟨j,b,oj,t,rfl,hj,ht,hl⟩⟩ | ⟨rfl,j,b,oj,t,c,hg,hj,ht,hl,hbc⟩
 · exact tk ho (Z8I hv) hb hk
 · exact tkG ho hj ht hl (Z8I hv) hb hk
 · exact tkN ho hg hj ht hl hbc rfl hb hk
def prK (ops:Array Oper) (n:Nat):Nat→List Nat→Zk→Option (List Nat×Zk)
 | 0,l,L=>some (l,L)
 | _+1,[],_=>none
 | k+1,i::l,L=>match prS ops n L i with
   | some L'=>prK ops n k l L'
   | none=>none
theorem pur (k:Nat) {l l':List Nat} (h:prK ops n k l L=some (l',L')) (hk:Sy n L' D H R (Z5s P r ops X l')):Sy n L D H R (Z5s P r ops X l):=by
 induction k generalizing l L with
 | zero =>
   simp only [prK,Option.some.injEq,Prod.mk.injEq] at h
   obtain ⟨rfl,rfl⟩:=h
   exact hk
 | succ k ih =>
   cases l with
   | nil=>cases h
   | cons i l =>
     unfold prK at h
     split at h
     · rename_i L1 h1
       exact Zig h1 (ih h)
     · cases h
def prP (ops:Array Oper) (n:Nat):Nat→Plan→Zk→Option (Plan×Zk)
 | 0,p,L=>some (p,L)
 | k+1,.tk i p,L=>match prS ops n L i with
   | some L'=>prP ops n k p L'
   | none=>none
 | _+1,_,_=>none
theorem Zm (k:Nat) (h:prP ops n k p L=some (p',L')) (hk:Sy n L' D H R (Dv P r ops bm X p' pend)):Sy n L D H R (Dv P r ops bm X p pend):=by
 induction k generalizing p L with
 | zero =>
   simp only [prP,Option.some.injEq,Prod.mk.injEq] at h
   obtain ⟨rfl,rfl⟩:=h
   exact hk
 | succ k ih =>
   cases p with
   | tk i p =>
     unfold prP at h
     split at h
     · rename_i L1 h1
       exact Zih h1 (ih h)
     · cases h
   | done=>cases h
   | ld i p=>cases h
   | big i p=>cases h
   | any p=>cases h
   | alt i p q=>cases h
   | stop=>cases h
theorem Zw {X:Act→World→Prop} (t:Nat) {b:Bool} (hb:lk L t=some (.bool b)) (h1:b=true→Sy n ((t,.bool true)::L) D H R X) (h0:b=false→Sy n ((t,.bool false)::L) D H R X):Sy n L D H R X:=ZfR hb h1 h0
theorem bgT (h:Sy n L D H R (Dv P r ops bm X p (keepP bm i pend))) (hp:∀ w,St H R w→Z0w bm i pend w:=by intro w hs;repeat' first | exact trivial | constructor):Sy n L D H R (fun a w=>Z0w bm i pend w∧Dv P r ops bm X p (keepP bm i pend) a w):=bg hp h
theorem lhI {T b off k:Nat} {o:Obj} [m:Mem1 b o H] {e:TypeId} {l:List Value} (vs:List Int) (hT:Z2q P T=some k) (ho:o=cel e l) (hv:l.drop off=Zp vs) (hk:vs.length=k):∀ w,St H R w→Ld P T ⟨b,off,none⟩ (.agg (Zp vs).toArray) w :=
 lhA (rest:=[]) (Zp vs) hT ho (by rw [List.append_nil];exact hv) (by rw [List.length_map];exact hk)
theorem PE.fA {ty:TypeId} {pos:String} {af:Array Edge} {g:Option (Nat×Bool)} {d:Option Tmp} {T k o b off:Nat} {x:Operand} (ho:Z0m P T k=some o) (hx:ev L x=some (.pointer (some ⟨b,off,none⟩))):PE P L ⟨d,.fieldAddr T x k,ty,pos,af,g⟩ (.pointer (some ⟨b,off+o,none⟩)):=PE.fieldAddr ho hx
end ops
theorem cS:(∀ (p:Prop) [Decidable p],(decide p=true)=p)∧(∀ (p:Prop) [Decidable p],(decide p=false)=¬ p)∧(∀ a b:Bool,((a&&b)=true)=(a=true∧b=true))∧(∀ a b:Bool,((a||b)=true)=(a=true∨b=true))∧(∀ b:Bool,((!b)=true)=(b=false))∧(∀ a b:Int,(¬ a≤b)=(b<a))∧(∀ a b:Int,(¬ a<b)=(b≤a)) :=
 ⟨fun _ _=>decide_eq_true_eq,fun p _=>propext decide_eq_false_iff_not,fun a b=>by simp,fun a b=>by simp,fun b=>by simp,fun a b=>propext Int.not_le,fun a b=>propext Int.not_lt⟩
def tks:Nat→Nat→Plan→Plan
 | _,0,p=>p
 | i,k+1,p=>.tk i (tks (i+1) k p)
theorem idH {H:Z8} {R:Z4}:∀ w,St H R w→St H R w:=fun _ h=>h
theorem ne0 {α:Type} {l:List α} (h:l.length≠0):l≠[]:=fun e=>h (by rw [e];rfl)
theorem nl {m n:Nat} (h:Nat.ble m n=true):m≤n:=Nat.le_of_ble_eq_true h
theorem dF {p:Prop} [i:Decidable p] (h:¬ p):decide p=false:=decide_eq_false h
theorem dT {p:Prop} [i:Decidable p] (h:p):decide p=true:=decide_eq_true h
section steps
variable {P:Program} {r:Option Nat} {n:Nat} {L:Zk} {D:List Deferred} {H:Z8} {R:Z4} {Q:Exit→Act→World→Prop}
theorem Ze {ι:Type} {inv:ι→Head} {j:ι} (hH:∀ w,St H R w→St (inv j).H (inv j).R w) (hL:Sub (inv j).L L:=by repeat' first | exact Sub.nil | apply Sub.cons | rfl | (simp [lk];omega)):Sy n L D H R (Z4W n D inv j):=Zk5 hL hH
theorem ZF {ι:Type} {inv:ι→Head} {μ:ι→Nat} {i:ι} (j:ι) (hm:μ j<μ i) (hH:∀ w,St H R w→St (inv j).H (inv j).R w) (hL:Sub (inv j).L L:=by repeat' first | exact Sub.nil | apply Sub.cons | rfl | (simp [lk];omega)):Sy n L D H R (Z9y n D inv μ i):=ZC j hm hL hH
theorem Z7 {ι:Type} {inv:ι→Head} {μ:ι→Nat} {i:ι} (j:ι) (hH:∀ w,St H R w→St (inv j).H (inv j).R w) (hm:μ j<μ i:=by dsimp only;omega) (hL:Sub (inv j).L L:=by repeat' first | exact Sub.nil | apply Sub.cons | rfl | (simp [lk];omega)):Sy n L D H R (Z9y n D inv μ i):=ZC j hm hL hH
theorem Zu {ι:Type} {hd:ι→Head} (j:ι) (hH:∀ w,St H R w→St (hd j).H (hd j).R w) (hL:Sub (hd j).L L:=by repeat' first | exact Sub.nil | apply Sub.cons | rfl | (simp [lk];omega)):Sy n L D H R (Zen n D hd .normal):=ZbM j hL hH
theorem ZY {ι:Type} {hd:ι→Head} (j:ι) (hH:∀ w,St H R w→St (hd j).H (hd j).R w) (hL:Sub (hd j).L L:=by repeat' first | exact Sub.nil | apply Sub.cons | rfl | (simp [lk];omega)):Sy n L D H R (Z9z n D hd Q .normal):=ZbN j hL hH
def rg:Nat→Nat→List Nat
 | _,0=>[]
 | i,k+1=>i::rg (i+1) k
theorem sqt {id:Nat} {ops:Array Oper} {y:Code} (k:Nat) (hl:List.range ops.size=rg 0 k) (h:Sy n L D H R (Z5s P r ops (wpc P r y Q) (rg 0 k))):Sy n L D H R (wpc P r (.seq (.region id ops false) y) Q) :=
 Z0 (Zek _ hl h)
theorem sqr {id:Nat} {ops:Array Oper} (k:Nat) (hl:List.range ops.size=rg 0 k) (h:Sy n L D H R (Z5s P r ops (Q .normal) (rg 0 k))):Sy n L D H R (wpc P r (.region id ops false) Q):=Zek _ hl h
variable {fn:Func} {G:Value→Z8→Z4→Prop} {H':Z8} {R':Z4}
theorem rtA {t:Nat} {v u:Value} (hr:fn.results = #[.tmp t]) (hv:lk L t=some v) (he:ZP [v]=u) (hq:G u H' R') (hs:∀ w,St H R w→St H' R' w):Sy n L [] H R (Ret P fn G .ret):=Zr (vs:=[v]) hr (.cons (RV.tmp hv) .nil) he hq hs
theorem rtB {t t2:Nat} {v x u:Value} (hr:fn.results = #[.tmp t,.tmp t2]) (hv:lk L t=some v) (hx:lk L t2=some x) (he:ZP [v,x]=u) (hq:G u H' R') (hs:∀ w,St H R w→St H' R' w):Sy n L [] H R (Ret P fn G .ret):=Zr (vs:=[v,x]) hr (.cons (RV.tmp hv) (.cons (RV.tmp hx) .nil)) he hq hs
end steps
theorem Zc0 {P:Program} {n:Nat} {L:Zk} {H:Z8} {R:Z4} {c:LR} {bl:Nat} {p q:Tmp} {assign body:Code} {v u:Value} {QY:Value→Z8→Z4→Prop} [m:Mem1 bl (lob c .ready none) H] (hp:c.params = #[p,q]) (ha:c.assign=assign) (hb:c.body=body)
   (hk:Knows n L ⟨c.tmps,[]⟩) (hpn:Nat.blt p n=true) (hqn:Nat.blt q n=true) (h:Sy n ((q,u)::(p,v)::L) [] H R (wpc P (some bl) assign (RB P bl body QY))):Yd P bl [v,u] H R QY:=fun w hs=>by
 subst ha hb
 have hl:=hs.held _ m.mem
 refine ⟨c.fn,_,c.assign,c.body,run_yield (r:={ state:=.ready,pending:=none,fn:=c.fn,tmps:=c.tmps,params:=c.params,assign:=c.assign,body:=c.body,defers:=c.defers }) hl (by simp [hp]),?_⟩
 refine roundIn_of_wpIn (Z3D _ _) ?_
 have k1:Knows n ((p,v)::L) ⟨c.tmps.setIfInBounds p v,[]⟩:=by simpa [Act.put] using hk.put (d:=p) (by simpa using hpn) v
 have k2:Knows n ((q,u)::(p,v)::L) ⟨(c.tmps.setIfInBounds p v).setIfInBounds q u,[]⟩:=by simpa [Act.put] using k1.put (d:=q) (by simpa using hqn) u
 have h1:=h ⟨(c.tmps.setIfInBounds p v).setIfInBounds q u,[]⟩ w k2 rfl hs
 have e:(c.params.zip #[v,u]).foldl (fun tmps (x:Tmp×Value)=>tmps.setIfInBounds x.1 x.2) c.tmps=(c.tmps.setIfInBounds p v).setIfInBounds q u:=by simp [hp]
 dsimp only
 rw [e]
 exact h1
theorem sbA {A B:Zk} (h:Sub A B:=by repeat' first | exact Sub.nil | apply Sub.cons | rfl | (simp [lk];omega)):Sub A B:=h
theorem Zt:Tryz.prog.follows .mixedOrders=true:=by kernel_rfl
end Go.Proofs.YtcfdanhklbklkaaGreat
namespace Go.Proofs.YtcfdanhklbklkaaGreat.Wv
set_option linter.unusedSimpArgs false
set_option linter.unusedVariables false
structure Gp where
 a:Int
 b:Int
 deriving DecidableEq,Repr
structure Sgt where
 week:Int
 bin:Int
 seen:Bool
 deriving DecidableEq,Repr
structure Hse where
 bins:Int
 gaps:List Gp
 sights:List Sgt
 deriving DecidableEq,Repr
def na (l:List Int) (k:Nat):Int:=l.getD k 0
@[reducible] def inB (n lo hi : Int) : Bool := decide (lo ≤ n) && decide (n ≤ hi)
def Hse.check (h:Hse):Int :=
 bif !(inB h.bins 1 7)||decide (10<h.gaps.length)||decide (8<h.sights.length) then 2 else
 bif !(h.sights.all fun s=>inB s.week 0 9) then 3 else
 bif !(h.gaps.all fun g=>inB g.a 0 (h.bins-1)&&inB g.b 0 (h.bins-1))||!(h.sights.all fun s=>inB s.bin 0 (h.bins-1)) then 1 else
 bif !(h.gaps.all fun g=>!decide (g=⟨g.b,g.a⟩)) then 5 else 0
structure Hse.ok (h:Hse):Prop where
 bins:1≤h.bins∧h.bins≤7
 gl:h.gaps.length≤10
 sl:h.sights.length≤8
 gaps:∀ g∈h.gaps,(0≤g.a∧g.a<h.bins)∧(0≤g.b∧g.b<h.bins)∧g.a≠g.b
 sights:∀ s∈h.sights,(0≤s.week∧s.week≤9)∧0≤s.bin∧s.bin<h.bins
theorem gp_swap {g:Gp}:g=⟨g.b,g.a⟩↔g.a=g.b:=by
 cases g with
 | mk a b=>simp only [Gp.mk.injEq];omega
theorem hse_ok {h:Hse}:h.check=0↔h.ok:=by
 unfold Hse.check
 simp only [Bool.cond_eq_ite]
 constructor
 · intro h0
   split at h0<;>try (exact absurd h0 (by decide))
   split at h0<;>try (exact absurd h0 (by decide))
   split at h0<;>try (exact absurd h0 (by decide))
   split at h0<;>try (exact absurd h0 (by decide))
   rename_i h1 h2 h3 h4
   simp only [Bool.not_eq_true',Bool.not_eq_true,Bool.or_eq_true,not_or,Bool.not_eq_false',Bool.not_eq_false,inB,Bool.and_eq_true,decide_eq_true_eq,List.all_eq_true,decide_eq_false_iff_not] at h1 h2 h3 h4
   refine ⟨⟨by omega,by omega⟩,by omega,by omega,fun g hg=>?_,fun s hs=>?_⟩
   · have k1:=h3.1 g hg
     have k2:=h4 g hg
     rw [gp_swap] at k2
     exact ⟨by omega,by omega,k2⟩
   · have k1:=h2 s hs
     have k2:=h3.2 s hs
     exact ⟨by omega,by omega⟩
 · intro h0
   have hb:=h0.bins
   have hg:=h0.gl
   have hs:=h0.sl
   have e1:(!(inB h.bins 1 7)||decide (10<h.gaps.length)||decide (8<h.sights.length))=false:=by
     rw [Bool.or_eq_false_iff,Bool.or_eq_false_iff]
     exact ⟨⟨by simp [inB];omega,by simp;omega⟩,by simp;omega⟩
   have e2:(h.sights.all fun s=>inB s.week 0 9)=true:=List.all_eq_true.2 fun s h1=>by have:=h0.sights s h1;simp [inB];omega
   have e3:(h.gaps.all fun g=>inB g.a 0 (h.bins-1)&&inB g.b 0 (h.bins-1))=true:=List.all_eq_true.2 fun g h1=>by have:=h0.gaps g h1;simp [inB];omega
   have e4:(h.sights.all fun s=>inB s.bin 0 (h.bins-1))=true:=List.all_eq_true.2 fun s h1=>by have:=h0.sights s h1;simp [inB];omega
   have e5:(h.gaps.all fun g=>!decide (g=⟨g.b,g.a⟩))=true:=List.all_eq_true.2 fun g h1=>by
     rw [decide_eq_false (fun e=>(h0.gaps g h1).2.2 (gp_swap.1 e))];rfl
   rw [e1,e2,e3,e4,e5];rfl
def Z5A (l:List Int) (v:Int):Bool:=l.any fun x=>decide (v=x)
theorem hasI_iff {l:List Int} {v:Int}:Z5A l v=true↔v∈l:=by
 unfold Z5A
 rw [List.any_eq_true]
 exact ⟨fun ⟨x,h1,h2⟩=>by rw [of_decide_eq_true h2];exact h1,fun h=>⟨v,h,decide_eq_true rfl⟩⟩
def Z7e (l:List Int) (i:Nat):Bool:=Z5A (l.take i) (na l i)
def Z0y (n:Int) (l:List Int):Int:=bif !(l.all fun k=>inB k 0 (n-1)) then 1 else bif (List.range l.length).any (Z7e l) then 5 else 0
def bit (n:Nat) (k:Int):Nat:=n|||2 ^ k.toNat
def msk (l:List Int):Nat:=l.foldl bit 0
theorem Zch (n:Nat) (k:Int) (j:Nat):(bit n k).testBit j=(n.testBit j||decide (k.toNat=j)):=by
 unfold bit;rw [Nat.testBit_or,Nat.testBit_two_pow]
theorem Zd3 (l:List Int) (n j:Nat):(l.foldl bit n).testBit j=(n.testBit j||l.any fun k=>decide (k.toNat=j)):=by
 induction l generalizing n with
 | nil=>simp
 | cons k l ih=>rw [List.foldl_cons,ih,Zch,List.any_cons,Bool.or_assoc]
theorem Zd6 (l:List Int) (j:Nat):(msk l).testBit j=l.any fun k=>decide (k.toNat=j):=by
 unfold msk;rw [Zd3];simp
theorem ZN {l:List Int} (h:∀ k∈l,0≤k) (j:Nat):(msk l).testBit j=true↔(j:Int)∈l:=by
 rw [Zd6,List.any_eq_true]
 constructor
 · rintro ⟨k,hk,e⟩
   have e:=of_decide_eq_true e
   have:=h k hk
   rwa [show (j:Int)=k by omega]
 · intro hj
   exact ⟨j,hj,by simp⟩
theorem Z0p {m n:Nat} (h:∀ k,m.testBit k=true→k<n):m<2 ^ n:=by
 refine Nat.lt_pow_two_of_testBit m fun i hi=>?_
 cases hb:m.testBit i with
 | false=>rfl
 | true=>have:=h i hb;omega
theorem Z1N {m n:Nat} (h:m<2 ^ n) {k:Nat} (hk:m.testBit k=true):k<n:=by
 rcases Nat.lt_or_ge k n with h1 | h1
 · exact h1
 · rw [Nat.testBit_lt_two_pow (Nat.lt_of_lt_of_le h (Nat.pow_le_pow_right (by decide) h1))] at hk;cases hk
theorem Z0v {m n:Nat} (h:∀ k,m.testBit k=n.testBit k):m=n:=Nat.eq_of_testBit_eq h
def gpo (m:Nat) (g:Gp):Nat:=(bif m.testBit g.a.toNat then 2 ^ g.b.toNat else 0)|||(bif m.testBit g.b.toNat then 2 ^ g.a.toNat else 0)
def ZbG (cl m:Nat):List Gp→Nat→Nat→Nat
 | [],_,acc=>acc
 | g::gs,i,acc=>ZbG cl m gs (i+1) (bif cl.testBit i then acc else acc|||gpo m g)
def spr (gs:List Gp) (cl m:Nat):Nat:=ZbG cl m gs 0 m
def Adj (gs:List Gp) (cl:Nat) (u v:Nat):Prop:=∃ i g,gs[i]?=some g∧cl.testBit i=false∧((g.a.toNat=u∧g.b.toNat=v)∨(g.b.toNat=u∧g.a.toNat=v))
theorem gpo_test {m:Nat} {g:Gp} {v:Nat}:(gpo m g).testBit v=true↔(m.testBit g.a.toNat=true∧g.b.toNat=v)∨(m.testBit g.b.toNat=true∧g.a.toNat=v):=by
 unfold gpo
 rw [Nat.testBit_or,Bool.or_eq_true]
 refine or_congr ?_ ?_
 · cases h:m.testBit g.a.toNat with
   | false=>simp
   | true=>simp [Nat.testBit_two_pow]
 · cases h:m.testBit g.b.toNat with
   | false=>simp
   | true=>simp [Nat.testBit_two_pow]
theorem Z30 {cl m v:Nat}:∀ (gs:List Gp) (i acc:Nat),(ZbG cl m gs i acc).testBit v=true↔acc.testBit v=true∨∃ j g,gs[j]?=some g∧cl.testBit (i+j)=false∧(gpo m g).testBit v=true
 | [],i,acc=>by simp [ZbG]
 | g::gs,i,acc=>by
   unfold ZbG
   rw [Z30 gs (i+1)]
   constructor
   · rintro (h | ⟨j,g',h1,h2,h3⟩)
     · cases hc:cl.testBit i with
       | true=>rw [hc] at h;exact .inl h
       | false =>
         rw [hc,cond_false,Nat.testBit_or,Bool.or_eq_true] at h
         exact h.imp id fun h=>⟨0,g,rfl,by simpa using hc,h⟩
     · exact .inr ⟨j+1,g',by simpa using h1,by rw [show i+(j+1)=i+1+j by omega];exact h2,h3⟩
   · rintro (h | ⟨j,g',h1,h2,h3⟩)
     · left
       cases hc:cl.testBit i with
       | true=>exact h
       | false=>rw [cond_false,Nat.testBit_or,h,Bool.true_or]
     · cases j with
       | zero =>
         left
         rw [List.getElem?_cons_zero,Option.some.injEq] at h1
         subst h1
         rw [Nat.add_zero] at h2
         rw [h2,cond_false,Nat.testBit_or,h3,Bool.or_true]
       | succ j=>exact .inr ⟨j,g',by simpa using h1,by rw [show i+1+j=i+(j+1) by omega];exact h2,h3⟩
theorem spr_test {gs:List Gp} {cl m v:Nat}:(spr gs cl m).testBit v=true↔m.testBit v=true∨∃ u,m.testBit u=true∧Adj gs cl u v:=by
 unfold spr
 rw [Z30]
 refine or_congr Iff.rfl ?_
 constructor
 · rintro ⟨j,g,h1,h2,h3⟩
   rw [Nat.zero_add] at h2
   rcases gpo_test.1 h3 with ⟨h4,h5⟩ | ⟨h4,h5⟩
   · exact ⟨_,h4,j,g,h1,h2,.inl ⟨rfl,h5⟩⟩
   · exact ⟨_,h4,j,g,h1,h2,.inr ⟨rfl,h5⟩⟩
 · rintro ⟨u,hu,j,g,h1,h2,h3⟩
   refine ⟨j,g,h1,by rw [Nat.zero_add];exact h2,gpo_test.2 ?_⟩
   rcases h3 with ⟨h4,h5⟩ | ⟨h4,h5⟩
   · exact .inl ⟨by rw [h4];exact hu,h5⟩
   · exact .inr ⟨by rw [h4];exact hu,h5⟩
theorem Z1e {gs:List Gp} {cl m v:Nat} (h:m.testBit v=true):(spr gs cl m).testBit v=true:=spr_test.2 (.inl h)
theorem Adj.symm {gs:List Gp} {cl u v:Nat} (h:Adj gs cl u v):Adj gs cl v u:=by
 obtain ⟨i,g,h1,h2,h3⟩:=h
 exact ⟨i,g,h1,h2,h3.elim (fun h=>.inr ⟨h.2,h.1⟩) (fun h=>.inl ⟨h.2,h.1⟩)⟩
def lv (gs:List Gp) (cl m:Nat):Nat→Nat
 | 0=>m
 | t+1=>spr gs cl (lv gs cl m t)
theorem Zfn {gs:List Gp} {cl m:Nat}:∀ {t t':Nat},t≤t'→∀ {v:Nat},(lv gs cl m t).testBit v=true→(lv gs cl m t').testBit v=true
 | t, 0, h, v, hv => by obtain rfl : t = 0 := by omega
                        exact hv
 | t,t'+1,h,v,hv=>by
   rcases Nat.lt_or_ge t' t with h1 | h1
   · obtain rfl:t=t'+1:=by omega
     exact hv
   · exact Z1e (Zfn h1 hv)
theorem Z3f {gs:List Gp} {cl m t:Nat} (h:spr gs cl (lv gs cl m t)=lv gs cl m t):∀ j,lv gs cl m (t+j)=lv gs cl m t
 | 0=>rfl
 | j+1=>by show spr gs cl (lv gs cl m (t+j))=_;rw [Z3f h j,h]
def cnt (n m:Nat):Nat:=(List.range n).countP fun k=>m.testBit k
theorem Z4a (n m:Nat):cnt n m≤n:=by
 unfold cnt;exact Nat.le_trans (List.countP_le_length) (by simp)
theorem Z4b {α:Type} {p q:α→Bool}:∀ {l:List α},(∀ x∈l,p x=true→q x=true)→(∃ x∈l,q x=true∧p x=false)→l.countP p<l.countP q
 | [],_,h=>by obtain ⟨x,hx,_⟩:=h;cases hx
 | y::l,h,he=>by
   rw [List.countP_cons,List.countP_cons]
   have hm:l.countP p≤l.countP q:=List.countP_mono_left fun x hx=>h x (List.mem_cons_of_mem _ hx)
   obtain ⟨x,hx,hq,hp⟩:=he
   rcases List.mem_cons.1 hx with rfl | hx
   · rw [hp,hq];simp;omega
   · have ih:=Z4b (fun z hz=>h z (List.mem_cons_of_mem _ hz)) ⟨x,hx,hq,hp⟩
     have h1:=h y List.mem_cons_self
     cases hpy:p y with
     | true=>rw [h1 hpy];simp;omega
     | false=>cases q y<;>simp<;>omega
theorem ZhP {n m m':Nat} (h:∀ k<n,m.testBit k=true→m'.testBit k=true) {k:Nat} (hk:k<n) (h1:m'.testBit k=true) (h2:m.testBit k=false):cnt n m<cnt n m' :=
 Z4b (fun x hx=>h x (List.mem_range.1 hx)) ⟨k,List.mem_range.2 hk,h1,h2⟩
theorem ZcI {n m m':Nat} (h:∀ k<n,m.testBit k=true→m'.testBit k=true):cnt n m≤cnt n m':=List.countP_mono_left fun x hx=>h x (List.mem_range.1 hx)
def Wth (gs:List Gp) (n:Nat):Prop:=∀ g∈gs,g.a.toNat<n∧g.b.toNat<n
theorem Adj.lt {gs:List Gp} {n cl u v:Nat} (h:Wth gs n) (ha:Adj gs cl u v):u<n∧v<n:=by
 obtain ⟨i,g,h1,_,h3⟩:=ha
 have:=h g (List.mem_of_getElem? h1)
 omega
theorem Z4A {gs:List Gp} {n cl m:Nat} (h:Wth gs n) (hm:m<2 ^ n):spr gs cl m<2 ^ n:=Z0p fun k hk=>by
 rcases spr_test.1 hk with h1 | ⟨u,_,h2⟩
 · exact Z1N hm h1
 · exact (h2.lt h).2
theorem ZcY {gs:List Gp} {n cl m:Nat} (h:Wth gs n) (hm:m<2 ^ n):∀ t,lv gs cl m t<2 ^ n
 | 0=>hm
 | t+1=>Z4A h (ZcY h hm t)
theorem Z4B {gs:List Gp} {n cl m:Nat} (h:Wth gs n) (hm:m<2 ^ n) (hne:spr gs cl m≠m):cnt n m<cnt n (spr gs cl m):=by
 obtain ⟨k,h1,h2⟩:∃ k,(spr gs cl m).testBit k=true∧m.testBit k=false:=Classical.byContradiction fun hc=>hne (Z0v fun k=>by
   cases hk:m.testBit k with
   | true=>exact Z1e hk
   | false=>cases hs:(spr gs cl m).testBit k with
     | false=>rfl
     | true=>exact absurd ⟨k,hs,hk⟩ hc)
 exact ZhP (fun k _ hk=>Z1e hk) (Z1N (Z4A h hm) h1) h1 h2
theorem Zi7 {gs:List Gp} {n cl m:Nat} (h:Wth gs n) (hm:m<2 ^ n) (h0:m≠0) {t:Nat} (ht:n≤t+1):spr gs cl (lv gs cl m t)=lv gs cl m t:=by
 have key:∀ j,(∃ i≤j,spr gs cl (lv gs cl m i)=lv gs cl m i)∨j+1+1≤cnt n (lv gs cl m (j+1)):=by
   have c0:1≤cnt n m:=by
     obtain ⟨k,hk⟩:∃ k,m.testBit k=true:=Classical.byContradiction fun hc=>h0 (Z0v fun k=>by
       rw [Nat.zero_testBit]
       cases hk:m.testBit k with
       | false=>rfl
       | true=>exact absurd ⟨k,hk⟩ hc)
     unfold cnt
     exact List.countP_pos_iff.2 ⟨k,List.mem_range.2 (Z1N hm hk),hk⟩
   intro j
   induction j with
   | zero =>
     by_cases he:spr gs cl (lv gs cl m 0)=lv gs cl m 0
     · exact .inl ⟨0,Nat.le_refl _,he⟩
     · have:=Z4B h (ZcY h hm 0) he
       exact .inr (by show 2≤cnt n (spr gs cl (lv gs cl m 0));show 2≤_;have e:lv gs cl m 0=m:=rfl;rw [e] at this ⊢;omega)
   | succ j ih =>
     rcases ih with ⟨i,hi,he⟩ | ih
     · exact .inl ⟨i,by omega,he⟩
     · by_cases he:spr gs cl (lv gs cl m (j+1))=lv gs cl m (j+1)
       · exact .inl ⟨j+1,Nat.le_refl _,he⟩
       · have:=Z4B h (ZcY h hm (j+1)) he
         exact .inr (by show _≤cnt n (spr gs cl (lv gs cl m (j+1)));omega)
 rcases key t with ⟨i,hi,he⟩ | h1
 · obtain ⟨d,rfl⟩:∃ d,t=i+d:=⟨t-i,by omega⟩
   rw [Z3f he d,he]
 · have:=Z4a n (lv gs cl m (t+1));omega
theorem Z5E {gs:List Gp} {cl:Nat}:∀ t,lv gs cl 0 t=0
 | 0=>rfl
 | t+1=>by
   show spr gs cl (lv gs cl 0 t)=0
   rw [Z5E t]
   refine Z0v fun k=>?_
   rw [Nat.zero_testBit]
   cases hk:(spr gs cl 0).testBit k with
   | false=>rfl
   | true=>rcases spr_test.1 hk with h1 | ⟨u,h1,_⟩<;>simp at h1
theorem Zbf {gs:List Gp} {n cl m:Nat} (h:Wth gs n) (hm:m<2 ^ n) {t:Nat} (ht:n≤t+1) {j:Nat} (hj:t≤j):lv gs cl m j=lv gs cl m t:=by
 by_cases h0:m=0
 · subst h0;rw [Z5E,Z5E]
 · obtain ⟨d,rfl⟩:∃ d,j=t+d:=⟨j-t,by omega⟩
   exact Z3f (Zi7 h hm h0 ht) d
def far:Int:=1048576
def wk (gs:List Gp) (cl m k:Nat):Int:=match (List.range 7).find? fun t=>(lv gs cl m t).testBit k with
 | some t=>(t:Int)
 | none=>far
def wks (gs:List Gp) (cl m:Nat):List Int:=(List.range 7).map (wk gs cl m)
theorem Z0b (gs:List Gp) (cl m:Nat):(wks gs cl m).length=7:=by simp [wks]
theorem Z2G {gs:List Gp} {cl m k:Nat} (hk:k<7):na (wks gs cl m) k=wk gs cl m k:=by
 unfold na wks
 rw [List.getD_eq_getElem?_getD,List.getElem?_map,List.getElem?_range hk];rfl
theorem Z2k (gs:List Gp) (cl m k:Nat):(∃ t:Nat,t<7∧wk gs cl m k=t∧(lv gs cl m t).testBit k=true∧∀ i:Nat,i<t→(lv gs cl m i).testBit k=false)∨(wk gs cl m k=far∧∀ i:Nat,i<7→(lv gs cl m i).testBit k=false):=by
 unfold wk
 rcases hf:(List.range 7).find? fun t=>(lv gs cl m t).testBit k with _ | t
 · refine .inr ⟨rfl,fun i hi=>?_⟩
   have:=List.find?_eq_none.1 hf i (List.mem_range.2 hi)
   simpa using this
 · obtain ⟨h1,lp,lq,h2,h3⟩:=List.find?_eq_some_iff_append.1 hf
   have hm:t∈List.range 7:=by rw [h2];simp
   refine .inl ⟨t,List.mem_range.1 hm,rfl,h1,fun i hi=>?_⟩
   have hi7:i∈List.range 7:=List.mem_range.2 (by have:=List.mem_range.1 hm;omega)
   have hp:=List.pairwise_lt_range (n:=7)
   rw [h2] at hi7 hp
   rw [List.pairwise_append] at hp
   rcases List.mem_append.1 hi7 with h4 | h4
   · have:=h3 i h4;simpa using this
   · rcases List.mem_cons.1 h4 with rfl | h4
     · omega
     · have:=(List.pairwise_cons.1 hp.2.1).1 i h4;omega
theorem Z9n (gs:List Gp) (cl m k:Nat):0≤wk gs cl m k∧wk gs cl m k≤far∧(wk gs cl m k<far→wk gs cl m k≤6):=by
 unfold far
 rcases Z2k gs cl m k with ⟨t,h1,h2,_⟩ | ⟨h1,_⟩
 · rw [h2];omega
 · rw [h1];unfold far;omega
theorem Zdt {gs:List Gp} {cl m k:Nat} (h:Wth gs 7) (hm:m<2 ^ 7) {t:Nat} (ht:(t:Int)<far):wk gs cl m k≤t↔(lv gs cl m t).testBit k=true:=by
 unfold far at ht
 rcases Z2k gs cl m k with ⟨i,h1,h2,h3,h4⟩ | ⟨h1,h2⟩
 · rw [h2]
   constructor
   · intro h5;exact Zfn (by omega) h3
   · intro h5
     rcases Nat.lt_or_ge t i with h6 | h6
     · rw [h4 t h6] at h5;cases h5
     · omega
 · rw [h1]
   unfold far
   constructor
   · intro h5;omega
   · intro h5
     rcases Nat.lt_or_ge t 7 with h6 | h6
     · rw [h2 t h6] at h5;cases h5
     · rw [Zbf h hm (t:=6) (by decide) (by omega),h2 6 (by decide)] at h5;cases h5
theorem ZbY {gs:List Gp} {cl m:Nat} {w:Nat→Int} (h1:∀ k<7,wk gs cl m k≤w k) (h2:∀ k<7,m.testBit k=true→w k≤0) (h3:∀ u v,u<7→v<7→Adj gs cl u v→w v≤w u+1) (h4:∀ k<7,w k≤far) (hw:Wth gs 7) (hm:m<2 ^ 7):∀ k<7,w k=wk gs cl m k:=by
 have key:∀ t:Nat,∀ k<7,(lv gs cl m t).testBit k=true→w k≤t:=by
   intro t
   induction t with
   | zero=>intro k hk h;exact h2 k hk h
   | succ t ih =>
     intro k hk h
     rcases spr_test.1 h with h5 | ⟨u,h5,h6⟩
     · have:=ih k hk h5;omega
     · have hu:=(h6.lt hw).1
       have:=ih u hu h5
       have:=h3 u k hu hk h6
       omega
 intro k hk
 have h5:=h1 k hk
 rcases Z2k gs cl m k with ⟨t,h6,h7,h8,_⟩ | ⟨h6,_⟩
 · have:=key t k hk h8;omega
 · have:=h4 k hk;omega
theorem ZbW {gs:List Gp} {cl m u v:Nat} (hw:Wth gs 7) (hm:m<2 ^ 7) (ha:Adj gs cl u v):wk gs cl m v≤wk gs cl m u+1:=by
 rcases Z2k gs cl m u with ⟨t,h1,h2,h3,_⟩ | ⟨h1,_⟩
 · have:wk gs cl m v≤((t+1:Nat):Int):=(Zdt hw hm (by unfold far;omega)).2 (spr_test.2 (.inr ⟨u,h3,ha⟩))
   omega
 · have:=(Z9n gs cl m v).2.1;omega
theorem ZbX {gs:List Gp} {cl m k:Nat} (h:m.testBit k=true):wk gs cl m k=0:=by
 rcases Z2k gs cl m k with ⟨t,h1,h2,_,h4⟩ | ⟨_,h2⟩
 · cases t with
   | zero=>exact h2
   | succ t=>have:=h4 0 (by omega);rw [show lv gs cl m 0=m from rfl,h] at this;cases this
 · have:=h2 0 (by decide);rw [show lv gs cl m 0=m from rfl,h] at this;cases this
theorem Hse.ok.wth {h:Hse} (hk:h.ok):Wth h.gaps 7:=fun g hg=>by
 have:=hk.gaps g hg
 have:=hk.bins
 omega
theorem lv_bit {gs:List Gp} {cl m v:Nat}:∀ {t:Nat},(lv gs cl m t).testBit v=true↔∃ u,m.testBit u=true∧(lv gs cl (2 ^ u) t).testBit v=true:=by
 intro t
 induction t generalizing v with
 | zero =>
   show m.testBit v=true↔∃ u,m.testBit u=true∧(2 ^ u).testBit v=true
   constructor
   · intro h;exact ⟨v,h,by rw [Nat.testBit_two_pow];simp⟩
   · rintro ⟨u,h1,h2⟩
     rw [Nat.testBit_two_pow] at h2
     obtain rfl:=of_decide_eq_true h2
     exact h1
 | succ t ih =>
   show (spr gs cl (lv gs cl m t)).testBit v=true↔∃ u,m.testBit u=true∧(spr gs cl (lv gs cl (2 ^ u) t)).testBit v=true
   constructor
   · intro h
     rcases spr_test.1 h with h1 | ⟨x,h1,h2⟩
     · obtain ⟨u,h3,h4⟩:=ih.1 h1
       exact ⟨u,h3,Z1e h4⟩
     · obtain ⟨u,h3,h4⟩:=ih.1 h1
       exact ⟨u,h3,spr_test.2 (.inr ⟨x,h4,h2⟩)⟩
   · rintro ⟨u,h1,h2⟩
     rcases spr_test.1 h2 with h3 | ⟨x,h3,h4⟩
     · exact Z1e (ih.2 ⟨u,h1,h3⟩)
     · exact spr_test.2 (.inr ⟨x,ih.2 ⟨u,h1,h3⟩,h4⟩)
theorem Zbg {gs:List Gp} {cl m m' t v:Nat} (h:∀ u,m.testBit u=true→m'.testBit u=true) (hv:(lv gs cl m t).testBit v=true):(lv gs cl m' t).testBit v=true:=by
 obtain ⟨u,h1,h2⟩:=lv_bit.1 hv
 exact lv_bit.2 ⟨u,h u h1,h2⟩
def exS (gs:List Gp) (m:Nat) (s:Sgt):Bool:=decide (wk gs 0 m s.bin.toNat≤s.week) == s.seen
def Z6n (gs:List Gp) (m:Nat) (ss:List Sgt):Bool:=ss.all (exS gs m)
def Z99 (gs:List Gp) (ss:List Sgt) (k:Nat):Bool:=ss.all fun s=>s.seen||decide (s.week<wk gs 0 (2 ^ k) s.bin.toNat)
def Z66 (gs:List Gp) (ss:List Sgt) (but week:Int) (k:Nat):Bool:=!(decide (0≤but)&&decide (wk gs 0 (2 ^ k) but.toNat≤week))&&Z99 gs ss k
def Hse.clr (h:Hse) (ss:List Sgt) (but week:Int):List Int:=((List.range h.bins.toNat).filter (Z66 h.gaps ss but week)).map fun (k:Nat)=>(k:Int)
def Hse.agr (h:Hse) (ss:List Sgt):Bool:=Z6n h.gaps (msk (h.clr ss (-1) 0)) ss
def SOk (h:Hse) (ss:List Sgt):Prop:=∀ s∈ss,(0≤s.week∧s.week≤9)∧0≤s.bin∧s.bin<h.bins
theorem Hse.ok.lt (h:Hse) (hk:h.ok):h.bins.toNat≤7∧(h.bins.toNat:Int)=h.bins∧1≤h.bins.toNat:=by have:=hk.bins;omega
theorem msk_lt {l:List Int} {n:Nat} (h:∀ k∈l,0≤k∧k<n):msk l<2 ^ n:=Z0p fun k hk=>by
 have:=h _ ((ZN (fun k hk=>(h k hk).1) k).1 hk);omega
theorem ZjT {n m:Nat} (hn:n≤7) (h:m<2 ^ n):m<2 ^ 7:=Nat.lt_of_lt_of_le h (Nat.pow_le_pow_right (by decide) hn)
theorem Zel {k n:Nat} (h:k<n):2 ^ k<2 ^ n:=Nat.pow_lt_pow_right (by decide) h
theorem Zfb {h:Hse} (hk:h.ok) {m:Nat} (hm:m<2 ^ 7) {s:Sgt} (hs:0≤s.week∧s.week≤9):exS h.gaps m s=true↔(lv h.gaps 0 m s.week.toNat).testBit s.bin.toNat=s.seen:=by
 unfold exS
 have h1:=Zdt (k:=s.bin.toNat) hk.wth hm (t:=s.week.toNat) (cl:=0) (by unfold far;omega)
 rw [show ((s.week.toNat:Nat):Int)=s.week by omega] at h1
 rw [beq_iff_eq]
 cases hb:(lv h.gaps 0 m s.week.toNat).testBit s.bin.toNat with
 | true=>rw [hb] at h1;rw [decide_eq_true (h1.2 rfl)]
 | false=>rw [hb] at h1;rw [decide_eq_false (fun e=>by cases h1.1 e)]
theorem Z5u {h:Hse} (hk:h.ok) {m:Nat} (hm:m<2 ^ 7) {ss:List Sgt} (hs:SOk h ss):Z6n h.gaps m ss=true↔∀ s∈ss,(lv h.gaps 0 m s.week.toNat).testBit s.bin.toNat=s.seen:=by
 unfold Z6n
 rw [List.all_eq_true]
 exact forall_congr' fun s=>forall_congr' fun h1=>Zfb hk hm (hs s h1).1
theorem Z8i {h:Hse} (hk:h.ok) {k:Nat} (hk7:k<7) {ss:List Sgt} (hs:SOk h ss):Z99 h.gaps ss k=true↔∀ s∈ss,s.seen=false→(lv h.gaps 0 (2 ^ k) s.week.toNat).testBit s.bin.toNat=false:=by
 unfold Z99
 rw [List.all_eq_true]
 refine forall_congr' fun s=>forall_congr' fun h1=>?_
 have h2:=Zdt (k:=s.bin.toNat) hk.wth (Zel hk7) (t:=s.week.toNat) (cl:=0) (by have:=(hs s h1).1;unfold far;omega)
 rw [show ((s.week.toNat:Nat):Int)=s.week by have:=(hs s h1).1;omega] at h2
 cases hse:s.seen with
 | true=>simp
 | false =>
   rw [Bool.false_or,decide_eq_true_eq]
   cases hb:(lv h.gaps 0 (2 ^ k) s.week.toNat).testBit s.bin.toNat with
   | true=>rw [hb] at h2;have:=h2.2 rfl;simp;omega
   | false=>rw [hb] at h2;simp;rcases Int.lt_or_le s.week (wk h.gaps 0 (2 ^ k) s.bin.toNat) with h3 | h3;exact h3;exact absurd (h2.1 h3) (by simp)
theorem clr_mem {h:Hse} {ss:List Sgt} {but week:Int} {j:Int}:j∈h.clr ss but week↔∃ k:Nat,k<h.bins.toNat∧Z66 h.gaps ss but week k=true∧j=k:=by
 unfold Hse.clr
 simp only [List.mem_map,List.mem_filter,List.mem_range]
 constructor
 · rintro ⟨k,⟨h1,h2⟩,rfl⟩;exact ⟨k,h1,h2,rfl⟩
 · rintro ⟨k,h1,h2,rfl⟩;exact ⟨k,⟨h1,h2⟩,rfl⟩
theorem Z83 {h:Hse} {ss:List Sgt} {but week:Int}:∀ j∈h.clr ss but week,0≤j∧j<h.bins.toNat:=fun j hj=>by
 obtain ⟨k,h1,_,rfl⟩:=clr_mem.1 hj;omega
theorem clr_bit {h:Hse} {ss:List Sgt} {but week:Int} {k:Nat}:(msk (h.clr ss but week)).testBit k=true↔k<h.bins.toNat∧Z66 h.gaps ss but week k=true:=by
 rw [ZN (fun j hj=>(Z83 j hj).1),clr_mem]
 constructor
 · rintro ⟨j,h1,h2,e⟩;obtain rfl:k=j:=by omega
   exact ⟨h1,h2⟩
 · rintro ⟨h1,h2⟩;exact ⟨k,h1,h2,rfl⟩
theorem Ze1 {h:Hse} (hk:h.ok) {ss:List Sgt} {but week:Int}:msk (h.clr ss but week)<2 ^ h.bins.toNat:=msk_lt Z83
theorem Z9J {h:Hse} (hk:h.ok) {ss:List Sgt} {but week:Int} (hw:week≤9) {k:Nat} (hk7:k<7):Z66 h.gaps ss but week k=true↔(0≤but→0≤week→(lv h.gaps 0 (2 ^ k) week.toNat).testBit but.toNat=false)∧Z99 h.gaps ss k=true:=by
 unfold Z66
 rw [Bool.and_eq_true]
 refine and_congr ?_ Iff.rfl
 rw [Bool.not_eq_true',Bool.and_eq_false_iff,decide_eq_false_iff_not,decide_eq_false_iff_not]
 rcases Int.lt_or_le week 0 with h0 | h0
 · have:=(Z9n h.gaps 0 (2 ^ k) but.toNat).1
   constructor
   · intro _ _ h1;omega
   · intro _;right;omega
 · have h2:=Zdt (k:=but.toNat) hk.wth (Zel hk7) (t:=week.toNat) (cl:=0) (by unfold far;omega)
   rw [show ((week.toNat:Nat):Int)=week by omega] at h2
   rw [h2]
   constructor
   · rintro (h3 | h3) h4 _
     · exact absurd h4 h3
     · simpa using h3
   · intro h3
     by_cases h4:0≤but
     · right;rw [h3 h4 h0];decide
     · exact .inl h4
theorem ZcO {h:Hse} (hk:h.ok) {ss:List Sgt} (hs:SOk h ss) {m:Nat} (hm:m<2 ^ h.bins.toNat) (he:Z6n h.gaps m ss=true) {but week:Int} (hw:week≤9) (hb:0≤but→0≤week→(lv h.gaps 0 m week.toNat).testBit but.toNat=false):∀ k,m.testBit k=true→(msk (h.clr ss but week)).testBit k=true:=fun k hkm=>by
 have hn:=hk.lt
 have hk1:=Z1N hm hkm
 rw [clr_bit,Z9J hk hw (by omega),Z8i hk (by omega) hs]
 rw [Z5u hk (ZjT hn.1 hm) hs] at he
 refine ⟨hk1,fun h1 h2=>?_,fun s h1 h2=>?_⟩
 · have:=hb h1 h2
   cases hc:(lv h.gaps 0 (2 ^ k) week.toNat).testBit but.toNat with
   | false=>rfl
   | true=>rw [lv_bit.2 ⟨k,hkm,hc⟩] at this;cases this
 · have:=he s h1
   rw [h2] at this
   cases hc:(lv h.gaps 0 (2 ^ k) s.week.toNat).testBit s.bin.toNat with
   | false=>rfl
   | true=>rw [lv_bit.2 ⟨k,hkm,hc⟩] at this;cases this
theorem ZcD {h:Hse} (hk:h.ok) {ss:List Sgt} (hs:SOk h ss) {m:Nat} (hm:m<2 ^ h.bins.toNat) (he:Z6n h.gaps m ss=true) {but week:Int} (hw:week≤9) (hb:0≤but→0≤week→(lv h.gaps 0 m week.toNat).testBit but.toNat=false):Z6n h.gaps (msk (h.clr ss but week)) ss=true:=by
 have hn:=hk.lt
 have hsub:=ZcO hk hs hm he hw hb
 have hc7:=ZjT hn.1 (Ze1 hk (ss:=ss) (but:=but) (week:=week))
 rw [Z5u hk (ZjT hn.1 hm) hs] at he
 rw [Z5u hk hc7 hs]
 intro s h1
 cases hse:s.seen with
 | true=>exact Zbg hsub (by rw [he s h1,hse])
 | false =>
   cases hc:(lv h.gaps 0 (msk (h.clr ss but week)) s.week.toNat).testBit s.bin.toNat with
   | false=>rfl
   | true =>
     obtain ⟨u,h2,h3⟩:=lv_bit.1 hc
     obtain ⟨h4,h5⟩:=clr_bit.1 h2
     rw [Z9J hk hw (by omega),Z8i hk (by omega) hs] at h5
     rw [h5.2 s h1 hse] at h3;cases h3
theorem Z71 {h:Hse} (hk:h.ok) {ss:List Sgt} (hs:SOk h ss):h.agr ss=true↔∃ m,m<2 ^ h.bins.toNat∧Z6n h.gaps m ss=true :=
 ⟨fun h1=>⟨_,Ze1 hk,h1⟩,fun ⟨_,h1,h2⟩=>ZcD hk hs h1 h2 (by decide) (fun h3=>absurd h3 (by decide))⟩
def ZZ (ag:List Int→Bool) (n:Nat):Nat→List Int→Nat→Option (List Int)
 | 0,l,_=>bif ag l then none else some l
 | r+1,l,fr=>(List.range' fr (n-fr)).findSome? fun (i:Nat)=>ZZ ag n r (l++[((i:Nat):Int)]) (i+1)
theorem and0_iff {a b:Nat}:a&&&b=0↔∀ i,(a.testBit i&&b.testBit i)=false:=by
 constructor
 · intro h i;rw [← Nat.testBit_and,h,Nat.zero_testBit]
 · intro h;exact Nat.eq_of_testBit_eq fun i=>by rw [Nat.testBit_and,h,Nat.zero_testBit]
theorem Zex {a b:Nat} (ha:a%2=1) (hb:b%2=1):a&&&b≠0:=fun h=>by
 have:=Nat.and_mod_two_eq_one.2 ⟨ha,hb⟩;rw [h] at this;cases this
theorem Zcg {a b:Nat} (h:¬ (a%2=1∧b%2=1)):a&&&b=0↔a / 2&&&b / 2=0:=by
 have h1:¬ (a&&&b)%2=1:=fun e=>h (Nat.and_mod_two_eq_one.1 e)
 rw [← Nat.and_div_two];omega
theorem Zdx:∀ (n:Nat) {a b:Nat},a≤n→a&&&b=0→a+b=a|||b
 | 0, a, b, hn, _ => by obtain rfl : a = 0 := by omega
                        simp
 | n+1,a,b,hn,h=>by
   have h0:¬ (a%2=1∧b%2=1):=fun e=>Zex e.1 e.2 h
   by_cases ha:a=0
   · subst ha;simp
   have ih:=Zdx n (a:=a / 2) (b:=b / 2) (by omega) ((Zcg h0).1 h)
   have h1:=Nat.or_div_two (a:=a) (b:=b)
   have h2:=Nat.or_mod_two_eq_one (a:=a) (b:=b)
   rcases Nat.mod_two_eq_zero_or_one a with ea | ea<;>rcases Nat.mod_two_eq_zero_or_one b with eb | eb
   · have:¬ (a|||b)%2=1:=fun e=>by rcases h2.1 e with e | e<;>omega
     omega
   · have:=h2.2 (.inr eb);omega
   · have:=h2.2 (.inl ea);omega
   · exact absurd ⟨ea,eb⟩ h0
theorem Zcb {a b:Nat} (h:a&&&b=0) (i:Nat):(a+b).testBit i=(a.testBit i||b.testBit i):=by rw [Zdx a (Nat.le_refl _) h,Nat.testBit_or]
theorem Zeq {a v:Nat} (h:a.testBit v=false) (i:Nat):(a+2 ^ v).testBit i=(a.testBit i||decide (v=i)):=by
 rw [Zcb (and0_iff.2 fun j=>?_),Nat.testBit_two_pow]
 rw [Nat.testBit_two_pow]
 by_cases e:v=j
 · subst e;rw [h];rfl
 · rw [decide_eq_false e,Bool.and_false]
theorem ZeF {a n i:Nat} (h:a<2 ^ n) (hi:n≤i):a.testBit i=false:=Nat.testBit_lt_two_pow (Nat.lt_of_lt_of_le h (Nat.pow_le_pow_right (by decide) hi))
theorem Z9H (p:Nat→Bool):∀ n,∃ t,t<2 ^ n∧∀ j,t.testBit j=(decide (j<n)&&p j)
 | 0=>⟨0,by decide,fun j=>by simp⟩
 | n+1=>by
   obtain ⟨t,h1,h2⟩:=Z9H p n
   have hn:t.testBit n=false:=by rw [h2];simp
   cases hp:p n
   · refine ⟨t,by rw [Nat.pow_succ];omega,fun j=>?_⟩
     rw [h2]
     by_cases e:j=n
     · subst e;simp [hp]
     · rw [show decide (j<n+1)=decide (j<n) from decide_eq_decide.2 (by omega)]
   · refine ⟨t+2 ^ n,by rw [Nat.pow_succ];omega,fun j=>?_⟩
     rw [Zeq hn,h2]
     by_cases e:j=n
     · subst e;simp [hp]
     · rw [show decide (j<n+1)=decide (j<n) from decide_eq_decide.2 (by omega),decide_eq_false (show ¬ n=j by omega),Bool.or_false]
def Z2U (s:Nat):List Int:=((List.range 10).filter fun i=>s.testBit i).map fun (i:Nat)=>(i:Int)
def Z9v (s n:Nat):List Int:=((List.range n).filter fun i=>s.testBit i).map fun (i:Nat)=>(i:Int)
theorem Zfr {s n:Nat} (h:s / 2 ^ n%2=1):Z9v s (n+1)=Z9v s n++[(n:Int)]:=by
 have h1:s.testBit n=true:=by rw [Nat.testBit_eq_decide_div_mod_eq,decide_eq_true h]
 unfold Z9v
 rw [List.range_succ,List.filter_append,List.map_append,List.filter_cons,h1];rfl
theorem Z8v {s n:Nat} (h:s / 2 ^ n%2≠1):Z9v s (n+1)=Z9v s n:=by
 have h1:s.testBit n=false:=by rw [Nat.testBit_eq_decide_div_mod_eq,decide_eq_false h]
 unfold Z9v
 rw [List.range_succ,List.filter_append,List.map_append,List.filter_cons,h1];simp
theorem Z8u {s n:Nat} (h:s<2 ^ n):∀ k,Z9v s (n+k)=Z9v s n
 | 0=>rfl
 | k+1=>by
   rw [← Z8u h k]
   refine Z8v (n:=n+k) fun e=>?_
   rw [Nat.div_eq_of_lt (Nat.lt_of_lt_of_le h (Nat.pow_le_pow_right (by decide) (Nat.le_add_right _ _)))] at e;cases e
theorem Zd0 (s n:Nat):(Z9v s n).length≤n:=by
 unfold Z9v
 rw [List.length_map]
 exact Nat.le_trans (List.length_filter_le _ _) (by simp)
theorem Zfp {s n:Nat} (h:s / 2 ^ n=0) (hn:n≤10):Z9v s n=Z2U s:=by
 have:=Z8u (s:=s) (n:=n) (by
   rcases Nat.lt_or_ge s (2 ^ n) with h1 | h1
   · exact h1
   · have:=Nat.div_pos h1 (Nat.pow_pos (by decide));omega) (10-n)
 rw [← this,show n+(10-n)=10 by omega];rfl
theorem Z8M:∀ {a b:List Nat},a.Pairwise (· < ·)→b.Pairwise (· < ·)→(∀ x,x∈a↔x∈b)→a=b
 | [],[],_,_,_=>rfl
 | [],y::b,_,_,h=>by have:=(h y).2 (by simp);cases this
 | x::a,[],_,_,h=>by have:=(h x).1 (by simp);cases this
 | x::a,y::b,ha,hb,h=>by
   obtain ⟨h1,h2⟩:=List.pairwise_cons.1 ha
   obtain ⟨h3,h4⟩:=List.pairwise_cons.1 hb
   have hxy:x=y:=by
     rcases List.mem_cons.1 ((h x).1 (by simp)) with e | e
     · exact e
     · rcases List.mem_cons.1 ((h y).2 (by simp)) with e2 | e2
       · exact e2.symm
       · have:=h3 x e;have:=h1 y e2;omega
   subst hxy
   rw [Z8M h2 h4 fun z=>?_]
   constructor
   · intro hz
     rcases List.mem_cons.1 ((h z).1 (by simp [hz])) with e | e
     · subst e;exact absurd (h1 z hz) (Nat.lt_irrefl _)
     · exact e
   · intro hz
     rcases List.mem_cons.1 ((h z).2 (by simp [hz])) with e | e
     · subst e;exact absurd (h3 z hz) (Nat.lt_irrefl _)
     · exact e
theorem Z8t (s:Nat):∃ y:List Nat,Z2U s=(y.map fun (j:Nat)=>(j:Int))∧y.Pairwise (· < ·)∧∀ j,j∈y↔j<10∧s.testBit j=true :=
 ⟨_,rfl,List.pairwise_lt_range.filter _,fun j=>by rw [List.mem_filter,List.mem_range]⟩
theorem Zfq {y:List Nat} {n:Nat} (h6:n≤10) (hp:y.Pairwise (· < ·)) (hn:∀ j∈y,j<n):∃ t,t<2 ^ n∧Z2U t=(y.map fun (j:Nat)=>(j:Int))∧(y≠[]→1≤t):=by
 obtain ⟨t,h1,h2⟩:=Z9H (fun i=>decide (i∈y)) n
 have hm:∀ j,(j<10∧t.testBit j=true)↔j∈y:=fun j=>by
   rw [h2,Bool.and_eq_true,decide_eq_true_eq,decide_eq_true_eq]
   exact ⟨fun h=>h.2.2,fun h=>⟨by have:=hn j h;omega,hn j h,h⟩⟩
 refine ⟨t,h1,?_,fun hy=>?_⟩
 · obtain ⟨z,e,h3,h4⟩:=Z8t t
   rw [e,Z8M h3 hp fun j=>(h4 j).trans (hm j)]
 · obtain ⟨j,hj⟩:=List.exists_mem_of_ne_nil _ hy
   have:=((hm j).2 hj).2
   rcases Nat.eq_zero_or_pos t with e | e
   · rw [e,Nat.zero_testBit] at this;cases this
   · exact e
def Z8n:List Int→List Int→Bool
 | x::a,y::b=>bif decide (x≠y) then decide (x<y) else Z8n a b
 | _,_=>false
def ahB (a b:List Int):Bool:=bif decide (a.length≠b.length) then decide (a.length<b.length) else Z8n a b
theorem Z6B:∀ {a b c:List Int},a.length=b.length→b.length=c.length→Z8n a b=true→Z8n c b=false→Z8n a c=true
 | [],_,_,_,_,h,_=>by unfold Z8n at h;cases h
 | _::_,[],_,h,_,_,_=>by cases h
 | _::_,_::_,[],_,h,_,_=>by cases h
 | x::a,y::b,z::c,h1,h2,h3,h4=>by
   unfold Z8n at h3 h4 ⊢
   by_cases e:z=y
   · subst e
     rw [decide_eq_false (by simp)] at h4
     by_cases e2:x=z
     · subst e2
       rw [decide_eq_false (by simp)] at h3 ⊢
       exact Z6B (by simpa using h1) (by simpa using h2) h3 h4
     · rw [decide_eq_true e2] at h3 ⊢;exact h3
   · rw [decide_eq_true e] at h4
     have h4:=of_decide_eq_false h4
     by_cases e2:x=y
     · subst e2
       rw [decide_eq_true (show x≠z from fun h=>e h.symm)]
       exact decide_eq_true (by omega)
     · rw [decide_eq_true e2] at h3
       have h3:=of_decide_eq_true h3
       rw [decide_eq_true (show x≠z by omega)]
       exact decide_eq_true (by omega)
theorem Z8o:∀ {a b:List Int},Z8n a b=true→Z8n b a=false
 | [],_,h=>by unfold Z8n at h;cases h
 | _::_,[],h=>by unfold Z8n at h;cases h
 | x::a,y::b,h=>by
   unfold Z8n at h ⊢
   by_cases e:x=y
   · subst e
     rw [decide_eq_false (by simp)] at h ⊢
     exact Z8o h
   · rw [decide_eq_true e] at h
     rw [decide_eq_true (show y≠x from fun h=>e h.symm)]
     have h:=of_decide_eq_true h
     exact decide_eq_false (by omega)
theorem Zev {a b:List Int} (h:ahB a b=true):ahB b a=false:=by
 unfold ahB at h ⊢
 by_cases e:a.length=b.length
 · rw [decide_eq_false (by simpa using e)] at h
   rw [decide_eq_false (by simpa using e.symm)]
   exact Z8o h
 · rw [decide_eq_true e] at h
   rw [decide_eq_true (show b.length≠a.length from fun h=>e h.symm)]
   have h:=of_decide_eq_true h
   exact decide_eq_false (by omega)
theorem Zce {a b c:List Int} (h1:ahB a b=true) (h2:ahB c b=false):ahB a c=true:=by
 unfold ahB at h1 h2 ⊢
 by_cases e:c.length=b.length
 · rw [decide_eq_false (by simpa using e)] at h2
   by_cases e2:a.length=b.length
   · rw [decide_eq_false (by simpa using e2)] at h1
     rw [decide_eq_false (by simpa [e] using e2)]
     exact Z6B e2 e.symm h1 h2
   · rw [decide_eq_true e2] at h1
     rw [decide_eq_true (by rw [e];exact e2),e];exact h1
 · rw [decide_eq_true e] at h2
   have h2:=of_decide_eq_false h2
   by_cases e2:a.length=b.length
   · rw [decide_eq_true (by omega)];exact decide_eq_true (by omega)
   · rw [decide_eq_true e2] at h1
     have h1:=of_decide_eq_true h1
     rw [decide_eq_true (by omega)];exact decide_eq_true (by omega)
structure BestI (P:Nat→Bool) (k:Nat) (f:Bool) (b:List Int):Prop where
 no:f=false→(∀ t,1≤t→t<k→P t=true)∧b=[]
 yes:f=true→(∃ t,1≤t∧t<k∧P t=false∧b=Z2U t)∧∀ t,1≤t→t<k→P t=false→ahB (Z2U t) b=false
theorem BestI.start (P:Nat→Bool):BestI P 1 false []:=⟨fun _=>⟨fun t h1 h2=>by omega,rfl⟩,(fun h=>by cases h)⟩
theorem Zew (a:List Int):ahB a a=false:=by
 unfold ahB
 rw [decide_eq_false (by simp)]
 show Z8n a a=false
 induction a with
 | nil=>rfl
 | cons x a ih=>unfold Z8n;rw [decide_eq_false (by simp)];exact ih
theorem BestI.take {P:Nat→Bool} {k:Nat} {f:Bool} {b:List Int} (h:BestI P k f b) (hk:1≤k) (h1:f=false∨ahB (Z2U k) b=true) (h2:P k=false):BestI P (k+1) true (Z2U k):=by
 refine ⟨(fun h=>by cases h),fun _=>⟨⟨k,hk,by omega,h2,rfl⟩,fun t t1 t2 t3=>?_⟩⟩
 by_cases e:t=k
 · subst e;exact Zew _
 · cases hf:f with
   | false=>rw [(h.no hf).1 t t1 (by omega)] at t3;cases t3
   | true =>
     have h3:=(h.yes hf).2 t t1 (by omega) t3
     have h4:=h1.resolve_left (by rw [hf];simp)
     exact Zev (Zce h4 h3)
theorem BestI.skip {P:Nat→Bool} {k:Nat} {f:Bool} {b:List Int} (h:BestI P k f b) (h1:P k=true∨(f=true∧ahB (Z2U k) b=false)):BestI P (k+1) f b:=by
 refine ⟨fun hf=>⟨fun t t1 t2=>?_,(h.no hf).2⟩,fun hf=>⟨?_,fun t t1 t2 t3=>?_⟩⟩
 · by_cases e:t=k
   · subst e
     rcases h1 with h1 | h1
     · exact h1
     · rw [h1.1] at hf;cases hf
   · exact (h.no hf).1 t t1 (by omega)
 · obtain ⟨t,t1,t2,t3⟩:=(h.yes hf).1
   exact ⟨t,t1,by omega,t3⟩
 · by_cases e:t=k
   · subst e
     rcases h1 with h1 | h1
     · rw [h1] at t3;cases t3
     · exact h1.2
   · exact (h.yes hf).2 t t1 (by omega) t3
def Z3C (has:List Int→Bool) (n:Nat):Option (List Int):=(List.range' 0 (n+1)).findSome? fun k=>ZZ (fun l=>!has l) n k [] 0
theorem memL_bit {t:Nat} {j:Int}:j∈Z2U t↔∃ k:Nat,k<10∧t.testBit k=true∧j=k:=by
 obtain ⟨y,e,_,h⟩:=Z8t t
 rw [e,List.mem_map]
 constructor
 · rintro ⟨k,hk,rfl⟩;exact ⟨k,((h k).1 hk).1,((h k).1 hk).2,rfl⟩
 · rintro ⟨k,h1,h2,rfl⟩;exact ⟨k,(h k).2 ⟨h1,h2⟩,rfl⟩
theorem Zd4 {t:Nat} (ht:t<2 ^ 10):msk (Z2U t)=t:=Z0v fun k=>by
 rw [Bool.eq_iff_iff,ZN (fun j hj=>by obtain ⟨q,_,_,rfl⟩:=memL_bit.1 hj;omega),memL_bit]
 constructor
 · rintro ⟨q,_,h2,e⟩;obtain rfl:k=q:=by omega
   exact h2
 · intro h;exact ⟨k,Z1N ht h,h,rfl⟩
def chi (X v:Nat):Int:=bif X.testBit v then 1 else 0
def Z4T (F:Nat→Gp→Int):List Gp→Nat→Int
 | [],_=>0
 | g::gs,i=>F i g+Z4T F gs (i+1)
theorem Z3V (F G:Nat→Gp→Int):∀ (gs:List Gp) (i:Nat),Z4T (fun i g=>F i g+G i g) gs i=Z4T F gs i+Z4T G gs i
 | [],_=>rfl
 | g::gs,i=>by simp only [Z4T,Z3V F G gs (i+1)];omega
theorem Z5W {F G:Nat→Gp→Int}:∀ {gs:List Gp} {i:Nat},(∀ j g,gs[j]?=some g→F (i+j) g≤G (i+j) g)→Z4T F gs i≤Z4T G gs i
 | [],_,_=>Int.le_refl _
 | g::gs,i,h=>by
   have h0:=h 0 g rfl
   have h1:=Z5W (gs:=gs) (i:=i+1) (F:=F) (G:=G) fun j g' hj=>by
     have:=h (j+1) g' (by simpa using hj)
     rwa [show i+(j+1)=i+1+j by omega] at this
   simp only [Z4T]
   rw [Nat.add_zero] at h0
   omega
theorem Z3l {F G:Nat→Gp→Int} {gs:List Gp} {i:Nat} (h:∀ j g,gs[j]?=some g→F (i+j) g=G (i+j) g):Z4T F gs i=Z4T G gs i :=
 Int.le_antisymm (Z5W fun j g hj=>Int.le_of_eq (h j g hj)) (Z5W fun j g hj=>Int.le_of_eq (h j g hj).symm)
theorem Z4D (gs:List Gp) (i:Nat):Z4T (fun _ _=>0) gs i=0:=by
 induction gs generalizing i with
 | nil=>rfl
 | cons g gs ih=>simp only [Z4T,ih];rfl
def Z1I (f:Nat→Int) (X:Nat) (gs:List Gp):Int:=Z4T (fun i g=>f i*(chi X g.a.toNat-chi X g.b.toNat)) gs 0
theorem ZdZ {X v k:Nat} (h:X.testBit v=false):chi (X|||2 ^ v) k=chi X k+chi (2 ^ v) k:=by
 unfold chi
 rw [Nat.testBit_or,Nat.testBit_two_pow]
 by_cases e:v=k
 · subst e;rw [h];simp
 · rw [decide_eq_false e];cases X.testBit k<;>rfl
theorem Zfe {f:Nat→Int} {X v:Nat} {gs:List Gp} (h:X.testBit v=false):Z1I f (X|||2 ^ v) gs=Z1I f X gs+Z1I f (2 ^ v) gs:=by
 unfold Z1I
 rw [← Z3V]
 refine Z3l fun j g _=>?_
 rw [ZdZ h,ZdZ h,← Int.mul_add]
 congr 1
 omega
def ZiX (f:Nat→Int) (S K:Nat) (gs:List Gp):Prop:=∀ v,v<7→S.testBit v=false→K.testBit v=false→Z1I f (2 ^ v) gs=0
theorem Z8c {f:Nat→Int} {S K X:Nat} {gs:List Gp} (hc:ZiX f S K gs) (hX:X<2 ^ 7) (hS:∀ v,S.testBit v=true→X.testBit v=true) (hK:∀ v,K.testBit v=true→X.testBit v=false):Z1I f X gs=Z1I f S gs:=by
 have key:∀ n,n≤7→∃ Y,(∀ v,Y.testBit v=(S.testBit v||(decide (v<n)&&X.testBit v)))∧Z1I f Y gs=Z1I f S gs:=by
   intro n
   induction n with
   | zero=>intro _;exact ⟨S,fun v=>by simp,rfl⟩
   | succ n ih =>
     intro hn
     obtain ⟨Y,h1,h2⟩:=ih (by omega)
     by_cases hx:X.testBit n=true∧S.testBit n=false
     · refine ⟨Y|||2 ^ n,fun v=>?_,?_⟩
       · rw [Nat.testBit_or,h1,Nat.testBit_two_pow]
         by_cases e:n=v
         · subst e;rw [hx.1,hx.2];simp
         · rw [decide_eq_false e,show decide (v<n+1)=decide (v<n) from decide_eq_decide.2 (by omega),Bool.or_false]
       · have hy:Y.testBit n=false:=by rw [h1,hx.2];simp
         rw [Zfe hy,h2,hc n (by omega) hx.2 ?_]
         · omega
         · cases hk:K.testBit n with
           | false=>rfl
           | true=>rw [hK n hk] at hx;cases hx.1
     · refine ⟨Y,fun v=>?_,h2⟩
       rw [h1]
       by_cases e:v=n
       · subst e
         cases hs:S.testBit v with
         | true=>simp
         | false =>
           cases hv:X.testBit v with
           | true=>exact absurd ⟨hv,hs⟩ hx
           | false=>simp
       · rw [show decide (v<n+1)=decide (v<n) from decide_eq_decide.2 (by omega)]
 obtain ⟨Y,h1,h2⟩:=key 7 (Nat.le_refl _)
 have:Y=X:=Z0v fun v=>by
   rw [h1]
   cases hx:X.testBit v with
   | true=>rw [decide_eq_true (Z1N hX hx)];simp
   | false =>
     cases hs:S.testBit v with
     | true=>rw [hS v hs] at hx;cases hx
     | false=>simp
 rw [← this,h2]
def crs (X:Nat) (g:Gp):Bool:=X.testBit g.a.toNat != X.testBit g.b.toNat
def Z2n (X:Nat) (gs:List Gp):List Int:=((List.range gs.length).filter fun i=>match gs[i]? with | some g=>crs X g | none=>false).map fun (i:Nat)=>(i:Int)
def Zf5 (X:Nat) (gs:List Gp):Int:=Z4T (fun _ g=>bif crs X g then 1 else 0) gs 0
theorem Z5r (X:Nat):∀ gs:List Gp,Zf5 X gs=(Z2n X gs).length:=by
 intro gs
 have key:∀ (gs:List Gp),Zf5 X gs=((gs.filter fun g=>crs X g).length:Int):=by
   intro gs
   unfold Zf5
   have:∀ i,Z4T (fun _ g=>bif crs X g then 1 else 0) gs i=((gs.filter fun g=>crs X g).length:Int):=by
     induction gs with
     | nil=>intro i;rfl
     | cons g gs ih =>
       intro i
       simp only [Z4T,ih (i+1),List.filter_cons]
       cases crs X g<;>simp<;>omega
   exact this 0
 rw [key]
 unfold Z2n
 rw [List.length_map]
 congr 1
 have:∀ (gs:List Gp),(gs.filter fun g=>crs X g).length=((List.range gs.length).filter fun i=>match gs[i]? with | some g=>crs X g | none=>false).length:=by
   intro gs
   induction gs with
   | nil=>rfl
   | cons g gs ih =>
     rw [List.length_cons,List.range_succ_eq_map,List.filter_cons,List.filter_cons,List.filter_map]
     have e:((fun i=>match (g::gs)[i]? with | some g=>crs X g | none=>false) ∘ Nat.succ)=fun i=>match gs[i]? with | some g=>crs X g | none=>false:=by funext i;simp
     rw [e]
     simp only [List.getElem?_cons_zero]
     split<;>simp [ih]
 exact this gs
theorem ZaN {f:Nat→Int} {X:Nat} {gs:List Gp} (hf:∀ i,-1≤f i∧f i≤1):Z1I f X gs≤Zf5 X gs:=by
 unfold Z1I Zf5
 refine Z5W fun j g _=>?_
 have:=hf (0+j)
 rw [Nat.zero_add] at this ⊢
 unfold crs chi
 cases X.testBit g.a.toNat<;>cases X.testBit g.b.toNat<;>simp<;>omega
theorem ZaM {f:Nat→Int} {X:Nat} {gs:List Gp} (hf:∀ i,-1≤f i∧f i≤1) (h:∀ i g,gs[i]?=some g→(X.testBit g.a.toNat=true→X.testBit g.b.toNat=false→1≤f i)∧(X.testBit g.b.toNat=true→X.testBit g.a.toNat=false→f i ≤ -1)):Z1I f X gs=Zf5 X gs:=by
 unfold Z1I Zf5
 refine Z3l fun j g hj=>?_
 have h1:=h j g hj
 have:=hf j
 rw [Nat.zero_add]
 unfold crs chi
 cases ha:X.testBit g.a.toNat<;>cases hb:X.testBit g.b.toNat
 · simp
 · have:=h1.2 hb ha;simp;omega
 · have:=h1.1 ha hb;simp;omega
 · simp
def Shut (gs:List Gp) (cl S K:Nat):Prop:=∀ t v,(lv gs cl S t).testBit v=true→K.testBit v=false
theorem ZfK {f:Nat→Int} {S K C:Nat} {gs:List Gp} (hw:Wth gs 7) (hS:S<2 ^ 7) (hf:∀ i,-1≤f i∧f i≤1) (hc:ZiX f S K gs) (hs:Shut gs C S K):Z1I f S gs≤((List.range gs.length).filter fun i=>C.testBit i).length:=by
 have hX:=ZcY hw hS (cl:=C) 7
 have h1:=Z8c hc hX (fun v hv=>Zfn (t:=0) (by decide) hv) (fun v hv=>by
   cases hx:(lv gs C S 7).testBit v with
   | false=>rfl
   | true=>rw [hs 7 v hx] at hv;cases hv)
 have h2:=ZaN (X:=lv gs C S 7) (gs:=gs) hf
 rw [h1,Z5r] at h2
 refine Int.le_trans h2 (Int.ofNat_le.2 ?_)
 unfold Z2n
 rw [List.length_map]
 rw [← List.countP_eq_length_filter,← List.countP_eq_length_filter]
 refine List.countP_mono_left fun i _ hi=>?_
 cases hg:gs[i]? with
 | none=>rw [hg] at hi;cases hi
 | some g =>
   rw [hg] at hi
   cases hb:C.testBit i with
   | true=>rfl
   | false =>
     have hst:spr gs C (lv gs C S 7)=lv gs C S 7:=by
       have:=Zbf (gs:=gs) (n:=7) (cl:=C) (m:=S) hw hS (t:=7) (by decide) (j:=8) (by decide)
       exact this
     dsimp only at hi
     unfold crs at hi
     cases ha:(lv gs C S 7).testBit g.a.toNat<;>cases hbb:(lv gs C S 7).testBit g.b.toNat
     · rw [ha,hbb] at hi;cases hi
     · have:(spr gs C (lv gs C S 7)).testBit g.a.toNat=true:=spr_test.2 (.inr ⟨_,hbb,i,g,hg,hb,.inr ⟨rfl,rfl⟩⟩)
       rw [hst,ha] at this;cases this
     · have:(spr gs C (lv gs C S 7)).testBit g.b.toNat=true:=spr_test.2 (.inr ⟨_,ha,i,g,hg,hb,.inl ⟨rfl,rfl⟩⟩)
       rw [hst,hbb] at this;cases this
     · rw [ha,hbb] at hi;cases hi
theorem cutM_mem {X:Nat} {gs:List Gp} {j:Int}:j∈Z2n X gs↔∃ (i:Nat) (g:Gp),gs[i]?=some g∧crs X g=true∧j=i:=by
 unfold Z2n
 simp only [List.mem_map,List.mem_filter,List.mem_range]
 constructor
 · rintro ⟨i,⟨h1,h2⟩,rfl⟩
   cases hg:gs[i]? with
   | none=>rw [hg] at h2;cases h2
   | some g=>rw [hg] at h2;exact ⟨i,g,hg,h2,rfl⟩
 · rintro ⟨i,g,h1,h2,rfl⟩
   exact ⟨i,⟨(List.getElem?_eq_some_iff.1 h1).1,by rw [h1];exact h2⟩,rfl⟩
theorem ZcL {X S K:Nat} {gs:List Gp} (hS:∀ v,S.testBit v=true→X.testBit v=true) (hK:∀ v,K.testBit v=true→X.testBit v=false):Shut gs (msk (Z2n X gs)) S K:=by
 have hin:∀ t v,(lv gs (msk (Z2n X gs)) S t).testBit v=true→X.testBit v=true:=by
   intro t
   induction t with
   | zero=>exact hS
   | succ t ih =>
     intro v hv
     rcases spr_test.1 hv with h1 | ⟨u,h1,i,g,h2,h3,h4⟩
     · exact ih v h1
     · have hu:=ih u h1
       cases hx:X.testBit v with
       | true=>rfl
       | false =>
         have hc:crs X g=true:=by
           unfold crs
           rcases h4 with ⟨h5,h6⟩ | ⟨h5,h6⟩
           · rw [h5,h6,hu,hx];rfl
           · rw [h5,h6,hu,hx];rfl
         have:(msk (Z2n X gs)).testBit i=true:=(ZN (fun j hj=>by obtain ⟨q,_,_,_,rfl⟩:=cutM_mem.1 hj;omega) i).2 (cutM_mem.2 ⟨i,g,h2,hc,rfl⟩)
         rw [this] at h3;cases h3
 intro t v hv
 cases hk:K.testBit v with
 | false=>rfl
 | true=>have:=hK v hk;rw [hin t v hv] at this;cases this
inductive Way (gs:List Gp) (op:Nat→Bool) (f:Nat→Int) (S K:Nat):Nat→List (Nat×Nat)→Nat→Prop where
 | nil (u:Nat):Way gs op f S K u [] u
 | cons {u v w i:Nat} {g:Gp} {l:List (Nat×Nat)} (hg:gs[i]?=some g) (ho:op i=true) (hk:K.testBit u=false) (hsv:S.testBit v=false) (hs:(g.a.toNat=u∧g.b.toNat=v∧f i<1)∨(g.b.toNat=u∧g.a.toNat=v ∧ -1<f i)) (h:Way gs op f S K v l w):Way gs op f S K u ((i,v)::l) w
def Z9x (gs:List Gp) (i v:Nat):Int:=match gs[i]? with
 | some g=>bif decide (g.b.toNat=v) then 1 else -1
 | none=>0
def Z3M (gs:List Gp) (f:Nat→Int) (l:List (Nat×Nat)):Nat→Int:=fun i=>f i+match l.find? fun x=>decide (x.1=i) with
 | some x=>Z9x gs x.1 x.2
 | none=>0
theorem Z8O {F:Nat→Gp→Int}:∀ {gs:List Gp} {i k:Nat} {g:Gp},gs[k]?=some g→(∀ j g',gs[j]?=some g'→j≠k→F (i+j) g'=0)→Z4T F gs i=F (i+k) g
 | [],_,_,_,h,_=>by simp at h
 | x::gs,i,0,g,h,hz=>by
   rw [List.getElem?_cons_zero,Option.some.injEq] at h
   subst h
   have:Z4T F gs (i+1)=0:=by
     rw [Z3l (G:=fun _ _=>0) (fun j g' hj=>?_),Z4D]
     have:=hz (j+1) g' (by simpa using hj) (by omega)
     rwa [show i+(j+1)=i+1+j by omega] at this
   simp only [Z4T,this,Nat.add_zero];omega
 | x::gs,i,k+1,g,h,hz=>by
   have h0:=hz 0 x rfl (by omega)
   rw [Nat.add_zero] at h0
   have:=Z8O (F:=F) (gs:=gs) (i:=i+1) (k:=k) (g:=g) (by simpa using h) fun j g' hj hne=>by
     have:=hz (j+1) g' (by simpa using hj) (by omega)
     rwa [show i+(j+1)=i+1+j by omega] at this
   simp only [Z4T,h0,this]
   rw [show i+1+k=i+(k+1) by omega];omega
theorem Z40 {gs:List Gp} {f:Nat→Int} {i v:Nat} {l:List (Nat×Nat)} (hn:∀ x∈l,x.1≠i) (j:Nat):Z3M gs f ((i,v)::l) j=Z3M gs f l j+(bif decide (j=i) then Z9x gs i v else 0):=by
 unfold Z3M
 rw [List.find?_cons]
 by_cases e:i=j
 · subst e
   have:l.find? (fun x=>decide (x.1=i))=none:=List.find?_eq_none.2 fun x hx=>by simpa using hn x hx
   rw [this];simp
 · rw [decide_eq_false (show ¬ j=i from fun h=>e h.symm)]
   simp [e]
theorem Z3Y {gs:List Gp} {op:Nat→Bool} {f f0:Nat→Int} {S K:Nat} (X:Nat):∀ {l:List (Nat×Nat)} {u w:Nat},Way gs op f0 S K u l w→(l.map (·.1)).Nodup→(∀ (i:Nat) (g:Gp),gs[i]?=some g→g.a.toNat≠g.b.toNat)→Z1I (Z3M gs f l) X gs=Z1I f X gs+chi X u-chi X w
 | [],u,w,h,_,_=>by
   cases h
   have:Z3M gs f []=f:=by funext i;simp [Z3M]
   rw [this];omega
 | (i,v)::l,u,w,h,hn,hab=>by
   cases h with
   | cons hg ho hk hsv hs h =>
     rename_i g
     rw [List.map_cons,List.nodup_cons] at hn
     have hni:∀ x∈l,x.1≠i:=fun x hx e=>hn.1 (List.mem_map.2 ⟨x,hx,e⟩)
     have ih:=Z3Y (f:=f) X h hn.2 hab
     have e:Z1I (Z3M gs f ((i,v)::l)) X gs=Z1I (Z3M gs f l) X gs+Z4T (fun j g=>(bif decide (j=i) then Z9x gs i v else 0)*(chi X g.a.toNat-chi X g.b.toNat)) gs 0:=by
       unfold Z1I
       rw [← Z3V]
       refine Z3l fun j g' _=>?_
       rw [Z40 hni,Int.add_mul]
     have e2:=Z8O (F:=fun (j:Nat) (g:Gp)=>(bif decide (j=i) then Z9x gs i v else 0)*(chi X g.a.toNat-chi X g.b.toNat)) (i:=0) hg fun j g' _ hne=>by
       rw [Nat.zero_add,decide_eq_false hne];simp
     rw [e,e2,ih]
     have hne:=hab i g hg
     rw [Nat.zero_add,decide_eq_true rfl,cond_true]
     unfold Z9x
     rw [hg]
     dsimp only
     rcases hs with ⟨h1,h2,_⟩ | ⟨h1,h2,_⟩
     · rw [decide_eq_true h2,cond_true,h1,h2];omega
     · rw [decide_eq_false (by omega),cond_false,h1,h2];omega
def Drc (f:Nat→Int) (S K:Nat) (gs:List Gp):Prop:=∀ (i:Nat) (g:Gp),gs[i]?=some g→(S.testBit g.a.toNat=true→0≤f i)∧(S.testBit g.b.toNat=true→f i≤0)∧(K.testBit g.a.toNat=true→f i≤0)∧(K.testBit g.b.toNat=true→0≤f i)
structure WayK (gs:List Gp) (op:Nat→Bool) (f:Nat→Int) (S K u:Nat) (l:List (Nat×Nat)) (w:Nat):Prop where
 way:Way gs op f S K u l w
 nd:(l.map (·.1)).Nodup
 from_:S.testBit u=true
 to:K.testBit w=true
theorem Way.mem {gs:List Gp} {op:Nat→Bool} {f:Nat→Int} {S K:Nat}:∀ {l:List (Nat×Nat)} {u w:Nat},Way gs op f S K u l w→∀ x∈l,∃ (g:Gp) (y:Nat),gs[x.1]?=some g∧op x.1=true∧K.testBit y=false∧S.testBit x.2=false∧((g.a.toNat=y∧g.b.toNat=x.2∧f x.1<1)∨(g.b.toNat=y∧g.a.toNat=x.2 ∧ -1<f x.1))
 | [],_,_,_,x,hx=>by cases hx
 | (i,v)::l,u,w,h,x,hx=>by
   cases h with
   | cons hg ho hk hsv hs h =>
     rename_i g
     rcases List.mem_cons.1 hx with rfl | hx
     · exact ⟨g,u,hg,ho,hk,hsv,hs.imp (fun h=>⟨h.1,h.2.1,h.2.2⟩) (fun h=>⟨h.1,h.2.1,h.2.2⟩)⟩
     · exact Way.mem h x hx
theorem Z36 {gs:List Gp} {op:Nat→Bool} {f0 f:Nat→Int} {S K:Nat} {l:List (Nat×Nat)} {u w:Nat} (h:Way gs op f0 S K u l w) (hab:∀ (i:Nat) (g:Gp),gs[i]?=some g→g.a.toNat≠g.b.toNat) (i:Nat):Z3M gs f l i=f i∨∃ (g:Gp) (v y:Nat),(i,v)∈l∧gs[i]?=some g∧op i=true∧K.testBit y=false∧S.testBit v=false∧((g.a.toNat=y∧g.b.toNat=v∧f0 i<1∧Z3M gs f l i=f i+1)∨(g.b.toNat=y∧g.a.toNat=v ∧ -1<f0 i∧Z3M gs f l i=f i-1)):=by
 unfold Z3M
 cases hf:l.find? fun x=>decide (x.1=i) with
 | none=>left;simp
 | some x =>
   right
   have h1:=List.mem_of_find?_eq_some hf
   have h2:=List.find?_some hf
   obtain ⟨j,v⟩:=x
   have h2:j=i:=by simpa using h2
   subst h2
   obtain ⟨g,y,h3,h4,hk,hsv,h5⟩:=h.mem _ h1
   dsimp only at h3 h4 h5 hsv ⊢
   have hne:=hab _ g h3
   refine ⟨g,v,y,h1,h3,h4,hk,hsv,?_⟩
   unfold Z9x
   rw [h3]
   dsimp only
   rcases h5 with ⟨h7,h8,h9⟩ | ⟨h7,h8,h9⟩
   · left;rw [decide_eq_true h8];exact ⟨h7,h8,h9,rfl⟩
   · right;rw [decide_eq_false (by omega)];exact ⟨h7,h8,h9,rfl⟩
structure Flw (f:Nat→Int) (S K:Nat) (gs:List Gp):Prop where
 one:∀ i,-1≤f i∧f i≤1
 cons:ZiX f S K gs
 drc:Drc f S K gs
theorem Flw.zero (S K:Nat) (gs:List Gp):Flw (fun _=>0) S K gs∧Z1I (fun _=>0) S gs=0:=by
 have h0:∀ X,Z1I (fun _=>0) X gs=0:=fun X=>by
   unfold Z1I
   rw [Z3l (G:=fun _ _=>0) (fun j g _=>by simp),Z4D]
 exact ⟨⟨fun _=>by omega,fun v _ _ _=>h0 _,fun i g _=>by simp⟩,h0 S⟩
theorem Z5q {v k:Nat}:chi (2 ^ v) k=bif decide (v=k) then 1 else 0:=by unfold chi;rw [Nat.testBit_two_pow]
theorem Z8y {S K:Nat} (hd:∀ v,S.testBit v=true→K.testBit v=false) {w:Nat} (h:K.testBit w=true):S.testBit w=false:=by
 cases hs:S.testBit w with
 | false=>rfl
 | true=>have:=hd w hs;rw [h] at this;cases this
theorem Flw.more {f:Nat→Int} {S K:Nat} {gs:List Gp} (h:Flw f S K gs) (hd:∀ v,S.testBit v=true→K.testBit v=false) (hab:∀ (i:Nat) (g:Gp),gs[i]?=some g→g.a.toNat≠g.b.toNat) {op:Nat→Bool} {u w:Nat} {l:List (Nat×Nat)} (hw:WayK gs op f S K u l w):Flw (Z3M gs f l) S K gs∧Z1I (Z3M gs f l) S gs=Z1I f S gs+1:=by
 have hwS:=Z8y hd hw.to
 refine ⟨⟨fun i=>?_,fun v hv h1 h2=>?_,fun i g hg=>?_⟩,?_⟩
 · have:=h.one i
   rcases Z36 (f:=f) hw.way hab i with e | ⟨g,v,y,_,_,_,_,_,⟨_,_,h3,e⟩ | ⟨_,_,h3,e⟩⟩<;>rw [e]<;>omega
 · rw [Z3Y _ hw.way hw.nd hab,h.cons v hv h1 h2,Z5q,Z5q,decide_eq_false (fun e=>by rw [e,hw.from_] at h1;cases h1),decide_eq_false (fun e=>by rw [e,hw.to] at h2;cases h2)];rfl
 · have hd0:=h.drc i g hg
   rcases Z36 (f:=f) hw.way hab i with e | ⟨g',v,y,hm,hg',_,hyK,hvS,h5⟩
   · rw [e];exact hd0
   · rw [hg] at hg'
     obtain rfl:=Option.some.inj hg'
     rcases h5 with ⟨rfl,rfl,_,e⟩ | ⟨rfl,rfl,_,e⟩<;>rw [e,hyK,hvS]<;>rw [hyK,hvS] at hd0<;>simp only [Bool.false_eq_true,false_implies,true_and,and_true] at hd0 ⊢ <;> constructor<;>intro h8
     · have:=hd0.1 h8;omega
     · have:=hd0.2 h8;omega
     · have:=hd0.1 h8;omega
     · have:=hd0.2 h8;omega
 · rw [Z3Y _ hw.way hw.nd hab]
   unfold chi
   rw [hw.from_,hwS];simp
def Zf7 (f:Nat→Int) (l:List (Nat×Nat)):Nat→Int:=fun i=>bif l.any fun x=>decide (x.1=i) then 0 else f i
theorem Zf8 {gs:List Gp} {f:Nat→Int} {S K:Nat} {l:List (Nat×Nat)} {u w:Nat} (h:Way gs (fun i=>decide (f i≠0)) (fun i => -f i) S K u l w) (hf:∀ i,-1≤f i∧f i≤1) (hab:∀ (i:Nat) (g:Gp),gs[i]?=some g→g.a.toNat≠g.b.toNat) (i:Nat) : -Zf7 f l i=Z3M gs (fun i => -f i) l i:=by
 unfold Zf7
 rcases Z36 (f:=fun i => -f i) h hab i with e | ⟨g,v,y,hm,hg,ho,_,_,h5⟩
 · rw [e]
   cases ha:l.any fun x=>decide (x.1=i) with
   | false=>rfl
   | true =>
     obtain ⟨x,hx,hxi⟩:=List.any_eq_true.1 ha
     have hxi:=of_decide_eq_true hxi
     obtain ⟨j,v⟩:=x
     dsimp only at hxi
     subst hxi
     obtain ⟨g,y,h3,h4,_,_,h5⟩:=h.mem _ hx
     dsimp only at h3 h4 h5
     have h4:=of_decide_eq_true h4
     have hfi:=hf j
     exfalso
     unfold Z3M at e
     cases hfd:l.find? fun x=>decide (x.1=j) with
     | none =>
       have:=List.find?_eq_none.1 hfd _ hx
       simp at this
     | some z =>
       rw [hfd] at e
       have h1:=List.mem_of_find?_eq_some hfd
       have h2:=List.find?_some hfd
       obtain ⟨j2,v2⟩:=z
       have h2:j2=j:=by simpa using h2
       subst h2
       unfold Z9x at e
       dsimp only at e
       rw [h3] at e
       dsimp only at e
       cases hb:decide (g.b.toNat=v2)<;>rw [hb] at e<;>simp at e<;>omega
 · have ha:(l.any fun x=>decide (x.1=i))=true:=List.any_eq_true.2 ⟨_,hm,by simp⟩
   have ho:=of_decide_eq_true ho
   have:=hf i
   rw [ha,cond_true]
   rcases h5 with ⟨_,_,h6,e⟩ | ⟨_,_,h6,e⟩<;>rw [e]<;>omega
theorem Z8b {f f':Nat→Int} (X:Nat) {gs:List Gp} (h:∀ i,-f i=f' i):Z1I f' X gs = -Z1I f X gs:=by
 have h0:Z1I f' X gs+Z1I f X gs=0:=by
   unfold Z1I
   rw [← Z3V,Z3l (G:=fun _ _=>0) (fun j g _=>by rw [← h,← Int.add_mul,Int.add_left_neg,Int.zero_mul]),Z4D]
 omega
theorem Flw.less {f:Nat→Int} {S K:Nat} {gs:List Gp} (h:Flw f S K gs) (hd:∀ v,S.testBit v=true→K.testBit v=false) (hab:∀ (i:Nat) (g:Gp),gs[i]?=some g→g.a.toNat≠g.b.toNat) {u w:Nat} {l:List (Nat×Nat)} (hw:WayK gs (fun i=>decide (f i≠0)) (fun i => -f i) S K u l w):Flw (Zf7 f l) S K gs∧Z1I (Zf7 f l) S gs=Z1I f S gs-1:=by
 have hwS:=Z8y hd hw.to
 have e:∀ X,Z1I (Zf7 f l) X gs=Z1I f X gs-chi X u+chi X w:=fun X=>by
   have h1:=Z8b X (gs:=gs) (Zf8 hw.way h.one hab)
   have h2:=Z8b X (gs:=gs) (f:=f) (f':=fun i => -f i) fun _=>rfl
   rw [Z3Y X hw.way hw.nd hab] at h1
   omega
 refine ⟨⟨fun i=>?_,fun v hv h1 h2=>?_,fun i g hg=>?_⟩,?_⟩
 · have:=h.one i
   unfold Zf7
   cases l.any fun x=>decide (x.1=i)<;>simp<;>omega
 · rw [e,h.cons v hv h1 h2,Z5q,Z5q,decide_eq_false (fun e=>by rw [e,hw.from_] at h1;cases h1),decide_eq_false (fun e=>by rw [e,hw.to] at h2;cases h2)];rfl
 · have hd0:=h.drc i g hg
   unfold Zf7
   cases l.any fun x=>decide (x.1=i) with
   | true=>simp
   | false=>exact hd0
 · rw [e]
   unfold chi
   rw [hw.from_,hwS];simp
theorem and_zero {a b:Nat}:a&&&b=0↔∀ i,a.testBit i=true→b.testBit i=false:=by
 rw [and0_iff]
 constructor
 · intro h i hi;have:=h i;rw [hi] at this;simpa using this
 · intro h i
   cases hi:a.testBit i with
   | false=>rfl
   | true=>rw [h i hi];rfl
inductive Pl (gs:List Gp) (K sp:Nat):Nat→Nat→Nat→Prop where
 | stay {m c l:Nat} (hl:l<2 ^ gs.length) (hc:l&&&c=0) (hs:cnt gs.length l≤sp) (he:spr gs (c|||l) m=m) (hk:m&&&K=0):Pl gs K sp m c (cnt gs.length l)
 | go {m c l n:Nat} (hl:l<2 ^ gs.length) (hc:l&&&c=0) (hs:cnt gs.length l≤sp) (hne:spr gs (c|||l) m≠m) (hk:spr gs (c|||l) m&&&K=0) (h:Pl gs K sp (spr gs (c|||l) m) (c|||l) n):Pl gs K sp m c (cnt gs.length l+n)
def Lst (P:Nat→Prop) (n:Nat):Prop:=P n∧∀ k,P k→n≤k
theorem Lst.unique {P:Nat→Prop} {m n:Nat} (h:Lst P m) (k:Lst P n):m=n:=Nat.le_antisymm (h.2 _ k.1) (k.2 _ h.1)
def Ins (gs:List Gp) (m c c':Nat):Prop:=∀ (i:Nat) (g:Gp),gs[i]?=some g→c.testBit i≠c'.testBit i→m.testBit g.a.toNat=true∧m.testBit g.b.toNat=true
theorem Ins.spr {gs:List Gp} {m c c':Nat} (h:Ins gs m c c'):spr gs c m=spr gs c' m:=by
 have key:∀ {c c':Nat},Ins gs m c c'→∀ v,(Go.Proofs.YtcfdanhklbklkaaGreat.Wv.spr gs c m).testBit v=true→(Go.Proofs.YtcfdanhklbklkaaGreat.Wv.spr gs c' m).testBit v=true:=by
   intro c c' h v hv
   rcases spr_test.1 hv with h1 | ⟨u,h1,i,g,h2,h3,h4⟩
   · exact Z1e h1
   · by_cases e:c.testBit i=c'.testBit i
     · exact spr_test.2 (.inr ⟨u,h1,i,g,h2,by rw [← e];exact h3,h4⟩)
     · obtain ⟨h5,h6⟩:=h i g h2 e
       refine Z1e ?_
       rcases h4 with ⟨_,rfl⟩ | ⟨_,rfl⟩
       · exact h6
       · exact h5
 refine Z0v fun v=>?_
 rw [Bool.eq_iff_iff]
 exact ⟨key h v,key (fun i g h1 h2=>h i g h1 (Ne.symm h2)) v⟩
theorem Ins.mono {gs:List Gp} {m m' c c':Nat} (h:Ins gs m c c') (hm:∀ v,m.testBit v=true→m'.testBit v=true):Ins gs m' c c':=fun i g h1 h2=>⟨hm _ (h i g h1 h2).1,hm _ (h i g h1 h2).2⟩
theorem Ins.or {gs:List Gp} {m c c' l:Nat} (h:Ins gs m c c'):Ins gs m (c|||l) (c'|||l):=fun i g h1 h2=>h i g h1 fun e=>h2 (by rw [Nat.testBit_or,Nat.testBit_or,e])
theorem Zf4 {n l l':Nat} (h:∀ i,l'.testBit i=true→l.testBit i=true):cnt n l'≤cnt n l:=ZcI fun k _=>h k
theorem Pl.ins {gs:List Gp} {K sp m c n:Nat} (h:Pl gs K sp m c n):∀ {c':Nat},Ins gs m c c'→(∀ i,c'.testBit i=true→c.testBit i=true)→Pl gs K sp m c' n:=by
 induction h with
 | @stay m c l hl hc hs he hk =>
   intro c' hi hsub
   refine .stay hl (and_zero.2 fun i hi2=>?_) hs (by rw [← hi.or.spr];exact he) hk
   cases hb:c'.testBit i with
   | false=>rfl
   | true=>have:=and_zero.1 hc i hi2;rw [hsub i hb] at this;cases this
 | @go m c l n hl hc hs hne hk h ih =>
   intro c' hi hsub
   have e:=hi.or (l:=l) |>.spr
   refine .go hl (and_zero.2 fun i hi2=>?_) hs (by rw [← e];exact hne) (by rw [← e];exact hk) ?_
   · cases hb:c'.testBit i with
     | false=>rfl
     | true=>have:=and_zero.1 hc i hi2;rw [hsub i hb] at this;cases this
   · rw [← e]
     refine ih (hi.or.mono fun v hv=>Z1e hv) fun i h1=>?_
     rw [Nat.testBit_or,Bool.or_eq_true] at h1 ⊢
     exact h1.imp_left (hsub i)
def usf (gs:List Gp) (m c:Nat):Nat→Bool:=fun i=>match gs[i]? with
 | some g=>!c.testBit i&&!(m.testBit g.a.toNat&&m.testBit g.b.toNat)
 | none=>false
def msF (p:Nat→Bool):Nat→Nat
 | 0=>0
 | n+1=>msF p n|||(bif p n then 2 ^ n else 0)
theorem Z5F (p:Nat→Bool) (j:Nat):∀ n,(msF p n).testBit j=(decide (j<n)&&p j)
 | 0=>by simp [msF]
 | n+1=>by
   unfold msF
   rw [Nat.testBit_or,Z5F p j n]
   by_cases e:j=n
   · subst e
     cases p j<;>simp
   · rw [show decide (j<n+1)=decide (j<n) from decide_eq_decide.2 (by omega)]
     cases p n with
     | false=>simp
     | true=>rw [cond_true,Nat.testBit_two_pow,decide_eq_false (show ¬ n=j by omega),Bool.or_false]
def Z0k (gs:List Gp) (m c:Nat):Nat:=msF (usf gs m c) gs.length
theorem usfM_test {gs:List Gp} {m c i:Nat}:(Z0k gs m c).testBit i=true↔∃ g,gs[i]?=some g∧c.testBit i=false∧¬ (m.testBit g.a.toNat=true∧m.testBit g.b.toNat=true):=by
 unfold Z0k
 rw [Z5F,Bool.and_eq_true,decide_eq_true_eq]
 unfold usf
 constructor
 · rintro ⟨h1,h2⟩
   rw [List.getElem?_eq_getElem h1] at h2 ⊢
   dsimp only at h2
   rw [Bool.and_eq_true,Bool.not_eq_true',Bool.not_eq_true',Bool.and_eq_false_iff] at h2
   exact ⟨_,rfl,h2.1,fun h=>by rcases h2.2 with h3 | h3<;>simp_all⟩
 · rintro ⟨g,h1,h2,h3⟩
   refine ⟨(List.getElem?_eq_some_iff.1 h1).1,?_⟩
   rw [h1]
   dsimp only
   rw [h2]
   cases ha:m.testBit g.a.toNat<;>cases hb:m.testBit g.b.toNat<;>simp_all
theorem Pl.cons_inv {gs:List Gp} {K sp m c n:Nat} (h:Pl gs K sp m c n):∃ l,l<2 ^ gs.length∧l&&&c=0∧cnt gs.length l≤sp∧spr gs (c|||l) m&&&K=0∧((spr gs (c|||l) m=m∧n=cnt gs.length l)∨(spr gs (c|||l) m≠m∧∃ k,n=cnt gs.length l+k∧Pl gs K sp (spr gs (c|||l) m) (c|||l) k)):=by
 cases h with
 | @stay _ _ l hl hc hs he hk=>exact ⟨l,hl,hc,hs,by rw [he];exact hk,.inl ⟨he,rfl⟩⟩
 | @go _ _ l n hl hc hs hne hk h=>exact ⟨l,hl,hc,hs,hk,.inr ⟨hne,n,rfl,h⟩⟩
theorem Pl.of {gs:List Gp} {K sp m c l n k:Nat} (hl:l<2 ^ gs.length) (hc:l&&&c=0) (hs:cnt gs.length l≤sp) (hk:spr gs (c|||l) m&&&K=0) (h:(spr gs (c|||l) m=m∧n=cnt gs.length l)∨(spr gs (c|||l) m≠m∧n=cnt gs.length l+k∧Pl gs K sp (spr gs (c|||l) m) (c|||l) k)):Pl gs K sp m c n:=by
 rcases h with ⟨h1,rfl⟩ | ⟨h1,rfl,h2⟩
 · exact .stay hl hc hs h1 (by rw [h1] at hk;exact hk)
 · exact .go hl hc hs h1 hk h2
theorem Pl.first {gs:List Gp} {K sp m c n:Nat} (h:Pl gs K sp m c n):∃ l n',n'≤n∧l<2 ^ gs.length∧(∀ i,l.testBit i=true→(Z0k gs m c).testBit i=true)∧cnt gs.length l≤sp∧spr gs (c|||l) m&&&K=0∧((spr gs (c|||l) m=m∧n'=cnt gs.length l)∨(spr gs (c|||l) m≠m∧∃ k,n'=cnt gs.length l+k∧Pl gs K sp (spr gs (c|||l) m) (c|||l) k)):=by
 obtain ⟨l,hl,hc,hs,hk,h1⟩:=h.cons_inv
 have hsub:∀ i,(l&&&Z0k gs m c).testBit i=true→l.testBit i=true:=fun i hi=>by rw [Nat.testBit_and,Bool.and_eq_true] at hi;exact hi.1
 have hins:Ins gs m (c|||l) (c|||(l&&&Z0k gs m c)):=fun i g hg hne=>by
   rw [Nat.testBit_or,Nat.testBit_or,Nat.testBit_and] at hne
   cases hb:(Z0k gs m c).testBit i with
   | true=>rw [hb] at hne;simp at hne
   | false =>
     rw [hb] at hne
     have hli:l.testBit i=true:=by cases h2:l.testBit i with
       | true=>rfl
       | false=>rw [h2] at hne;simp at hne
     have hci:c.testBit i=false:=and_zero.1 hc i hli
     apply Classical.byContradiction
     intro hnb
     rw [usfM_test.2 ⟨g,hg,hci,hnb⟩] at hb;cases hb
 have e:=hins.spr
 have hcs:=Zf4 (n:=gs.length) hsub
 refine ⟨l&&&Z0k gs m c,?_⟩
 rcases h1 with ⟨h2,rfl⟩ | ⟨h2,k,rfl,h3⟩
 · exact ⟨_,hcs,Nat.lt_of_le_of_lt Nat.and_le_left hl,fun i hi=>by rw [Nat.testBit_and,Bool.and_eq_true] at hi;exact hi.2,Nat.le_trans hcs hs,by rw [← e];exact hk,.inl ⟨by rw [← e];exact h2,rfl⟩⟩
 · refine ⟨cnt gs.length (l&&&Z0k gs m c)+k,by omega,Nat.lt_of_le_of_lt Nat.and_le_left hl,fun i hi=>by rw [Nat.testBit_and,Bool.and_eq_true] at hi;exact hi.2,Nat.le_trans hcs hs,by rw [← e];exact hk,.inr ⟨by rw [← e];exact h2,k,rfl,?_⟩⟩
   rw [← e]
   refine h3.ins (hins.mono fun v hv=>Z1e hv) fun i hi=>?_
   rw [Nat.testBit_or,Bool.or_eq_true] at hi ⊢
   exact hi.imp_right (hsub i)
def Stp (gs:List Gp) (op:Nat→Bool) (f:Nat→Int) (u i v:Nat):Prop:=∃ g,gs[i]?=some g∧op i=true∧((g.a.toNat=u∧g.b.toNat=v∧f i<1)∨(g.b.toNat=u∧g.a.toNat=v ∧ -1<f i))
structure Srch (gs:List Gp) (op:Nat→Bool) (f:Nat→Int) (S K:Nat) (V:List (Nat×Int)):Prop where
 nd:(V.map (·.1)).Nodup
 lt:∀ x∈V,x.1<7
 from_:∀ u,S.testBit u=true→(u,-1)∈V
 par:∀ q x,V[q]?=some x→(x.2=(-1:Int)∧S.testBit x.1=true)∨(S.testBit x.1=false∧∃ (i p:Nat) (y:Nat×Int),x.2=(i:Int)∧p<q∧V[p]?=some y∧K.testBit y.1=false∧Stp gs op f y.1 i x.1)
theorem Srch.few {gs:List Gp} {op:Nat→Bool} {f:Nat→Int} {S K:Nat} {V:List (Nat×Int)} (h:Srch gs op f S K V):V.length≤7:=by
 have h2:=h.nd.length_le_of_subset (l₂:=List.range 7) fun v hv=>by
   obtain ⟨x,hx,rfl⟩:=List.mem_map.1 hv
   exact List.mem_range.2 (h.lt x hx)
 simpa using h2
theorem Srch.start {gs:List Gp} {op:Nat→Bool} {f:Nat→Int} {S K:Nat} {l:List Nat} (hn:l.Nodup) (hl:∀ u∈l,u<7) (hS:∀ u,S.testBit u=true↔u∈l):Srch gs op f S K (l.map fun u=>(u,-1)):=by
 refine ⟨by rw [List.map_map];simpa [Function.comp_def] using hn,fun x hx=>?_,fun u hu=>List.mem_map.2 ⟨u,(hS u).1 hu,rfl⟩,fun q x hx=>?_⟩
 · obtain ⟨u,hu,rfl⟩:=List.mem_map.1 hx;exact hl u hu
 · obtain ⟨u,hu,rfl⟩:=List.mem_map.1 (List.mem_of_getElem? hx)
   exact .inl ⟨rfl,(hS u).2 hu⟩
theorem Srch.more {gs:List Gp} {op:Nat→Bool} {f:Nat→Int} {S K:Nat} {V:List (Nat×Int)} (h:Srch gs op f S K V) {j i v:Nat} {y:Nat×Int} (hj:V[j]?=some y) (hy:K.testBit y.1=false) (hs:Stp gs op f y.1 i v) (hv:v<7) (hn:v∉V.map (·.1)):Srch gs op f S K (V++[(v,(i:Int))]):=by
 have hjl:=(List.getElem?_eq_some_iff.1 hj).1
 refine ⟨?_,fun x hx=>?_,fun u hu=>List.mem_append_left _ (h.from_ u hu),fun q x hx=>?_⟩
 · rw [List.map_append]
   exact List.nodup_append.2 ⟨h.nd,by simp,fun a ha b hb=>by
     obtain rfl:b=v:=by simpa using hb
     intro e;exact hn (e▸ha)⟩
 · rcases List.mem_append.1 hx with h1 | h1
   · exact h.lt x h1
   · rw [List.mem_singleton.1 h1];exact hv
 · rcases Nat.lt_or_ge q V.length with h1 | h1
   · rw [List.getElem?_append_left h1] at hx
     rcases h.par q x hx with h2 | ⟨h2,i',p,z,h3,h4,h5,h6,h7⟩
     · exact .inl h2
     · exact .inr ⟨h2,i',p,z,h3,h4,by rw [List.getElem?_append_left (by omega)];exact h5,h6,h7⟩
   · rw [List.getElem?_append_right h1] at hx
     have hq:q=V.length:=by
       rcases Nat.eq_zero_or_pos (q-V.length) with h2 | h2
       · omega
       · rw [List.getElem?_eq_none (by simp;omega)] at hx;cases hx
     subst hq
     simp only [Nat.sub_self,List.getElem?_cons_zero,Option.some.injEq] at hx
     subst hx
     refine .inr ⟨?_,i,j,y,rfl,hjl,by rw [List.getElem?_append_left hjl];exact hj,hy,hs⟩
     cases hS:S.testBit v with
     | false=>rfl
     | true=>exact absurd (List.mem_map.2 ⟨_,h.from_ v hS,rfl⟩) hn
structure Back (gs:List Gp) (op:Nat→Bool) (f:Nat→Int) (S K:Nat) (V:List (Nat×Int)) (w q u:Nat) (l:List (Nat×Nat)):Prop where
 at_:∃ z,V[q]?=some (u,z)
 way:Way gs op f S K u l w
 nd:(l.map (·.1)).Nodup
 pos:∀ x∈l,∃ q',q<q'∧V[q']?=some (x.2,(x.1:Int))
theorem Back.start {gs:List Gp} {op:Nat→Bool} {f:Nat→Int} {S K:Nat} {V:List (Nat×Int)} {w q:Nat} {z:Int} (h:V[q]?=some (w,z)):Back gs op f S K V w q w []:=⟨⟨z,h⟩,.nil w,by simp,by simp⟩
theorem Z8F {V:List (Nat×Int)} (hn:(V.map (·.1)).Nodup) {q q' v:Nat} {z z':Int} (h:V[q]?=some (v,z)) (h':V[q']?=some (v,z')):q=q':=by
 have h1:(V.map (·.1))[q]?=some v:=by rw [List.getElem?_map,h];rfl
 have h2:(V.map (·.1))[q']?=some v:=by rw [List.getElem?_map,h'];rfl
 obtain ⟨k1,e1⟩:=List.getElem?_eq_some_iff.1 h1
 obtain ⟨k2,e2⟩:=List.getElem?_eq_some_iff.1 h2
 exact (List.getElem_inj hn).1 (e1.trans e2.symm)
theorem Back.more {gs:List Gp} {op:Nat→Bool} {f:Nat→Int} {S K:Nat} {V:List (Nat×Int)} (hs:Srch gs op f S K V) (hab:∀ (i:Nat) (g:Gp),gs[i]?=some g→g.a.toNat≠g.b.toNat) {w q u:Nat} {z:Int} {l:List (Nat×Nat)} (h:Back gs op f S K V w q u l) (hz:V[q]?=some (u,z)) (hne:z ≠ -1):∃ (i p y:Nat) (g:Gp),z=i∧p<q∧gs[i]?=some g∧((g.a.toNat=y∧g.b.toNat=u)∨(g.b.toNat=y∧g.a.toNat=u))∧Back gs op f S K V w p y ((i,u)::l):=by
 rcases hs.par q _ hz with ⟨h1,_⟩ | ⟨h1,i,p,⟨y,zy⟩,h2,h3,h4,h5,g,h6,h7,h8⟩
 · exact absurd h1 hne
 · dsimp only at h1 h2 h5 h8
   refine ⟨i,p,y,g,h2,h3,h6,h8.imp (fun h=>⟨h.1,h.2.1⟩) (fun h=>⟨h.1,h.2.1⟩),⟨⟨zy,h4⟩,.cons h6 h7 h5 h1 h8 h.way,?_,fun x hx=>?_⟩⟩
   · rw [List.map_cons,List.nodup_cons]
     refine ⟨fun hm=>?_,h.nd⟩
     obtain ⟨x,hx,e⟩:=List.mem_map.1 hm
     obtain ⟨q',h9,h10⟩:=h.pos x hx
     rcases hs.par q' _ h10 with ⟨h11,_⟩ | ⟨_,i',p',⟨y',zy'⟩,h12,h13,h14,_,g',h15,_,h16⟩
     · dsimp only at h11;omega
     · dsimp only at h12 h16
       have hi:i'=i:=by omega
       subst hi
       rw [h6] at h15
       obtain rfl:=Option.some.inj h15
       have hne:=hab i' g h6
       have hvu:x.2≠u:=fun e2=>by
         have:=Z8F hs.nd hz (e2▸h10)
         omega
       have hvy:x.2=y:=by
         rcases h8 with ⟨k1,k2,_⟩ | ⟨k1,k2,_⟩<;>rcases h16 with ⟨k3,k4,_⟩ | ⟨k3,k4,_⟩<;>omega
       have:=Z8F hs.nd h4 (hvy▸h10)
       omega
   · rcases List.mem_cons.1 hx with rfl | hx
     · exact ⟨q,h3,by rw [hz,h2]⟩
     · obtain ⟨q',h9,h10⟩:=h.pos x hx
       exact ⟨q',by omega,h10⟩
theorem Back.stop {gs:List Gp} {op:Nat→Bool} {f:Nat→Int} {S K:Nat} {V:List (Nat×Int)} (hs:Srch gs op f S K V) {w q u:Nat} {l:List (Nat×Nat)} (h:Back gs op f S K V w q u l) (hz:V[q]?=some (u,-1)) (hw:K.testBit w=true):WayK gs op f S K u l w:=by
 rcases hs.par q _ hz with ⟨_,h1⟩ | ⟨_,i,p,y,h2,_⟩
 · exact ⟨h.way,h.nd,h1,hw⟩
 · dsimp only at h2;omega
def Z2o (V:List (Nat×Int)):Nat:=V.foldl (fun n x=>n|||2 ^ x.1) 0
theorem Zbi (V:List (Nat×Int)) (n v:Nat):(V.foldl (fun n x=>n|||2 ^ x.1) n).testBit v=(n.testBit v||decide (v∈V.map (·.1))):=by
 induction V generalizing n with
 | nil=>simp
 | cons x V ih =>
   rw [List.foldl_cons,ih,Nat.testBit_or,Nat.testBit_two_pow,List.map_cons,Bool.or_assoc]
   congr 1
   rw [Bool.eq_iff_iff]
   simp only [Bool.or_eq_true,decide_eq_true_eq,List.mem_cons]
   exact or_congr ⟨fun h=>h.symm,fun h=>h.symm⟩ Iff.rfl
theorem Z0K (V:List (Nat×Int)) (v:Nat):(Z2o V).testBit v=true↔v∈V.map (·.1):=by
 unfold Z2o;rw [Zbi];simp
theorem Srch.met_lt {gs:List Gp} {op:Nat→Bool} {f:Nat→Int} {S K:Nat} {V:List (Nat×Int)} (h:Srch gs op f S K V):Z2o V<2 ^ 7:=Z0p fun v hv=>by
 obtain ⟨x,hx,rfl⟩:=List.mem_map.1 ((Z0K V v).1 hv)
 exact h.lt x hx
structure Shn (gs:List Gp) (op:Nat→Bool) (f:Nat→Int) (S K:Nat) (V:List (Nat×Int)):Prop where
 s:Srch gs op f S K V
 no:∀ x∈V,K.testBit x.1=false
 cl:∀ u v i,u∈V.map (·.1)→Stp gs op f u i v→v∈V.map (·.1)
theorem Shn.sub {gs:List Gp} {op:Nat→Bool} {f:Nat→Int} {S K:Nat} {V:List (Nat×Int)} (h:Shn gs op f S K V):(∀ v,S.testBit v=true→(Z2o V).testBit v=true)∧∀ v,K.testBit v=true→(Z2o V).testBit v=false:=by
 refine ⟨fun v hv=>(Z0K V v).2 (List.mem_map.2 ⟨_,h.s.from_ v hv,rfl⟩),fun v hv=>?_⟩
 cases hm:(Z2o V).testBit v with
 | false=>rfl
 | true =>
   obtain ⟨x,hx,rfl⟩:=List.mem_map.1 ((Z0K V v).1 hm)
   rw [h.no x hx] at hv;cases hv
theorem Shn.full {gs:List Gp} {f:Nat→Int} {S K:Nat} {V:List (Nat×Int)} (h:Shn gs (fun _=>true) f S K V) (hf:Flw f S K gs):Z1I f S gs=(Z2n (Z2o V) gs).length:=by
 obtain ⟨h1,h2⟩:=h.sub
 rw [← Z8c hf.cons h.s.met_lt h1 h2,← Z5r]
 refine ZaM hf.one fun i g hg=>⟨fun h3 h4=>?_,fun h3 h4=>?_⟩
 · rcases Int.lt_or_le (f i) 1 with h5 | h5
   · have:=(Z0K V _).2 (h.cl _ _ i ((Z0K V _).1 h3) ⟨g,hg,rfl,.inl ⟨rfl,rfl,h5⟩⟩)
     rw [h4] at this;cases this
   · exact h5
 · rcases Int.lt_or_le (-1) (f i) with h5 | h5
   · have:=(Z0K V _).2 (h.cl _ _ i ((Z0K V _).1 h3) ⟨g,hg,rfl,.inr ⟨rfl,rfl,h5⟩⟩)
     rw [h4] at this;cases this
   · exact h5
structure Two (gs:List Gp) (S K:Nat):Prop where
 w:Wth gs 7
 ab:∀ (i:Nat) (g:Gp),gs[i]?=some g→g.a.toNat≠g.b.toNat
 s:S<2 ^ 7
 k:K<2 ^ 7
 no:∀ v,S.testBit v=true→K.testBit v=false
theorem Z54 (n m:Nat):((List.range n).filter fun i=>m.testBit i).length=cnt n m:=by unfold cnt;rw [List.countP_eq_length_filter]
def Cut (gs:List Gp) (S K:Nat) (m:Nat):Prop:=Lst (fun n=>∃ C,C<2 ^ gs.length∧Shut gs C S K∧cnt gs.length C=n) m
theorem ZaF (X:Nat) (gs:List Gp):msk (Z2n X gs)<2 ^ gs.length:=msk_lt fun j hj=>by
 obtain ⟨i,g,h1,_,rfl⟩:=cutM_mem.1 hj
 have:=(List.getElem?_eq_some_iff.1 h1).1;omega
theorem Z86 (X:Nat) (gs:List Gp):cnt gs.length (msk (Z2n X gs))=(Z2n X gs).length:=by
 have e:∀ i,(msk (Z2n X gs)).testBit i=match gs[i]? with | some g=>crs X g | none=>false:=fun i=>by
   rw [Bool.eq_iff_iff,ZN (fun j hj=>by obtain ⟨q,_,_,_,rfl⟩:=cutM_mem.1 hj;omega),cutM_mem]
   constructor
   · rintro ⟨q,g,h1,h2,e⟩
     obtain rfl:i=q:=by omega
     rw [h1];exact h2
   · intro h
     cases hg:gs[i]? with
     | none=>rw [hg] at h;cases h
     | some g=>rw [hg] at h;exact ⟨i,g,hg,h,rfl⟩
 unfold Z2n
 rw [List.length_map,← Z54]
 congr 1
 refine List.filter_congr fun i _=>?_
 have:=e i
 unfold Z2n at this
 exact this
theorem Shn.cut {gs:List Gp} {f:Nat→Int} {S K:Nat} {V:List (Nat×Int)} (ht:Two gs S K) (h:Shn gs (fun _=>true) f S K V) (hf:Flw f S K gs):Cut gs S K (Z2n (Z2o V) gs).length∧Shut gs (msk (Z2n (Z2o V) gs)) S K:=by
 obtain ⟨h1,h2⟩:=h.sub
 have hs:=ZcL (gs:=gs) h1 h2
 refine ⟨⟨⟨_,ZaF _ _,hs,Z86 _ _⟩,?_⟩,hs⟩
 rintro n ⟨C,hC,h3,rfl⟩
 have h4:=ZfK ht.w ht.s hf.one hf.cons h3
 rw [h.full hf,Z54] at h4
 omega
theorem Shut.mono {gs:List Gp} {C S S' K:Nat} (h:Shut gs C S' K) (hs:∀ v,S.testBit v=true→S'.testBit v=true):Shut gs C S K:=fun t v hv=>h t v (Zbg hs hv)
theorem Z8r (gs:List Gp) (cl m:Nat):∀ t,lv gs cl (spr gs cl m) t=lv gs cl m (t+1)
 | 0=>rfl
 | t+1=>by show spr gs cl (lv gs cl (spr gs cl m) t)=spr gs cl (lv gs cl m (t+1));rw [Z8r gs cl m t]
theorem Shut.next {gs:List Gp} {C S K:Nat} (h:Shut gs C S K):Shut gs C (spr gs C S) K:=fun t v hv=>h (t+1) v (by rw [← Z8r];exact hv)
theorem Z2g {gs:List Gp} {C S K:Nat} (h:Shut gs C S K):S&&&K=0:=and_zero.2 fun v hv=>h 0 v hv
theorem Z1y (n:Nat):cnt n 0=0:=by unfold cnt;simp
theorem Pl.free {gs:List Gp} {K sp:Nat} (hw:Wth gs 7):∀ (d m c:Nat),m<2 ^ 7→7-cnt 7 m≤d→Shut gs c m K→Pl gs K sp m c 0:=by
 intro d
 induction d with
 | zero =>
   intro m c hm hd hs
   have e:spr gs c m=m:=Classical.byContradiction fun hne=>by
     have:=Z4B hw hm hne
     have:=Z4a 7 (spr gs c m)
     omega
   have:=Pl.stay (gs:=gs) (K:=K) (sp:=sp) (m:=m) (c:=c) (l:=0) (Nat.two_pow_pos _) (Nat.zero_and _) (by rw [Z1y];omega) (by rw [Nat.or_zero];exact e) (Z2g hs)
   rwa [Z1y] at this
 | succ d ih =>
   intro m c hm hd hs
   by_cases e:spr gs c m=m
   · have:=Pl.stay (gs:=gs) (K:=K) (sp:=sp) (m:=m) (c:=c) (l:=0) (Nat.two_pow_pos _) (Nat.zero_and _) (by rw [Z1y];omega) (by rw [Nat.or_zero];exact e) (Z2g hs)
     rwa [Z1y] at this
   · have h1:=Z4B hw hm e
     have h2:=ih (spr gs c m) c (Z4A hw hm) (by omega) hs.next
     have:=Pl.go (gs:=gs) (K:=K) (sp:=sp) (m:=m) (c:=c) (l:=0) (n:=0) (Nat.two_pow_pos _) (Nat.zero_and _) (by rw [Z1y];omega) (by rw [Nat.or_zero];exact e) (by rw [Nat.or_zero];exact Z2g hs.next) (by rw [Nat.or_zero];exact h2)
     rwa [Z1y] at this
theorem Pl.once {gs:List Gp} {K sp S C:Nat} (hw:Wth gs 7) (hS:S<2 ^ 7) (hC:C<2 ^ gs.length) (hs:Shut gs C S K) (hn:cnt gs.length C≤sp):Pl gs K sp S 0 (cnt gs.length C):=by
 by_cases e:spr gs C S=S
 · exact .stay hC (Nat.and_zero _) hn (by rw [Nat.zero_or];exact e) (Z2g hs)
 · have h2:=Pl.free (sp:=sp) hw 7 (spr gs C S) C (Z4A hw hS) (by omega) hs.next
   have:=Pl.go (gs:=gs) (K:=K) (sp:=sp) (m:=S) (c:=0) (l:=C) (n:=0) hC (Nat.and_zero _) hn (by rw [Nat.zero_or];exact e) (by rw [Nat.zero_or];exact Z2g hs.next) (by rw [Nat.zero_or];exact h2)
   rwa [Nat.add_zero] at this
theorem Z85 {n a b:Nat} (h:a&&&b=0):cnt n (a|||b)=cnt n a+cnt n b:=by
 unfold cnt
 have h:=and_zero.1 h
 induction (List.range n) with
 | nil=>rfl
 | cons x l ih =>
   simp only [List.countP_cons,ih,Nat.testBit_or]
   have:=h x
   cases ha:a.testBit x<;>cases hb:b.testBit x<;>simp_all<;>omega
theorem Zid {a b n:Nat} (ha:a<2 ^ n) (hb:b<2 ^ n):a|||b<2 ^ n:=Nat.or_lt_two_pow ha hb
theorem Pl.shut {gs:List Gp} {K sp m c n:Nat} (h:Pl gs K sp m c n):c<2 ^ gs.length→∃ C,C<2 ^ gs.length∧(∀ i,c.testBit i=true→C.testBit i=true)∧cnt gs.length C=cnt gs.length c+n∧Shut gs C m K:=by
 induction h with
 | @stay m c l hl hc hs he hk =>
   intro hcl
   refine ⟨c|||l,Zid hcl hl,fun i hi=>by rw [Nat.testBit_or,hi];rfl,Z85 (by rw [Nat.and_comm];exact hc),fun t v hv=>?_⟩
   have:lv gs (c|||l) m t=m:=by
     have:=Z3f (gs:=gs) (cl:=c|||l) (m:=m) (t:=0) he t
     rwa [Nat.zero_add] at this
   rw [this] at hv
   exact and_zero.1 hk v hv
 | @go m c l n hl hc hs hne hk h ih =>
   intro hcl
   obtain ⟨C,h1,h2,h3,h4⟩:=ih (Zid hcl hl)
   refine ⟨C,h1,fun i hi=>h2 i (by rw [Nat.testBit_or,hi];rfl),?_,h4.mono fun v hv=>Z1e hv⟩
   rw [h3,Z85 (by rw [Nat.and_comm];exact hc)];omega
theorem Pl.cut {gs:List Gp} {K sp S n m:Nat} (h:Pl gs K sp S 0 n) (hc:Cut gs S K m):m≤n:=by
 obtain ⟨C,h1,_,h3,h4⟩:=h.shut (Nat.two_pow_pos _)
 rw [Z1y,Nat.zero_add] at h3
 exact hc.2 n ⟨C,h1,h4,h3⟩
theorem Cut.plan {gs:List Gp} {K sp S m:Nat} (hw:Wth gs 7) (hS:S<2 ^ 7) (hc:Cut gs S K m) (hm:m≤sp):Lst (Pl gs K sp S 0) m:=by
 refine ⟨?_,fun n hn=>hn.cut hc⟩
 obtain ⟨⟨C,h1,h2,h3⟩,_⟩:=hc
 have:=Pl.once (sp:=sp) hw hS h1 h2 (by omega)
 rwa [h3] at this
theorem Zdl {gs:List Gp} {S K:Nat} (ht:Two gs S K):Shut gs (2 ^ gs.length-1) S K:=fun t v hv=>by
 have:∀ t,lv gs (2 ^ gs.length-1) S t=S:=by
   intro t
   have e:spr gs (2 ^ gs.length-1) S=S:=Z0v fun v=>by
     rw [Bool.eq_iff_iff,spr_test]
     constructor
     · rintro (h | ⟨u,_,i,g,h2,h3,_⟩)
       · exact h
       · have:=(List.getElem?_eq_some_iff.1 h2).1
         rw [Nat.testBit_two_pow_sub_one,decide_eq_true this] at h3;cases h3
     · exact .inl
   have:=Z3f (gs:=gs) (cl:=2 ^ gs.length-1) (m:=S) (t:=0) e t
   rwa [Nat.zero_add] at this
 rw [this] at hv
 exact ht.no v hv
theorem Z9D (a b:Nat):(a&&&b)%2=(a%2)*(b%2):=by
 have h:=Nat.testBit_and a b 0
 rw [Nat.testBit_zero,Nat.testBit_zero,Nat.testBit_zero] at h
 rcases Nat.mod_two_eq_zero_or_one a with ha | ha<;>rcases Nat.mod_two_eq_zero_or_one b with hb | hb<;>rcases Nat.mod_two_eq_zero_or_one (a&&&b) with hc | hc<;>rw [ha,hb,hc] at h<;>simp_all
theorem Z5V:∀ (n:Nat) {all now s:Nat},all<2 ^ n→now&&&all=now→s&&&all=s→s<now→s≤(now-1)&&&all
 | 0,all,now,s,h,h1,_,h3=>by
   obtain rfl:all=0:=by simpa using h
   rw [Nat.and_zero] at h1;omega
 | n+1,all,now,s,h,h1,h2,h3=>by
   have a1:=congrArg (· / 2) h1
   have a2:=congrArg (· / 2) h2
   have b1:=congrArg (· % 2) h1
   have b2:=congrArg (· % 2) h2
   simp only [Nat.and_div_two,Z9D] at a1 a2 b1 b2
   have hA:all / 2<2 ^ n:=by rw [Nat.pow_succ] at h;omega
   have e:(now-1)&&&all=2*(((now-1)&&&all) / 2)+((now-1)&&&all)%2:=by omega
   rw [e,Nat.and_div_two,Z9D]
   rcases Nat.mod_two_eq_zero_or_one now with hn | hn
   · have ih:=Z5V n hA a1 a2 (by omega)
     have e2:(now-1) / 2=now / 2-1:=by omega
     have e3:(now-1)%2=1:=by omega
     rw [e2,e3]
     have:s%2≤all%2:=by rw [← b2];rcases Nat.mod_two_eq_zero_or_one s with h4 | h4<;>rw [h4]<;>omega
     omega
   · have e2:(now-1) / 2=now / 2:=by omega
     have e3:(now-1)%2=0:=by omega
     rw [e2,e3,a1];omega
theorem Pl.few {gs:List Gp} {K sp m c n:Nat} (h:Pl gs K sp m c n):n+cnt gs.length c≤gs.length:=by
 induction h with
 | @stay m c l _ hc _ _ _ =>
   have:=Z85 (n:=gs.length) hc
   have:=Z4a gs.length (l|||c)
   omega
 | @go m c l n _ hc _ _ _ _ ih =>
   have:=Z85 (n:=gs.length) hc
   rw [Nat.or_comm] at this
   omega
theorem Lst.ex {P:Nat→Prop}:∀ {n:Nat},P n→∃ m,Lst P m∧m≤n:=by
 intro n
 induction n using Nat.strongRecOn with
 | ind n ih =>
   intro h
   by_cases hx:∃ k,k<n∧P k
   · obtain ⟨k,h1,h2⟩:=hx
     obtain ⟨m,h3,h4⟩:=ih k h1 h2
     exact ⟨m,h3,by omega⟩
   · exact ⟨n,⟨h,fun k hk=>Nat.le_of_not_lt fun hl=>hx ⟨k,hl,hk⟩⟩,Nat.le_refl _⟩
def Cnd (gs:List Gp) (K sp m c l n:Nat):Prop:=(∀ i,l.testBit i=true→(Z0k gs m c).testBit i=true)∧cnt gs.length l≤sp∧spr gs (c|||l) m&&&K=0∧((spr gs (c|||l) m=m∧n=cnt gs.length l)∨(spr gs (c|||l) m≠m∧∃ k,n=cnt gs.length l+k∧Lst (Pl gs K sp (spr gs (c|||l) m) (c|||l)) k))
theorem Cnd.unique {gs:List Gp} {K sp m c l n n':Nat} (h:Cnd gs K sp m c l n) (h':Cnd gs K sp m c l n'):n=n':=by
 rcases h.2.2.2 with ⟨h1,h2⟩ | ⟨h1,k,h2,h3⟩<;>rcases h'.2.2.2 with ⟨h4,h5⟩ | ⟨h4,k',h5,h6⟩
 · omega
 · exact absurd h1 h4
 · exact absurd h4 h1
 · rw [h2,h5,h3.unique h6]
theorem Cnd.pl {gs:List Gp} {K sp m c l n:Nat} (h:Cnd gs K sp m c l n):Pl gs K sp m c n:=by
 obtain ⟨h1,h2,h3,h4⟩:=h
 have hl:l<2 ^ gs.length:=Z0p fun i hi=>by
   obtain ⟨g,h5,_⟩:=usfM_test.1 (h1 i hi)
   exact (List.getElem?_eq_some_iff.1 h5).1
 have hc:l&&&c=0:=and0_iff.2 fun i=>by
   cases hi:l.testBit i with
   | false=>rfl
   | true =>
     obtain ⟨g,_,h6,_⟩:=usfM_test.1 (h1 i hi)
     rw [h6];rfl
 rcases h4 with ⟨h5,h6⟩ | ⟨h5,k,h6,h7⟩
 · exact Pl.of (k:=0) hl hc h2 h3 (.inl ⟨h5,h6⟩)
 · exact Pl.of hl hc h2 h3 (.inr ⟨h5,h6,h7.1⟩)
theorem Cnd.sub {gs:List Gp} {K sp m c l n:Nat} (h:Cnd gs K sp m c l n):l&&&Z0k gs m c=l:=Z0v fun i=>by
 rw [Nat.testBit_and]
 cases hi:l.testBit i with
 | false=>rfl
 | true=>rw [h.1 i hi];rfl
def Z4O (gs:List Gp) (K sp m c n l:Nat) (lost:Bool):Prop:=(lost=true∧n=11∧l=0∧∀ k,¬ Pl gs K sp m c k)∨(lost=false∧n≤10∧Lst (Pl gs K sp m c) n∧Cnd gs K sp m c l n)
structure BI (gs:List Gp) (K sp m c now n l:Nat) (lost:Bool):Prop where
 min:∀ s n',now<s→Cnd gs K sp m c s n'→n≤n'
 is:(lost=true∧n=11∧l=0)∨(lost=false∧n≤10∧Cnd gs K sp m c l n)
theorem Z0a (gs:List Gp) (m c:Nat):Z0k gs m c<2 ^ gs.length:=Z0p fun i hi=>by
 obtain ⟨g,h5,_⟩:=usfM_test.1 hi
 exact (List.getElem?_eq_some_iff.1 h5).1
theorem ZbJ {a b:Nat} (h:a&&&b=a):a≤b:=h▸Nat.and_le_right
theorem BI.start (gs:List Gp) (K sp m c:Nat):BI gs K sp m c (Z0k gs m c) 11 0 true:=⟨fun s n' h1 h2=>absurd (ZbJ h2.sub) (by omega),.inl ⟨rfl,rfl,rfl⟩⟩
theorem BI.le {gs:List Gp} {K sp m c now n l:Nat} {lost:Bool} (h:BI gs K sp m c now n l lost):n≤11:=by rcases h.is with ⟨_,h1,_⟩ | ⟨_,h1,_⟩<;>omega
theorem BI.no {gs:List Gp} {K sp m c now n l:Nat} {lost:Bool} (h:BI gs K sp m c now n l lost) (hu:now&&&Z0k gs m c=now) (h0:now≠0) (hx:∀ n',Cnd gs K sp m c now n'→n≤n'):BI gs K sp m c ((now-1)&&&Z0k gs m c) n l lost:=⟨fun s n' h1 h2=>by
 rcases Nat.lt_trichotomy s now with h3 | h3 | h3
 · have:=Z5V gs.length (Z0a gs m c) hu h2.sub h3;omega
 · subst h3;exact hx n' h2
 · exact h.min s n' h3 h2,h.is⟩
theorem BI.take {gs:List Gp} {K sp m c now n l n2:Nat} {lost:Bool} (h:BI gs K sp m c now n l lost) (hu:now&&&Z0k gs m c=now) (h0:now≠0) (hc:Cnd gs K sp m c now n2) (hl:n2<n):BI gs K sp m c ((now-1)&&&Z0k gs m c) n2 now false:=⟨fun s n' h1 h2=>by
 rcases Nat.lt_trichotomy s now with h3 | h3 | h3
 · have:=Z5V gs.length (Z0a gs m c) hu h2.sub h3;omega
 · subst h3;rw [hc.unique h2];exact Nat.le_refl _
 · have:=h.min s n' h3 h2;omega,.inr ⟨rfl,by have:=h.le;omega,hc⟩⟩
theorem BI.done {gs:List Gp} {K sp m c n l:Nat} {lost:Bool} (hg:gs.length≤10) (hmin:∀ s n',Cnd gs K sp m c s n'→n≤n') (is:(lost=true∧n=11∧l=0)∨(lost=false∧n≤10∧Cnd gs K sp m c l n)):Z4O gs K sp m c n l lost:=by
 have key:∀ k,Pl gs K sp m c k→∃ s n',Cnd gs K sp m c s n'∧n'≤k:=fun k hk=>by
   obtain ⟨s,n',h1,h2,h3,h4,h5,h6⟩:=hk.first
   rcases h6 with ⟨h7,h8⟩ | ⟨h7,k2,h8,h9⟩
   · exact ⟨s,n',⟨h3,h4,h5,.inl ⟨h7,h8⟩⟩,h1⟩
   · obtain ⟨k3,h10,h11⟩:=Lst.ex h9
     exact ⟨s,cnt gs.length s+k3,⟨h3,h4,h5,.inr ⟨h7,k3,rfl,h10⟩⟩,by omega⟩
 rcases is with ⟨h1,h2,h3⟩ | ⟨h1,h2,h3⟩
 · refine .inl ⟨h1,h2,h3,fun k hk=>?_⟩
   obtain ⟨s,n',h4,h5⟩:=key k hk
   have:=hmin s n' h4
   have:=h4.pl.few
   omega
 · refine .inr ⟨h1,h2,⟨h3.pl,fun k hk=>?_⟩,h3⟩
   obtain ⟨s,n',h4,h5⟩:=key k hk
   have:=hmin s n' h4
   omega
theorem BI.endNo {gs:List Gp} {K sp m c n l:Nat} {lost:Bool} (hg:gs.length≤10) (h:BI gs K sp m c 0 n l lost) (hx:∀ n',Cnd gs K sp m c 0 n'→n≤n'):Z4O gs K sp m c n l lost:=BI.done hg (fun s n' h2=>by
 rcases Nat.eq_zero_or_pos s with h3 | h3
 · subst h3;exact hx n' h2
 · exact h.min s n' h3 h2) h.is
theorem BI.endTake {gs:List Gp} {K sp m c n l n2:Nat} {lost:Bool} (hg:gs.length≤10) (h:BI gs K sp m c 0 n l lost) (hc:Cnd gs K sp m c 0 n2) (hl:n2<n):Z4O gs K sp m c n2 0 false:=BI.done hg (fun s n' h2=>by
 rcases Nat.eq_zero_or_pos s with h3 | h3
 · subst h3;rw [hc.unique h2];exact Nat.le_refl _
 · have:=h.min s n' h3 h2;omega) (.inr ⟨rfl,by have:=h.le;omega,hc⟩)
theorem Z3U {gs:List Gp} {cl m:Nat} (h:spr gs cl m≠m):m<spr gs cl m:=by
 have h1:m&&&spr gs cl m=m:=Z0v fun i=>by
   rw [Nat.testBit_and]
   cases hi:m.testBit i with
   | false=>rfl
   | true=>rw [Z1e hi];rfl
 have:=ZbJ h1
 omega
def Zk8 (gs:List Gp) (K sp m c l:Nat):Prop:=l<2 ^ gs.length∧l&&&c=0∧cnt gs.length l≤sp∧spr gs (c|||l) m&&&K=0
def Seg (gs:List Gp) (K sp:Nat):Nat→Nat→List Nat→Nat→Nat→Prop
 | m,c,[],m',c'=>m'=m∧c'=c
 | m,c,l::ls,m',c'=>Zk8 gs K sp m c l∧Seg gs K sp (spr gs (c|||l) m) (c|||l) ls m' c'
theorem Seg.snoc {gs:List Gp} {K sp:Nat}:∀ {ls:List Nat} {m c m' c' l:Nat},Seg gs K sp m c ls m' c'→Zk8 gs K sp m' c' l→Seg gs K sp m c (ls++[l]) (spr gs (c'|||l) m') (c'|||l)
 | [],m,c,m',c',l,⟨h1,h2⟩,hw=>by subst h1;subst h2;exact ⟨hw,rfl,rfl⟩
 | x::ls,m,c,m',c',l,⟨h1,h2⟩,hw=>⟨h1,Seg.snoc h2 hw⟩
def Zc9 (gs:List Gp):List Nat→Nat
 | []=>0
 | l::ls=>cnt gs.length l+Zc9 gs ls
theorem Z21 (gs:List Gp) (l:Nat):∀ ls,Zc9 gs (ls++[l])=Zc9 gs ls+cnt gs.length l
 | []=>by simp [Zc9]
 | x::ls=>by
   rw [List.cons_append]
   unfold Zc9
   rw [Z21 gs l ls];omega
def RunP (gs:List Gp) (K sp m c:Nat) (ls:List Nat):Prop:=∃ m' c',Seg gs K sp m c ls m' c'∧Shut gs c' m' K
theorem Cnd.wk {gs:List Gp} {K sp m c l n:Nat} (h:Cnd gs K sp m c l n):Zk8 gs K sp m c l:=by
 obtain ⟨h1,h2,h3,_⟩:=h
 refine ⟨Z0p fun i hi=>by
   obtain ⟨g,h5,_⟩:=usfM_test.1 (h1 i hi)
   exact (List.getElem?_eq_some_iff.1 h5).1,and0_iff.2 fun i=>?_,h2,h3⟩
 cases hi:l.testBit i with
 | false=>rfl
 | true =>
   obtain ⟨g,_,h6,_⟩:=usfM_test.1 (h1 i hi)
   rw [h6];rfl
theorem RunP.once {gs:List Gp} {K sp S C:Nat} (hs:Shut gs C S K) (hC:C<2 ^ gs.length) (hn:cnt gs.length C≤sp):RunP gs K sp S 0 [C] :=
 ⟨spr gs (0|||C) S,0|||C,⟨⟨hC,Nat.and_zero _,hn,by rw [Nat.zero_or];exact Z2g hs.next⟩,rfl,rfl⟩,by rw [Nat.zero_or];exact hs.next⟩
theorem RunP.stop {gs:List Gp} {K sp S c0 m c l n:Nat} {ls:List Nat} (h:Seg gs K sp S c0 ls m c) (hc:Cnd gs K sp m c l n) (he:spr gs (c|||l) m=m):RunP gs K sp S c0 (ls++[l]):=by
 refine ⟨_,_,h.snoc hc.wk,fun t v hv=>?_⟩
 have h0:=hc.2.2.1
 rw [he] at hv h0
 have hst:=Z3f (gs:=gs) (cl:=c|||l) (m:=m) (t:=0) he t
 rw [Nat.zero_add] at hst
 rw [hst] at hv
 exact and_zero.1 h0 v hv
theorem ZaG {gs:List Gp} (hg:gs.length≤10) (X:Nat):Z2U (msk (Z2n X gs))=Z2n X gs:=by
 obtain ⟨t,h1,h2,_⟩:=Zfq (y:=(List.range gs.length).filter fun i=>match gs[i]? with | some g=>crs X g | none=>false) hg (List.pairwise_lt_range.filter _) (fun j hj=>List.mem_range.1 (List.mem_filter.1 hj).1)
 have h3:Z2U t=Z2n X gs:=h2
 rw [← h3,Zd4 (Nat.lt_of_lt_of_le h1 (Nat.pow_le_pow_right (by decide) hg))]
def plD (gs:List Gp) (K sp:Nat):Nat→Nat→Nat→Nat→Bool
 | 0,_,_,_=>false
 | f+1,m,c,n=>(List.range (2 ^ gs.length)).any fun l=>Nat.beq (l&&&c) 0&&Nat.ble (cnt gs.length l) sp&&Nat.ble (cnt gs.length l) n&&Nat.beq (spr gs (c|||l) m&&&K) 0&&(Nat.beq (spr gs (c|||l) m) m||plD gs K sp f (spr gs (c|||l) m) (c|||l) (n-cnt gs.length l))
theorem Z5M {gs:List Gp} {K sp:Nat}:∀ {f m c n:Nat},plD gs K sp f m c n=true→∃ k,k≤n∧Pl gs K sp m c k
 | 0,_,_,_,h=>by cases h
 | f+1,m,c,n,h=>by
   unfold plD at h
   obtain ⟨l,hl,h1⟩:=List.any_eq_true.1 h
   simp only [Bool.and_eq_true,Bool.or_eq_true,Nat.beq_eq,Nat.ble_eq] at h1
   obtain ⟨⟨⟨⟨h2,h3⟩,h4⟩,h5⟩,h6⟩:=h1
   have hl:=List.mem_range.1 hl
   by_cases he:spr gs (c|||l) m=m
   · exact ⟨_,h4,Pl.of (k:=0) hl h2 h3 h5 (.inl ⟨he,rfl⟩)⟩
   · obtain ⟨k,h7,h8⟩:=Z5M (h6.resolve_left he)
     exact ⟨cnt gs.length l+k,by omega,Pl.of hl h2 h3 h5 (.inr ⟨he,rfl,h8⟩)⟩
theorem Z7x {gs:List Gp} {K sp:Nat} (hw:Wth gs 7):∀ {f m c n k:Nat},m<2 ^ 7→8≤f+cnt 7 m→Pl gs K sp m c k→k≤n→plD gs K sp f m c n=true
 | 0,m,_,_,_,hm,hf,_,_=>by have:=Z4a 7 m;omega
 | f+1,m,c,n,k,hm,hf,h,hk=>by
   obtain ⟨l,hl,hc,hs,h1,h2⟩:=h.cons_inv
   unfold plD
   refine List.any_eq_true.2 ⟨l,List.mem_range.2 hl,?_⟩
   simp only [Bool.and_eq_true,Bool.or_eq_true,Nat.beq_eq,Nat.ble_eq]
   rcases h2 with ⟨h3,h4⟩ | ⟨h3,k',h4,h5⟩
   · exact ⟨⟨⟨⟨hc,hs⟩,by omega⟩,h1⟩,.inl h3⟩
   · have hn:=Z4B hw hm h3
     exact ⟨⟨⟨⟨hc,hs⟩,by omega⟩,h1⟩,.inr (Z7x hw (Z4A hw hm) (by omega) h5 (by omega))⟩
theorem Zbt {gs:List Gp} {K sp m c n:Nat} (hw:Wth gs 7) (hm:m<2 ^ 7) (h1:plD gs K sp 8 m c (n+1)=true) (h2:plD gs K sp 8 m c n=false):Lst (Pl gs K sp m c) (n+1):=by
 have key:∀ k,Pl gs K sp m c k→n+1≤k:=fun k hk=>Nat.lt_of_not_le fun hle=>by
   rw [Z7x hw hm (by omega) hk hle] at h2;cases h2
 obtain ⟨k,h3,h4⟩:=Z5M h1
 have:=key k h4
 obtain rfl:k=n+1:=by omega
 exact ⟨h4,key⟩
def lvp (gs:List Gp) (cl:Nat→Nat) (m:Nat):Nat→Nat
 | 0=>m
 | t+1=>spr gs (cl t) (lvp gs cl m t)
theorem Z6C {gs:List Gp} {cl:Nat→Nat} {m:Nat}:∀ {t t':Nat},t≤t'→∀ {v:Nat},(lvp gs cl m t).testBit v=true→(lvp gs cl m t').testBit v=true
 | t, 0, h, v, hv => by obtain rfl : t = 0 := by omega
                        exact hv
 | t,t'+1,h,v,hv=>by
   rcases Nat.lt_or_ge t' t with h1 | h1
   · obtain rfl:t=t'+1:=by omega
     exact hv
   · exact Z1e (Z6C h1 hv)
def fol (gs:List Gp) (cl:Nat→Nat) (m n k:Nat):Int:=match (List.range (n+1)).find? fun t=>(lvp gs cl m t).testBit k with
 | some t=>(t:Int)
 | none=>100
theorem Z6w (gs:List Gp) (cl:Nat→Nat) (m n k:Nat):(∃ t:Nat,t≤n∧fol gs cl m n k=t∧(lvp gs cl m t).testBit k=true∧∀ i:Nat,i<t→(lvp gs cl m i).testBit k=false)∨(fol gs cl m n k=100∧∀ i:Nat,i≤n→(lvp gs cl m i).testBit k=false):=by
 unfold fol
 rcases hf:(List.range (n+1)).find? fun t=>(lvp gs cl m t).testBit k with _ | t
 · refine .inr ⟨rfl,fun i hi=>?_⟩
   have:=List.find?_eq_none.1 hf i (List.mem_range.2 (by omega))
   simpa using this
 · obtain ⟨h1,lp,lq,h2,h3⟩:=List.find?_eq_some_iff_append.1 hf
   have hm:t∈List.range (n+1):=by rw [h2];simp
   refine .inl ⟨t,by have:=List.mem_range.1 hm;omega,rfl,h1,fun i hi=>?_⟩
   have hi7:i∈List.range (n+1):=List.mem_range.2 (by have:=List.mem_range.1 hm;omega)
   have hp:=List.pairwise_lt_range (n:=n+1)
   rw [h2] at hi7 hp
   rw [List.pairwise_append] at hp
   rcases List.mem_append.1 hi7 with h4 | h4
   · have:=h3 i h4;simpa using this
   · rcases List.mem_cons.1 h4 with rfl | h4
     · omega
     · have:=(List.pairwise_cons.1 hp.2.1).1 i h4;omega
theorem Z8h {gs:List Gp} {cl:Nat→Nat} {m n k:Nat} (h:(lvp gs cl m n).testBit k=true):∃ t:Nat,t≤n∧fol gs cl m n k=t∧(lvp gs cl m t).testBit k=true∧∀ i:Nat,i<t→(lvp gs cl m i).testBit k=false:=by
 rcases Z6w gs cl m n k with h1 | ⟨_,h1⟩
 · exact h1
 · rw [h1 n (Nat.le_refl _)] at h;cases h
theorem ZaY {gs:List Gp} {cl:Nat→Nat} {m n k:Nat} (h:(lvp gs cl m n).testBit k=false):fol gs cl m n k=100:=by
 rcases Z6w gs cl m n k with ⟨t,h1,_,h3,_⟩ | ⟨h1,_⟩
 · rw [Z6C h1 h3] at h;cases h
 · exact h1
theorem ZaX {gs:List Gp} {cl:Nat→Nat} {m n k t:Nat} (h1:t≤n) (h2:(lvp gs cl m t).testBit k=true) (h3:∀ i:Nat,i<t→(lvp gs cl m i).testBit k=false):fol gs cl m n k=t:=by
 obtain ⟨t',_,h5,h6,h7⟩:=Z8h (Z6C h1 h2)
 rw [h5]
 rcases Nat.lt_trichotomy t t' with h | h | h
 · rw [h7 t h] at h2;cases h2
 · rw [h]
 · rw [h3 t' h] at h6;cases h6
theorem ZcQ {gs:List Gp} {cl:Nat→Nat} {m n k:Nat}:fol gs cl m (n+1) k=bif (lvp gs cl m n).testBit k then fol gs cl m n k else bif (lvp gs cl m (n+1)).testBit k then ((n+1:Nat):Int) else 100:=by
 cases h:(lvp gs cl m n).testBit k with
 | true =>
   obtain ⟨t,h1,h2,h3,h4⟩:=Z8h h
   rw [cond_true,h2]
   exact ZaX (by omega) h3 h4
 | false =>
   rw [cond_false]
   cases h5:(lvp gs cl m (n+1)).testBit k with
   | true =>
     rw [cond_true]
     refine ZaX (Nat.le_refl _) h5 fun i hi=>?_
     cases h6:(lvp gs cl m i).testBit k with
     | false=>rfl
     | true=>rw [Z6C (show i≤n by omega) h6] at h;cases h
   | false=>exact ZaY h5
def Z6Z (gs:List Gp) (cl s:Nat):Nat→Nat
 | 0=>s
 | i+1=>match gs[i]? with
   | some g=>bif cl.testBit i then Z6Z gs cl s i else Z6Z gs cl s i|||gpo s g
   | none=>Z6Z gs cl s i
theorem Z67 {gs:List Gp} {cl s v:Nat}:∀ i,(Z6Z gs cl s i).testBit v=true↔s.testBit v=true∨∃ j g,j<i∧gs[j]?=some g∧cl.testBit j=false∧(gpo s g).testBit v=true
 | 0=>by
   show s.testBit v=true↔_
   exact ⟨.inl,fun h=>h.elim id fun ⟨j,_,hj,_⟩=>absurd hj (Nat.not_lt_zero _)⟩
 | i+1=>by
   have ih:=Z67 (gs:=gs) (cl:=cl) (s:=s) (v:=v) i
   have up:(Z6Z gs cl s i).testBit v=true→(s.testBit v=true∨∃ j g,j<i+1∧gs[j]?=some g∧cl.testBit j=false∧(gpo s g).testBit v=true):=fun h=>(ih.1 h).imp id fun ⟨j,g,h1,h2⟩=>⟨j,g,by omega,h2⟩
   unfold Z6Z
   cases hg:gs[i]? with
   | none =>
     refine ⟨up,fun h=>ih.2 (h.imp id fun ⟨j,g,h1,h2,h3⟩=>⟨j,g,?_,h2,h3⟩)⟩
     rcases Nat.lt_or_ge j i with h4 | h4
     · exact h4
     · obtain rfl:j=i:=by omega
       rw [hg] at h2;cases h2
   | some g0 =>
     dsimp only
     cases hc:cl.testBit i with
     | true =>
       rw [cond_true]
       refine ⟨up,fun h=>ih.2 (h.imp id fun ⟨j,g,h1,h2,h3⟩=>⟨j,g,?_,h2,h3⟩)⟩
       rcases Nat.lt_or_ge j i with h4 | h4
       · exact h4
       · obtain rfl:j=i:=by omega
         rw [hc] at h3;cases h3.1
     | false =>
       rw [cond_false,Nat.testBit_or,Bool.or_eq_true]
       refine ⟨fun h=>h.elim up fun h=>.inr ⟨i,g0,by omega,hg,hc,h⟩,fun h=>?_⟩
       rcases h with h | ⟨j,g,h1,h2,h3,h4⟩
       · exact .inl (ih.2 (.inl h))
       · rcases Nat.lt_or_ge j i with h5 | h5
         · exact .inl (ih.2 (.inr ⟨j,g,h5,h2,h3,h4⟩))
         · obtain rfl:j=i:=by omega
           rw [hg] at h2
           obtain rfl:=Option.some.inj h2
           exact .inr h4
theorem Zca (gs:List Gp) (cl s:Nat):Z6Z gs cl s gs.length=spr gs cl s:=Z0v fun v=>by
 rw [Bool.eq_iff_iff,Z67]
 unfold spr
 rw [Z30]
 refine or_congr Iff.rfl ⟨fun ⟨j,g,_,h2,h3,h4⟩=>⟨j,g,h2,by rw [Nat.zero_add];exact h3,h4⟩,fun ⟨j,g,h2,h3,h4⟩=>⟨j,g,(List.getElem?_eq_some_iff.1 h2).1,h2,by rw [Nat.zero_add] at h3;exact h3,h4⟩⟩
structure FolI (gs:List Gp) (cl:Nat→Nat) (m n w acc:Nat) (o:List Int):Prop where
 len:o.length=n
 at_:∀ k<n,na o k=bif (lvp gs cl m w).testBit k then fol gs cl m w k else bif acc.testBit k then ((w+1:Nat):Int) else 100
theorem FolI.reached {gs:List Gp} {cl:Nat→Nat} {m n w acc:Nat} {o:List Int} (h:FolI gs cl m n w acc o) (hw:w<99) {k:Nat} (hk:k<n):na o k≤w↔(lvp gs cl m w).testBit k=true:=by
 have h1:=h.at_ k hk
 cases hb:(lvp gs cl m w).testBit k with
 | true =>
   rw [hb,cond_true] at h1
   obtain ⟨t,h2,h3,_⟩:=Z8h hb
   exact ⟨fun _=>rfl,fun _=>by omega⟩
 | false =>
   rw [hb,cond_false] at h1
   refine ⟨fun h2=>?_,fun h2=>by cases h2⟩
   cases ha:acc.testBit k with
   | true=>rw [ha,cond_true] at h1;omega
   | false=>rw [ha,cond_false] at h1;omega
theorem FolI.bd {gs:List Gp} {cl:Nat→Nat} {m n w acc:Nat} {o:List Int} (h:FolI gs cl m n w acc o) (hw:w<99) {k:Nat} (hk:k<n):0≤na o k∧na o k≤100:=by
 have h1:=h.at_ k hk
 cases hb:(lvp gs cl m w).testBit k with
 | true =>
   rw [hb,cond_true] at h1
   obtain ⟨t,h2,h3,_⟩:=Z8h hb
   omega
 | false =>
   rw [hb,cond_false] at h1
   cases ha:acc.testBit k with
   | true=>rw [ha,cond_true] at h1;omega
   | false=>rw [ha,cond_false] at h1;omega
theorem FolI.way {gs:List Gp} {cl:Nat→Nat} {m n w acc:Nat} {o:List Int} (h:FolI gs cl m n w acc o) (hw:w<99) {u v:Nat} (hu:u<n) (hv:v<n) (h1:na o u≤w) (h2:(w:Int)<na o v):FolI gs cl m n w (acc|||(bif (lvp gs cl m w).testBit u then 2 ^ v else 0)) (o.set v (min (na o v) ((w:Int)+1))):=by
 have hl:=h.len
 refine ⟨by rw [List.length_set];exact hl,fun k hk=>?_⟩
 have hub:=(h.reached hw hu).1 h1
 have hvb:(lvp gs cl m w).testBit v=false:=by
   cases hb:(lvp gs cl m w).testBit v with
   | false=>rfl
   | true=>have:=(h.reached hw hv).2 hb;omega
 rw [hub,cond_true,Nat.testBit_or,Nat.testBit_two_pow]
 by_cases e:v=k
 · subst e
   have h3:=h.at_ v hv
   rw [hvb,cond_false] at h3 ⊢
   rw [show decide (v=v)=true from decide_eq_true rfl,Bool.or_true,cond_true]
   have:na (o.set v (min (na o v) ((w:Int)+1))) v=min (na o v) ((w:Int)+1):=by
     unfold na;rw [List.getD_eq_getElem?_getD,List.getElem?_set_self (by omega)];rfl
   rw [this]
   cases ha:acc.testBit v with
   | true=>rw [ha,cond_true] at h3;omega
   | false=>rw [ha,cond_false] at h3;omega
 · have:na (o.set v (min (na o v) ((w:Int)+1))) k=na o k:=by
     unfold na;simp only [List.getD_eq_getElem?_getD,List.getElem?_set_ne e]
   rw [this,show decide (v=k)=false from decide_eq_false e,Bool.or_false]
   exact h.at_ k hk
theorem FolI.shut {gs:List Gp} {cl:Nat→Nat} {m n w i:Nat} {o:List Int} (hc:(cl w).testBit i=true) (h:FolI gs cl m n w (Z6Z gs (cl w) (lvp gs cl m w) i) o):FolI gs cl m n w (Z6Z gs (cl w) (lvp gs cl m w) (i+1)) o:=by
 have:Z6Z gs (cl w) (lvp gs cl m w) (i+1)=Z6Z gs (cl w) (lvp gs cl m w) i:=by
   rw [Z6Z]
   cases gs[i]? with
   | none=>rfl
   | some g=>dsimp only;rw [hc];rfl
 rw [this];exact h
theorem FolI.week {gs:List Gp} {cl:Nat→Nat} {m n w:Nat} {o:List Int} (h:FolI gs cl m n w (Z6Z gs (cl w) (lvp gs cl m w) gs.length) o):FolI gs cl m n (w+1) (Z6Z gs (cl (w+1)) (lvp gs cl m (w+1)) 0) o:=by
 rw [Zca] at h
 refine ⟨h.len,fun k hk=>?_⟩
 rw [h.at_ k hk]
 have hs:=ZcQ (gs:=gs) (cl:=cl) (m:=m) (n:=w) (k:=k)
 show _=bif (lvp gs cl m (w+1)).testBit k then fol gs cl m (w+1) k else bif (lvp gs cl m (w+1)).testBit k then _ else 100
 rw [hs,show spr gs (cl w) (lvp gs cl m w)=lvp gs cl m (w+1) from rfl]
 cases h1:(lvp gs cl m (w+1)).testBit k with
 | true=>rw [cond_true,cond_true]
 | false =>
   cases h2:(lvp gs cl m w).testBit k with
   | true=>rw [Z6C (Nat.le_succ w) h2] at h1;cases h1
   | false=>rfl
def ZiO (gs:List Gp) (cl:Nat→Nat) (m n:Nat):List Int:=(List.range n).map (fol gs cl m 20)
theorem ZcP (gs:List Gp) (cl:Nat→Nat) (m n:Nat):(ZiO gs cl m n).length=n:=by simp [ZiO]
theorem FolI.done {gs:List Gp} {cl:Nat→Nat} {m n acc:Nat} {o:List Int} (h:FolI gs cl m n 20 acc o) (ha:acc=lvp gs cl m 20):o=ZiO gs cl m n:=by
 subst ha
 apply List.ext_getElem?
 intro k
 rcases Nat.lt_or_ge k n with hk | hk
 · have h1:=h.at_ k hk
   have h2:o[k]?=some (na o k):=by unfold na;rw [List.getD_eq_getElem?_getD,List.getElem?_eq_getElem (by rw [h.len];exact hk)];rfl
   rw [h2,h1]
   unfold ZiO
   rw [List.getElem?_map,List.getElem?_range hk]
   show _=some (fol gs cl m 20 k)
   cases hb:(lvp gs cl m 20).testBit k with
   | true=>rfl
   | false=>rw [ZaY hb];rfl
 · rw [List.getElem?_eq_none (by rw [h.len];exact hk),List.getElem?_eq_none (by rw [ZcP];exact hk)]
theorem adj_mem {gs:List Gp} {u v:Nat}:Adj gs 0 u v↔∃ g∈gs,(g.a.toNat=u∧g.b.toNat=v)∨(g.b.toNat=u∧g.a.toNat=v):=by
 constructor
 · rintro ⟨i,g,h1,_,h3⟩;exact ⟨g,List.mem_of_getElem? h1,h3⟩
 · rintro ⟨g,h1,h3⟩
   obtain ⟨i,hi⟩:=List.getElem?_of_mem h1
   exact ⟨i,g,hi,Nat.zero_testBit _,h3⟩
def wkN (gs:List Gp) (m k:Nat):Int:=bif decide (far≤wk gs 0 m k) then -1 else wk gs 0 m k
theorem wkN_cases (gs:List Gp) (m k:Nat):(wkN gs m k = -1∧wk gs 0 m k=far)∨(wkN gs m k=wk gs 0 m k∧0≤wk gs 0 m k∧wk gs 0 m k≤6):=by
 have h:=Z9n gs 0 m k
 unfold wkN
 by_cases h1:far≤wk gs 0 m k
 · rw [decide_eq_true h1];exact .inl ⟨rfl,by omega⟩
 · rw [decide_eq_false h1];exact .inr ⟨rfl,by omega⟩
theorem wkN_adj {gs:List Gp} {m u v:Nat} (hw:Wth gs 7) (hm:m<2 ^ 7) (ha:Adj gs 0 u v):(wkN gs m u<0↔wkN gs m v<0)∧wkN gs m u-wkN gs m v≤1∧wkN gs m v-wkN gs m u≤1:=by
 have h1:=ZbW hw hm ha
 have h2:=ZbW hw hm ha.symm
 have hf:far=1048576:=rfl
 rcases wkN_cases gs m u with ⟨a1,a2⟩ | ⟨a1,a2⟩<;>rcases wkN_cases gs m v with ⟨b1,b2⟩ | ⟨b1,b2⟩<;>rw [a1,b1]<;>omega
theorem Zeu {h:Hse} (hk:h.ok) {ss:List Sgt} (hs:SOk h ss) (hy:∀ s∈ss,s.seen=true):h.agr ss=true:=by
 refine (Z71 hk hs).2 ⟨2 ^ h.bins.toNat-1,by have:=Nat.two_pow_pos h.bins.toNat;omega,List.all_eq_true.2 fun s h1=>?_⟩
 have h2:=hs s h1
 unfold exS
 rw [hy s h1,ZbX (by rw [Nat.testBit_two_pow_sub_one];exact decide_eq_true (by omega)),decide_eq_true h2.1.1];rfl
theorem ZfT (gs:List Gp) (k:Nat):wk gs 0 0 k=far:=by
 rcases Z2k gs 0 0 k with ⟨t,_,_,h3,_⟩ | ⟨h1,_⟩
 · rw [Z5E,Nat.zero_testBit] at h3;cases h3
 · exact h1
theorem Zg7 {h:Hse} (hk:h.ok) {ss:List Sgt} (hs:SOk h ss) (hn:∀ s∈ss,s.seen=false):h.agr ss=true:=by
 refine (Z71 hk hs).2 ⟨0,Nat.two_pow_pos _,List.all_eq_true.2 fun s h1=>?_⟩
 have h2:=hs s h1
 unfold exS
 rw [hn s h1,ZfT,decide_eq_false (by unfold far;omega)];rfl
def Z1s (ss:List Sgt) (l:List Int):List Sgt:=l.filterMap fun i=>ss[i.toNat]?
theorem Zdc {ss:List Sgt} {l:List Int} {s:Sgt} (h:s∈Z1s ss l):s∈ss:=by
 obtain ⟨i,_,h2⟩:=List.mem_filterMap.1 h
 exact List.mem_of_getElem? h2
def Hse.claS (h:Hse):Option (List Int):=Z3C (fun l=>!h.agr (Z1s h.sights l)) h.sights.length
structure Cla (h:Hse) (x:List Int):Prop where
 lt:∀ i∈x,0≤i∧i<h.sights.length
 srt:x.Pairwise (· < ·)
 no:h.agr (Z1s h.sights x)=false
 less:∀ k<x.length,h.agr (Z1s h.sights (x.eraseIdx k))=true
theorem Cla.two {h:Hse} (hk:h.ok) {x:List Int} (hc:Cla h x):(∃ s∈Z1s h.sights x,s.seen=true)∧∃ s∈Z1s h.sights x,s.seen=false:=by
 have hs:SOk h (Z1s h.sights x):=fun s h1=>hk.sights s (Zdc h1)
 constructor
 · apply Classical.byContradiction
   intro hn
   have:=Zg7 hk hs fun s h1=>by
     cases hb:s.seen with
     | false=>rfl
     | true=>exact absurd ⟨s,h1,hb⟩ hn
   rw [hc.no] at this;cases this
 · apply Classical.byContradiction
   intro hn
   have:=Zeu hk hs fun s h1=>by
     cases hb:s.seen with
     | true=>rfl
     | false=>exact absurd ⟨s,h1,hb⟩ hn
   rw [hc.no] at this;cases this
theorem Cla.len {h:Hse} (hk:h.ok) {x:List Int} (hc:Cla h x):2≤x.length:=by
 obtain ⟨⟨s,h1,h2⟩,t,h3,h4⟩:=hc.two hk
 have hle:(Z1s h.sights x).length≤x.length:=List.length_filterMap_le _ _
 rcases Nat.lt_or_ge (Z1s h.sights x).length 2 with h5 | h5
 · match hp:Z1s h.sights x,h5 with
   | [],_=>rw [hp] at h1;simp at h1
   | [a],_ =>
     rw [hp] at h1 h3
     rw [List.mem_singleton] at h1 h3
     rw [h1] at h2;rw [h3] at h4;rw [h2] at h4;cases h4
 · omega
structure Tru (h:Hse) (l:List Int) (ss:List Sgt):Prop where
 ok:SOk h ss
 ex:Z6n h.gaps (msk l) ss=true
theorem Tru.snoc {h:Hse} {l:List Int} {ss:List Sgt} (ht:Tru h l ss) {s:Sgt} (hs:(0≤s.week∧s.week≤9)∧0≤s.bin∧s.bin<h.bins) (he:exS h.gaps (msk l) s=true):Tru h l (ss++[s]):=by
 refine ⟨fun x hx=>?_,?_⟩
 · rcases List.mem_append.1 hx with h1 | h1
   · exact ht.ok x h1
   · rw [List.mem_singleton.1 h1];exact hs
 · unfold Z6n
   rw [List.all_append]
   have:=ht.ex
   unfold Z6n at this
   rw [this,List.all_cons,he];rfl
theorem Tru.agr {h:Hse} {l:List Int} {ss:List Sgt} (hk:h.ok) (hl:∀ x∈l,0≤x∧x<h.bins) (ht:Tru h l ss):h.agr ss=true:=(Z71 hk ht.ok).2 ⟨msk l,msk_lt (fun x hx=>by have:=hl x hx;have:=hk.bins;omega),ht.ex⟩
theorem Pl.idle {gs:List Gp} {K m c n:Nat} (h:Pl gs K 0 m c n):n=0:=by
 have key:∀ {sp m c n:Nat},Pl gs K sp m c n→sp=0→n=0:=by
   intro sp m c n h
   induction h with
   | stay hl hc hs he hk=>intro e;omega
   | go hl hc hs hne hk _ ih=>intro e;have:=ih e;omega
 exact key h rfl
def Spd (gs:List Gp) (S K s:Nat):Prop:=(∃ n,Pl gs K s S 0 n)∧∀ s',s'<s→∀ n,¬ Pl gs K s' S 0 n
theorem Spd.cut {gs:List Gp} {S K s m:Nat} (hw:Wth gs 7) (hS:S<2 ^ 7) (h:Spd gs S K s) (hc:Cut gs S K m):s≤m∧(s=0↔m=0):=by
 have h1:s≤m:=Nat.le_of_not_lt fun hlt=>h.2 m hlt m (hc.plan hw hS (Nat.le_refl _)).1
 refine ⟨h1,fun e=>?_,fun e=>by omega⟩
 subst e
 obtain ⟨n,hn⟩:=h.1
 have h2:=hn.idle
 have h3:=hn.cut hc
 omega
theorem ZcX {n:Int} {l:List Int} (h:∀ x∈l,0≤x∧x<n) (hn:l.Nodup):Z0y n l=0:=by
 unfold Z0y
 have h1:(l.all fun k=>inB k 0 (n-1))=true:=List.all_eq_true.2 fun k hk=>by have:=h k hk;simp [inB];omega
 have h2:(List.range l.length).any (Z7e l)=false:=by
   rw [List.any_eq_false]
   intro i hi hd
   have hi:=List.mem_range.1 hi
   unfold Z7e at hd
   rw [hasI_iff] at hd
   have e:na l i=l[i]:=by unfold na;rw [List.getD_eq_getElem?_getD,List.getElem?_eq_getElem hi];rfl
   rw [e] at hd
   obtain ⟨j,hj,he⟩:=List.mem_iff_getElem.1 hd
   rw [List.length_take] at hj
   rw [List.getElem_take] at he
   exact (List.pairwise_iff_getElem.1 (List.nodup_iff_pairwise_ne.1 hn)) j i (by omega) hi (by omega) he
 rw [h1,h2];rfl
end Go.Proofs.YtcfdanhklbklkaaGreat.Wv
