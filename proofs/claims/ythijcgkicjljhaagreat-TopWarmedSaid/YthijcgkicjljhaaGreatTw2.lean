/- Walks of the functions of the program, and the laws that join them: what the last theorem of this claim needs, in order. -/
import Derived.Test.YthijcgkicjljhaaGreatTw1
namespace Go.Proofs.YthijcgkicjljhaaGreat
set_option linter.unusedSimpArgs false
set_option linter.unusedVariables false
open Go
theorem Zai {P:Program} {k:IntKind} {i:Int} {y:Nat} {c:BoundsCode} (h:0≤i∧i≤y) (w:World):(Instr.sliceBound (.int k i) y c).run P w = .ok i.toNat w:=by
 unfold Instr.sliceBound
 simp only [asIntOf,Sem.run_bind,Sem.run_pure,Result.andThen]
 rw [if_pos h];rfl
section pe
variable {P:Program} {L:Zo} {d:Option Tmp} {ty:TypeId} {pos:String} {af:Array Edge} {g:Option (Nat×Bool)}
def arE (P:Program) (T:Nat):Option (Nat×Nat):=match P.underlying T with | some (.array n e)=>some (n,e) | _=>none
theorem PE.indexI {T len e s i:Nat} {b:Bool} {x y:Operand} {k:IntKind} {l:List Int} (hT:arE P T=some (len,e)) (hE:EQ P 10000 b e s) (hs:b=false→s=1) (hx:ev L x=some (.agg (Zj l).toArray)) (hy:ev L y=some (.int k i)) (hi:i<len) (hl:i*s+s≤l.length) :
   PE P L ⟨d,.index T x y,ty,pos,af,g⟩ (mkv b ((l.drop (i*s)).take s)):=fun ρ hρ w=>by
 unfold arE at hT
 split at hT
 · rename_i n e' hu
   cases hT
   have hsz:=Z50 hE.1.1
   have hp:=Z1a hE hs l (i*s) hl
   simp only [execOp,hρ _ _ hx,hρ _ _ hy,Instr.index,asIntOf,Sem.run_bind,Sem.run_pure,run_underlying hu,Result.andThen]
   rw [if_pos ⟨by omega,by omega⟩]
   simp only [Sem.run_bind,hsz,Result.andThen,Int.toNat_natCast,hp,Sem.run_pure]
 · cases hT
end pe
theorem Zah {a:Option Addr} {sz:Nat} {rows:List (List Value)} {w:World} (h:RowsA a sz rows w) (n:Nat):RowsA a sz (rows.take n) w:=fun i row hi=>by
 rw [List.getElem?_take] at hi
 split at hi
 · exact h i row hi
 · cases hi
theorem St.rowsTake {a:Option Addr} {sz:Nat} {rows:List (List Value)} {H:Z7} {R:Z4} {w:World} [m:MemRows a sz rows R] (h:St H R w) (n:Nat):St H (RowsA a sz (rows.take n)::R) w:=h.also fun _ hg=>Zah (hg _ m.mem) n
section calls
variable {P:Program} {r:Option Nat} {ops:Array Oper} {n:Nat} {L:Zo} {D:List Deferred} {H:Z7} {R:Z4} {K:Act→World→Prop}
 {i:Nat} {ty:TypeId} {pos:String} {af:Array Edge}
end calls
theorem FnV.app {P:Program} {f:FuncId} {a:List Value} {G G2 H:Z7} {R:Z4} {v:Value} (h:FnV P f a ((G++G2)++H) R v):FnV P f a (G++(G2++H)) R v:=by rw [← List.append_assoc];exact h
theorem Yd.app {P:Program} {l:Nat} {a:List Value} {G G2 H:Z7} {R:Z4} {Q:Value→Z7→Z4→Prop} (h:Yd P l a ((G++G2)++H) R Q):Yd P l a (G++(G2++H)) R Q:=by rw [← List.append_assoc];exact h
theorem Yd.mono {P:Program} {l:Nat} {a:List Value} {H:Z7} {R:Z4} {Q Q':Value→Z7→Z4→Prop} (h:Yd P l a H R Q) (hq:∀ v H' R',Q v H' R'→Q' v H' R'):Yd P l a H R Q':=fun w hs=>by
 obtain ⟨f,tm,asg,bo,h1,h2⟩:=h w hs
 exact ⟨f,tm,asg,bo,h1,RoundIn.mono h2 fun e w' ⟨v,H',R',q,he,hs'⟩=>⟨v,H',R',hq _ _ _ q,he,hs'⟩⟩
theorem Z2l (n:Int):0≤IntKind.u32.wrap n∧IntKind.u32.wrap n≤4294967295:=by
 have e:IntKind.u32.wrap n=n%4294967296:=rfl
 rw [e];omega
theorem Z72 {n:Int} (h0:0≤n) (h1:n≤4294967295):IntKind.u32.wrap n=n:=by
 have e:IntKind.u32.wrap n=n%4294967296:=rfl
 rw [e];omega
theorem Z0l {n:Int} (h0 : -9223372036854775808≤n) (h1:n≤9223372036854775807):IntKind.i64.wrap n=n:=by
 have e:IntKind.i64.wrap n=if n%18446744073709551616≥9223372036854775808 then n%18446744073709551616-18446744073709551616 else n%18446744073709551616:=by
   unfold IntKind.wrap
   simp [IntKind.signed,IntKind.bits]
 rw [e]
 split<;>omega
def U32 (m:Int) (v:Value):Prop:=∃ x:Int,v = .int .u32 x∧0≤x∧x≤m
section pe
variable {P:Program} {L:Zo} {d:Option Tmp} {ty:TypeId} {pos:String} {af:Array Edge} {g:Option (Nat×Bool)}
theorem ZbI {op:BinOp} {T:TypeId} {k:IntKind} {m n:Int} (hop:op = .and∨op = .or∨op = .xor∨op = .andNot):binOp op T (.int k m) (.int k n)=Op.intBits op k m n:=by
 rcases hop with rfl | rfl | rfl | rfl<;>simp [binOp]
theorem PE.bits {op:BinOp} {T U:TypeId} {x y:Operand} {k:IntKind} {m n:Int} {v:Value} (hop:op = .and∨op = .or∨op = .xor∨op = .andNot) (hx:ev L x=some (.int k m)) (hy:ev L y=some (.int k n))
   (h:∀ w,(Op.intBits op k m n).run P w = .ok v w):PE P L ⟨d,.binOp op T x y U,ty,pos,af,g⟩ v:=fun ρ hρ w=>by
 have hg:∀ w,(eqGuard op T x y (.int k m) (.int k n)).run P w = .ok () w:=fun w=>by rcases hop with rfl | rfl | rfl | rfl<;>rfl
 simp only [execOp,hρ _ _ hx,hρ _ _ hy,Sem.run_bind,hg,ZbI hop,h,Result.andThen,Sem.run_pure]
theorem PE.xorU {T U:TypeId} {x y:Operand} {m n:Int} (hx:ev L x=some (.int .u32 m)) (hy:ev L y=some (.int .u32 n)):∃ v,PE P L ⟨d,.binOp .xor T x y U,ty,pos,af,g⟩ v∧U32 4294967295 v :=
 ⟨_,PE.bits (by simp) hx hy (fun w=>rfl),_,rfl,Z2l _⟩
theorem PE.mulU {T U:TypeId} {x y:Operand} {m n:Int} (hx:ev L x=some (.int .u32 m)) (hy:ev L y=some (.int .u32 n)):∃ v,PE P L ⟨d,.binOp .mul T x y U,ty,pos,af,g⟩ v∧U32 4294967295 v:=⟨_,PE.mulW hx hy,_,rfl,Z2l _⟩
theorem PE.addU {T U:TypeId} {x y:Operand} {m n:Int} (hx:ev L x=some (.int .u32 m)) (hy:ev L y=some (.int .u32 n)):∃ v,PE P L ⟨d,.binOp .add T x y U,ty,pos,af,g⟩ v∧U32 4294967295 v:=⟨_,PE.addW hx hy,_,rfl,Z2l _⟩
theorem PE.convU {S T:TypeId} {x:Operand} {k:IntKind} {m:Int} (hS:(P.underlying S).isSome=true) (hT:Z7Y P T=some .u32) (hx:ev L x=some (.int k m)):∃ v,PE P L ⟨d,.convert S T x,ty,pos,af,g⟩ v∧U32 4294967295 v:=⟨_,PE.convert hS hT hx,_,rfl,Z2l _⟩
theorem PE.conv64 {S T:TypeId} {x:Operand} {k:IntKind} {m:Int} (hS:(P.underlying S).isSome=true) (hT:Z7Y P T=some .i64) (hx:ev L x=some (.int k m)) (h0 : -9223372036854775808≤m∧m≤9223372036854775807):PE P L ⟨d,.convert S T x,ty,pos,af,g⟩ (.int .i64 m):=by
 have:=PE.convert (P:=P) (L:=L) (d:=d) (ty:=ty) (pos:=pos) (af:=af) (g:=g) hS hT hx
 rwa [Z0l h0.1 h0.2] at this
theorem PE.andU {T U:TypeId} {x y:Operand} {m n:Int} (hx:ev L x=some (.int .u32 m)) (hy:ev L y=some (.int .u32 n)) (h0:0≤n) (h1:n≤4294967295):∃ v,PE P L ⟨d,.binOp .and T x y U,ty,pos,af,g⟩ v∧U32 n v:=by
 refine ⟨_,PE.bits (by simp) hx hy (fun w=>rfl),_,rfl,(Z2l _).1,?_⟩
 have hb:(BitVec.ofInt 32 n).toNat=n.toNat:=by
   rw [BitVec.toNat_ofInt];omega
 have hle:(BitVec.ofInt 32 m&&&BitVec.ofInt 32 n).toNat≤n.toNat:=by
   rw [BitVec.toNat_and,hb];exact Nat.and_le_right
 show IntKind.u32.wrap ((BitVec.ofInt 32 m&&&BitVec.ofInt 32 n).toNat:Int)≤n
 rw [Z72 (by omega) (by omega)]
 omega
theorem PE.shrU {T U:TypeId} {x y:Operand} {q:IntKind} {m n:Int} (hx:ev L x=some (.int .u32 m)) (hy:ev L y=some (.int q n)) (hn:0≤n) (h0:0≤m) (h1:m≤4294967295):∃ v,PE P L ⟨d,.binOp .shr T x y U,ty,pos,af,g⟩ v∧U32 4294967295 v:=by
 refine ⟨.int .u32 (m.fdiv (2 ^ (Min.min n.toNat 32))),fun ρ hρ w=>?_,_,rfl,?_,?_⟩
 · have hg:∀ w,(eqGuard .shr T x y (.int .u32 m) (.int q n)).run P w = .ok () w:=fun w=>rfl
   have hb:binOp .shr T (.int .u32 m) (.int q n)=Op.shift .shr .u32 m q n:=by simp [binOp]
   have hs:∀ w,(Op.shift .shr .u32 m q n).run P w = .ok (.int .u32 (m.fdiv (2 ^ (Min.min n.toNat 32)))) w:=fun w=>by
     unfold Op.shift
     rw [if_neg (by omega)]
     rfl
   simp only [execOp,hρ _ _ hx,hρ _ _ hy,Sem.run_bind,hg,hb,hs,Result.andThen,Sem.run_pure]
 · rw [Int.fdiv_eq_ediv_of_nonneg _ (Int.pow_nonneg (by omega))]
   exact Int.ediv_nonneg h0 (Int.pow_nonneg (by omega))
 · rw [Int.fdiv_eq_ediv_of_nonneg _ (Int.pow_nonneg (by omega))]
   have:=Int.ediv_le_self (a:=m) (2 ^ (Min.min n.toNat 32)) h0
   omega
end pe
section steps
variable {P:Program} {r:Option Nat} {ops:Array Oper} {n:Nat} {L:Zo} {D:List Deferred} {H:Z7} {R:Z4} {K:Act→World→Prop}
 {bm:List Nat} {X:Act→World→Prop} {p:Plan} {pend:Z2R}
 {i d:Nat} {op:Op} {ty:TypeId} {pos:String} {af:Array Edge}
theorem spE {q:Value→Prop} (ho:ops[i]?=some ⟨some d,op,ty,pos,af,none⟩) (hv:∃ v,PE P L ⟨some d,op,ty,pos,af,none⟩ v∧q v) (hd:Nat.blt d n=true)
   (h:∀ v,q v→Sy n ((d,v)::L) D H R K):Sy n L D H R (stp P r ops i K):=by
 obtain ⟨v,hv,hq⟩:=hv
 exact sp ho hv hd (h v hq)
theorem tkE {q:Value→Prop} (ho:ops[i]?=some ⟨some d,op,ty,pos,af,none⟩) (hv:∃ v,PE P L ⟨some d,op,ty,pos,af,none⟩ v∧q v) (hd:Nat.blt d n=true)
   (h:∀ v,q v→Sy n ((d,v)::L) D H R (Dv P r ops bm X p pend)):Sy n L D H R (Dv P r ops bm X (.tk i p) pend):=by
 obtain ⟨v,hv,hq⟩:=hv
 exact tk ho hv hd (h v hq)
end steps
section pe
variable {P:Program} {L:Zo} {d:Option Tmp} {ty:TypeId} {pos:String} {af:Array Edge} {g:Option (Nat×Bool)}
theorem PE.shlN {T U:TypeId} {x y:Operand} {m:Nat} {k:Int} {n:Nat} {q:IntKind} (hx:ev L x=some (.int .i64 k)) (hy:ev L y=some (.int q (n:Int))) (hk:k=(m:Int)) (hn:n≤62) (hb:m*2 ^ n≤9223372036854775807) :
   PE P L ⟨d,.binOp .shl T x y U,ty,pos,af,g⟩ (.int .i64 ((m*2 ^ n:Nat):Int)):=fun ρ hρ w=>by
 subst hk
 have hg:∀ w,(eqGuard .shl T x y (.int .i64 (m:Int)) (.int q (n:Int))).run P w = .ok () w:=fun w=>rfl
 have hbo:binOp .shl T (.int .i64 (m:Int)) (.int q (n:Int))=Op.shift .shl .i64 m q n:=by simp [binOp]
 have hs:∀ w,(Op.shift .shl .i64 (m:Int) q (n:Int)).run P w = .ok (.int .i64 ((m*2 ^ n:Nat):Int)) w:=fun w=>by
   unfold Op.shift
   rw [if_neg (by omega)]
   have e:Min.min ((n:Int).toNat) (IntKind.i64.bits)=n:=by
     have:IntKind.i64.bits=64:=rfl
     rw [this,Int.toNat_natCast];omega
   have e2:((m:Int)*2 ^ n)=((m*2 ^ n:Nat):Int):=by push_cast;rfl
   show Result.ok (Value.int .i64 (IntKind.i64.wrap ((m:Int)*2 ^ (Min.min ((n:Int).toNat) (IntKind.i64.bits))))) w=_
   rw [e,e2,Z0l (by omega) (by omega)]
 simp only [execOp,hρ _ _ hx,hρ _ _ hy,Sem.run_bind,hg,hbo,hs,Result.andThen,Sem.run_pure]
theorem PE.shrN {T U:TypeId} {x y:Operand} {m n:Nat} {q:IntKind} (hx:ev L x=some (.int .i64 (m:Int))) (hy:ev L y=some (.int q (n:Int))) (hn:n≤64) :
   PE P L ⟨d,.binOp .shr T x y U,ty,pos,af,g⟩ (.int .i64 ((m>>>n:Nat):Int)):=fun ρ hρ w=>by
 have hg:∀ w,(eqGuard .shr T x y (.int .i64 (m:Int)) (.int q (n:Int))).run P w = .ok () w:=fun w=>rfl
 have hbo:binOp .shr T (.int .i64 (m:Int)) (.int q (n:Int))=Op.shift .shr .i64 m q n:=by simp [binOp]
 have hs:∀ w,(Op.shift .shr .i64 (m:Int) q (n:Int)).run P w = .ok (.int .i64 ((m>>>n:Nat):Int)) w:=fun w=>by
   unfold Op.shift
   rw [if_neg (by omega)]
   have e:Min.min ((n:Int).toNat) (IntKind.i64.bits)=n:=by
     have:IntKind.i64.bits=64:=rfl
     rw [this,Int.toNat_natCast];omega
   show Result.ok (Value.int .i64 ((m:Int).fdiv (2 ^ (Min.min ((n:Int).toNat) (IntKind.i64.bits))))) w=_
   rw [e,Int.fdiv_eq_ediv_of_nonneg _ (Int.pow_nonneg (by omega)),Nat.shiftRight_eq_div_pow]
   congr 2
 simp only [execOp,hρ _ _ hx,hρ _ _ hy,Sem.run_bind,hg,hbo,hs,Result.andThen,Sem.run_pure]
theorem Z0U {m:Nat} (h:m≤9223372036854775807):(BitVec.ofInt 64 (m:Int)).toNat=m:=by
 rw [BitVec.toNat_ofInt];omega
theorem PE.andN {T U:TypeId} {x y:Operand} {m n:Nat} {k:Int} (hx:ev L x=some (.int .i64 (m:Int))) (hy:ev L y=some (.int .i64 k)) (hk:k=(n:Int)) (hm:m≤9223372036854775807) (hn:n≤9223372036854775807) :
   PE P L ⟨d,.binOp .and T x y U,ty,pos,af,g⟩ (.int .i64 ((m&&&n:Nat):Int)):=by
 subst hk
 refine PE.bits (by simp) hx hy (fun w=>?_)
 show Result.ok (Value.int .i64 (IntKind.i64.wrap ((BitVec.ofInt 64 (m:Int)&&&BitVec.ofInt 64 (n:Int)).toNat:Int))) w=_
 have:m&&&n≤m:=Nat.and_le_left
 rw [BitVec.toNat_and,Z0U hm,Z0U hn,Z0l (by omega) (by omega)]
theorem PE.orN {T U:TypeId} {x y:Operand} {m n:Nat} (hx:ev L x=some (.int .i64 (m:Int))) (hy:ev L y=some (.int .i64 (n:Int))) (hm:m<2 ^ 62) (hn:n<2 ^ 62) :
   PE P L ⟨d,.binOp .or T x y U,ty,pos,af,g⟩ (.int .i64 ((m|||n:Nat):Int)):=by
 refine PE.bits (by simp) hx hy (fun w=>?_)
 show Result.ok (Value.int .i64 (IntKind.i64.wrap ((BitVec.ofInt 64 (m:Int)|||BitVec.ofInt 64 (n:Int)).toNat:Int))) w=_
 have:m|||n<2 ^ 62:=Nat.or_lt_two_pow hm hn
 rw [BitVec.toNat_or,Z0U (by omega),Z0U (by omega),Z0l (by omega) (by omega)]
theorem Z8w (m k:Nat):decide (((((m>>>k)&&&1:Nat)):Int)=1)=m.testBit k:=by
 rw [Nat.testBit,Nat.and_comm]
 have:1&&&(m>>>k)=(m>>>k)%2:=by rw [Nat.and_comm,Nat.and_one_is_mod]
 rw [this]
 have h2:=Nat.mod_lt (m>>>k) (show 0<2 by decide)
 rcases Nat.lt_or_ge ((m>>>k)%2) 1 with h | h
 · have:(m>>>k)%2=0:=by omega
   rw [this];rfl
 · have:(m>>>k)%2=1:=by omega
   rw [this];rfl
end pe
section look
variable {P:Program} {r:Option Nat} {ops:Array Oper} {n:Nat} {L:Zo} {D:List Deferred} {H:Z7} {R:Z4} {K:Act→World→Prop}
 {bm:List Nat} {X:Act→World→Prop} {p:Plan} {pend:Z2R} {i d:Nat} {ty:TypeId} {pos:String} {af:Array Edge}
theorem Zjy {T:TypeId} {x y:Operand} {vx vy v:Value} {c:Bool} {j t:Nat} {b:Bool} {oj:Oper} (ho:ops[i]?=some ⟨some d,.lookup T x y c,ty,pos,af,some (j,b)⟩) (hj:ops[j]?=some oj) (ht:oj.dst=some t) (hb:lk L t=some (.bool b)) (hx:ev L x=some vx) (hy:ev L y=some vy)
   (hl:∀ w,St H R w→Lkp P T vx vy c v w) (hd:Nat.blt d n=true) (h:Sy n ((d,v)::L) D H R (Dv P r ops bm X p ((i,Lkp P T vx vy c v)::pend))):Sy n L D H R (Dv P r ops bm X (.ld i p) pend):=fun a w ha hD hs =>
 ⟨_,v,Lkp P T vx vy c v,ho,.inl ⟨by simp [Region.wanted,ZP ha hj ht hb],fun w hw=>Z0d (Z19 ha.reads hx hy hw) (by simp)⟩,hl w hs,h _ w (ha.put (by simpa using hd) v) hD hs⟩
theorem ZdV {T KT E s m:Nat} {b:Bool} (l:KV) (k:List Int) {zv:Value} (hT:Z1t P T=some (KT,E)) (hK:KeyT P b KT s) (hz:∀ w,(zeroValue E).run P w = .ok zv w) (hk:k.length=s) (hl:∀ e∈l,e.1.length=s)
   (hm:∀ w,St H R w→w.heap[m]?=some (ZQ b l)) (c:Bool):∀ w,St H R w→Lkp P T (.map (some m)) (mkv b k) c (bif c then .tuple #[(l.get k).getD zv,.bool (l.get k).isSome] else (l.get k).getD zv) w:=fun w hs=>by
 unfold Z1t at hT
 split at hT<;>cases hT
 rename_i hu
 have h1:=Z0B (P:=P) (hm w hs)
 have h3:=Z16 hK k hk l hl w
 unfold Lkp Instr.lookup
 simp only [Sem.run_bind,run_underlying hu,Result.andThen,h1,ZQ,hK.ck _ k hk,h3,Sem.run_pure]
 rw [← Z4P]
 cases hf:l.findIdx? fun e=>decide (e.1=k) with
 | none=>simp only [Option.map_none,Sem.run_bind,hz,Result.andThen,Sem.run_pure];cases c<;>rfl
 | some j=>simp only [Option.map_some,Sem.run_pure];cases c<;>rfl
end look
section nested
variable {P:Program} {n:Nat} {L:Zo} {D:List Deferred} {H:Z7} {R:Z4} {Q:Exit→Act→World→Prop}
end nested
theorem ZbJ {P:Program} {ax:Option Addr} {s dl sc:Nat} {rows:List (List Value)} {w:World} (hr:RowsA ax s rows w) (hl:∀ q∈rows,q.length=s) (hle:rows.length≤dl) :
   (Builtin.firstCells s (Nat.min rows.length dl) (.slice ax rows.length sc)).run P w = .ok rows.flatten.toArray w:=by
 rw [show Nat.min rows.length dl=rows.length from Nat.min_eq_left hle]
 have hf:=ZH hl
 match ax,hr with
 | none,hr =>
   match rows,hr with
   | [],_=>rfl
   | q::qs,hr =>
     obtain ⟨_,b,off,h,_⟩:=hr 0 q rfl
     cases h
 | some a,hr =>
   have hc:∀ j v,rows.flatten[j]?=some v→w.cell? (a.add j)=some v:=by
     match rows,hr with
     | [],_=>intro j v h;simp at h
     | q::qs,hr =>
       obtain ⟨_,b,off,h,_⟩:=hr 0 q rfl
       cases h
       intro j v h
       rw [Z0m];exact Z3J hr j v h
   have:=run_loadCells_list (P:=P) w a rows.flatten hc
   rw [hf] at this
   exact this
section steps
variable {P:Program} {r:Option Nat} {ops:Array Oper} {n:Nat} {L:Zo} {D:List Deferred} {H:Z7} {R:Z4} {K:Act→World→Prop}
 {i d:Nat} {ty:TypeId} {pos:String} {af:Array Edge}
theorem Zka {T T2 e s:Nat} {x y:Operand} {b dl dc sc e2:Nat} {l:List Value} {ax:Option Addr} {rows:List (List Value)} {H':Z7}
   (ho:ops[i]?=some ⟨some d,.call { callee:=.builtin .copy,args := #[x,y],argTypes := #[T,T2] },ty,pos,af,none⟩) (hT:slE P T=some (e,s))
   (hx:ev L x=some (.slice (some ⟨b,0,none⟩) dl dc)) (hy:ev L y=some (.slice ax rows.length sc)) [mr:MemRows ax s rows R] (hl:∀ q∈rows,q.length=s) (hle:rows.length≤dl)
   (h1:rows.flatten.all (·.oneCell')=true) (hb:rows.flatten.length≤l.length) (hd:Nat.blt d n=true)
   [m:Mem1 b (cel e2 l) H] [rp:Rep [(b,cel e2 l)] [(b,cel e2 (spl l 0 rows.flatten))] H H']
   (h:Sy n ((d,.int .i64 rows.length)::L) D H' R K):Sy n L D H R (stp P r ops i K):=fun a w ha hD hs=>by
 obtain ⟨ie,hu,hi,rfl⟩:=Zeo hT
 have hr:=ZbJ (P:=P) (sc:=sc) (hs.now mr.mem) hl hle
 have hst:(storeCells ⟨b,0,none⟩ rows.flatten).run P w = .ok () { w with heap:=w.heap.setIfInBounds b (cel e2 (spl l 0 rows.flatten)) }:=Z87 (P:=P) (e:=e2) h1 hb (hs.held _ m.mem)
 refine Zu ho (Zg _ rfl _) (v:=.int .i64 rows.length) (w':={ w with heap:=w.heap.setIfInBounds b (cel e2 (spl l 0 rows.flatten)) }) ?_
   (h _ _ (ha.put (by simpa using hd) _) hD (hs.rep (F:=[(b,cel e2 l)]) (F':=[(b,cel e2 (spl l 0 rows.flatten))]) fun T hT=>St.set hT))
 simp only [execOp,resolve,invoke,builtin,Sem.run_bind,Sem.run_pure,Result.andThen,List.map_toArray,List.map_cons,List.map_nil,ha.reads _ _ hx,ha.reads _ _ hy]
 have e1:(Builtin.copy_ #[T,T2] ty #[.slice (some ⟨b,0,none⟩) dl dc,.slice ax rows.length sc]).run P w = .ok (goInt (rows.length:Nat)) { w with heap:=w.heap.setIfInBounds b (cel e2 (spl l 0 rows.flatten)) }:=by
   have e3:(Builtin.firstCells ie.size rows.length (.slice ax rows.length sc)).run P w = .ok rows.flatten.toArray w:=by
     rw [show Nat.min rows.length dl=rows.length from Nat.min_eq_left hle] at hr;exact hr
   simp [Builtin.copy_,run_underlying hu,Builtin.lenOf,sizeOf,typeInfo,hi,e3,hst,Nat.min_eq_left hle]
 rw [e1]
 rfl
end steps
def Zbm (P:Program) (T:Nat):Bool:=match P.underlying T with | some .string=>true | _=>false
def U8 (v:Value):Prop:=∃ x:Int,v = .int .u8 x∧0≤x∧x≤255
theorem Z4l {n:Int} (h0:0≤n) (h1:n≤255):IntKind.u8.wrap n=n:=by
 have e:IntKind.u8.wrap n=n%256:=rfl
 rw [e];omega
theorem Z1X {n:Int} (h0:0≤n) (h1:n≤18446744073709551615):IntKind.u64.wrap n=n:=by
 have e:IntKind.u64.wrap n=n%18446744073709551616:=rfl
 rw [e];omega
section pe
variable {P:Program} {L:Zo} {d:Option Tmp} {ty:TypeId} {pos:String} {af:Array Edge} {g:Option (Nat×Bool)}
theorem PE.indexS {T:TypeId} {x y:Operand} {k:IntKind} {s:ByteArray} {i m:Nat} (hT:Zbm P T=true) (hx:ev L x=some (.string s)) (hy:ev L y=some (.int k i)) (hz:s.size=m) (hi:i<m) :
   ∃ v,PE P L ⟨d,.index T x y,ty,pos,af,g⟩ v∧U8 v:=by
 have hu:P.underlying T=some .string:=by
   unfold Zbm at hT
   split at hT
   · assumption
   · cases hT
 refine ⟨.int .u8 (s[i]'(by omega)).toNat,fun ρ hρ w=>?_,_,rfl,by omega,?_⟩
 · have e1:s[i]?=some (s[i]'(by omega)):=getElem?_pos s i (by omega)
   simp only [execOp,hρ _ _ hx,hρ _ _ hy,Instr.index,asIntOf,Sem.run_bind,Sem.run_pure,run_underlying hu,Result.andThen]
   rw [if_pos (by omega),Int.toNat_natCast,e1]
   rfl
 · have:=UInt8.toNat_lt (s[i]'(by omega));omega
end pe
section steps
variable {P:Program} {r:Option Nat} {ops:Array Oper} {n:Nat} {L:Zo} {D:List Deferred} {H:Z7} {R:Z4} {K:Act→World→Prop}
 {i d:Nat} {ty:TypeId} {pos:String} {af:Array Edge}
end steps
section dag
variable {P:Program} {r:Option Nat} {ops:Array Oper} {bm:List Nat} {X:Act→World→Prop} {n:Nat} {L:Zo} {D:List Deferred} {H:Z7} {R:Z4} {p:Plan} {pend:Z2R}
end dag
section pe
variable {P:Program} {L:Zo} {d:Option Tmp} {ty:TypeId} {pos:String} {af:Array Edge} {g:Option (Nat×Bool)}
end pe
section steps
variable {P:Program} {r:Option Nat} {ops:Array Oper} {n:Nat} {L:Zo} {D:List Deferred} {H:Z7} {R:Z4} {K:Act→World→Prop}
 {i d:Nat} {ty:TypeId} {pos:String} {af:Array Edge}
end steps
def AllS:List Nat→(Nat→Prop)→Prop
 | [],_=>True
 | i::l,p=>p i∧AllS l p
theorem AllS.all {p:Nat→Prop}:∀ {l:List Nat},AllS l p→∀ i∈l,p i
 | [],_,i,h=>by cases h
 | j::l,h,i,hi=>by
   rcases List.mem_cons.1 hi with rfl | hi
   · exact h.1
   · exact AllS.all h.2 i hi
section free
variable {P:Program} {r:Option Nat} {ops:Array Oper} {n:Nat} {L:Zo} {D:List Deferred} {H:Z7} {R:Z4}
end free
def pvl (L:Zo):Op→Option Value
 | .move x=>ev L x
 | .assign x=>ev L x
 | .pick c x y=>match ev L c with
   | some (.bool b)=>match ev L x with
     | some u=>match ev L y with
       | some v=>some (bif b then u else v)
       | none=>none
     | none=>none
   | _=>none
 | .extract x k=>match ev L x with
   | some (.tuple l)=>l.toList[k]?
   | _=>none
 | .unOp .not _ x=>match ev L x with
   | some (.bool b)=>some (.bool !b)
   | _=>none
 | .binOp .lss _ x y _=>match ev L x with
   | some (.int .i64 m)=>match ev L y with
     | some (.int .i64 n)=>some (.bool (decide (m<n)))
     | _=>none
   | _=>none
 | .binOp .leq _ x y _=>match ev L x with
   | some (.int .i64 m)=>match ev L y with
     | some (.int .i64 n)=>some (.bool (decide (m≤n)))
     | _=>none
   | _=>none
 | .binOp .gtr _ x y _=>match ev L x with
   | some (.int .i64 m)=>match ev L y with
     | some (.int .i64 n)=>some (.bool (decide (n<m)))
     | _=>none
   | _=>none
 | .binOp .geq _ x y _=>match ev L x with
   | some (.int .i64 m)=>match ev L y with
     | some (.int .i64 n)=>some (.bool (decide (n≤m)))
     | _=>none
   | _=>none
 | .binOp .eql _ x y _=>match ev L x with
   | some (.int .i64 m)=>match ev L y with
     | some (.int .i64 n)=>some (.bool (decide (m=n)))
     | _=>none
   | _=>none
 | .binOp .neq _ x y _=>match ev L x with
   | some (.int .i64 m)=>match ev L y with
     | some (.int .i64 n)=>some (.bool (decide (m≠n)))
     | _=>none
   | _=>none
 | _=>none
theorem Z7x {P:Program} {L:Zo} {o:Oper} {v:Value} (h:pvl L o.op=some v):PE P L o v:=by
 obtain ⟨d,op,ty,pos,af,g⟩:=o
 dsimp only at h
 unfold pvl at h
 split at h
 · exact PE.move h
 · exact PE.assign h
 · split at h
   · rename_i b hb
     split at h
     · rename_i u hu
       split at h
       · rename_i w hw
         obtain rfl:=Option.some.inj h
         exact PE.pick hb hu hw
       · cases h
     · cases h
   · cases h
 · split at h
   · rename_i l hl
     exact PE.extract (l:=l.toList) hl h
   · cases h
 · split at h
   · rename_i b hb
     obtain rfl:=Option.some.inj h
     exact PE.not hb
   · cases h
 · split at h
   · rename_i m hm
     split at h
     · rename_i k hk
       obtain rfl:=Option.some.inj h
       exact PE.lss hm hk
     · cases h
   · cases h
 · split at h
   · rename_i m hm
     split at h
     · rename_i k hk
       obtain rfl:=Option.some.inj h
       exact PE.leq hm hk
     · cases h
   · cases h
 · split at h
   · rename_i m hm
     split at h
     · rename_i k hk
       obtain rfl:=Option.some.inj h
       exact PE.gtr hm hk
     · cases h
   · cases h
 · split at h
   · rename_i m hm
     split at h
     · rename_i k hk
       obtain rfl:=Option.some.inj h
       exact PE.geq hm hk
     · cases h
   · cases h
 · split at h
   · rename_i m hm
     split at h
     · rename_i k hk
       obtain rfl:=Option.some.inj h
       exact PE.eql hm hk
     · cases h
   · cases h
 · split at h
   · rename_i m hm
     split at h
     · rename_i k hk
       obtain rfl:=Option.some.inj h
       exact PE.neq hm hk
     · cases h
   · cases h
 · cases h
def gok (ops:Array Oper) (L:Zo):Option (Nat×Bool)→Option Bool
 | none=>some true
 | some (j,b)=>match ops[j]? with
   | some oj=>match oj.dst with
     | some t=>match lk L t with
       | some (.bool c)=>some (b == c)
       | _=>none
     | none=>none
   | none=>none
def prS (ops:Array Oper) (n:Nat) (L:Zo) (i:Nat):Option Zo:=match ops[i]? with
 | some o=>match o.dst with
   | some d=>bif Nat.blt d n then
       match gok ops L o.guard with
       | some true=>match pvl L o.op with
         | some v=>some ((d,v)::L)
         | none=>none
       | some false=>some ((d,undef)::L)
       | none=>none
     else none
   | none=>none
 | none=>none
section ops
variable {P:Program} {r:Option Nat} {ops:Array Oper} {n:Nat} {L L':Zo} {D:List Deferred} {H:Z7} {R:Z4} {K:Act→World→Prop}
 {bm:List Nat} {X:Act→World→Prop} {p p':Plan} {pend:Z2R} {i:Nat}
theorem Z5T (h:prS ops n L i=some L'):∃ o d,ops[i]?=some o∧o.dst=some d∧Nat.blt d n=true ∧
   ((∃ v,pvl L o.op=some v∧L'=(d,v)::L∧(o.guard=none∨∃ j b oj t,o.guard=some (j,b)∧ops[j]?=some oj∧oj.dst=some t∧lk L t=some (.bool b))) ∨
    (L'=(d,undef)::L∧∃ j b oj t c,o.guard=some (j,b)∧ops[j]?=some oj∧oj.dst=some t∧lk L t=some (.bool c)∧b=!c)):=by
 unfold prS at h
 split at h
 · rename_i o ho
   split at h
   · rename_i d hd
     cases hb:Nat.blt d n with
     | false=>rw [hb] at h;cases h
     | true =>
       rw [hb,cond_true] at h
       refine ⟨o,d,ho,hd,hb,?_⟩
       have hg:∀ x,gok ops L o.guard=some x→(o.guard=none∧x=true)∨∃ j b oj t c,o.guard=some (j,b)∧ops[j]?=some oj∧oj.dst=some t∧lk L t=some (.bool c)∧x=(b == c):=by
         intro x hx
         unfold gok at hx
         split at hx
         · rename_i h0;exact .inl ⟨h0,(Option.some.inj hx).symm⟩
         · rename_i j b h0
           split at hx
           · rename_i oj hj
             split at hx
             · rename_i t ht
               split at hx
               · rename_i c hc
                 exact .inr ⟨j,b,oj,t,c,h0,hj,ht,hc,(Option.some.inj hx).symm⟩
               · cases hx
             · cases hx
           · cases hx
       split at h
       · rename_i h0
         split at h
         · rename_i v hv
           refine .inl ⟨v,hv,(Option.some.inj h).symm,?_⟩
           rcases hg _ h0 with ⟨h1,_⟩ | ⟨j,b,oj,t,c,h1,h2,h3,h4,h5⟩
           · exact .inl h1
           · obtain rfl:=eq_of_beq h5.symm
             exact .inr ⟨j,b,oj,t,h1,h2,h3,h4⟩
         · cases h
       · rename_i h0
         refine .inr ⟨(Option.some.inj h).symm,?_⟩
         rcases hg _ h0 with ⟨_,h1⟩ | ⟨j,b,oj,t,c,h1,h2,h3,h4,h5⟩
         · cases h1
         · exact ⟨j,b,oj,t,c,h1,h2,h3,h4,by cases b<;>cases c<;>first | rfl | cases h5⟩
       · cases h
   · cases h
 · cases h
theorem ZhK (h:prS ops n L i=some L') (hk:Sy n L' D H R K):Sy n L D H R (stp P r ops i K):=by
 obtain ⟨⟨dst,op,ty,pos,af,g⟩,d,ho,hd,hb,h1⟩:=Z5T h
 dsimp only at hd h1
 subst hd
 rcases h1 with ⟨v,hv,rfl,rfl | ⟨j,b,oj,t,rfl,hj,ht,hl⟩⟩ | ⟨rfl,j,b,oj,t,c,hg,hj,ht,hl,hbc⟩
 · exact sp ho (Z7x hv) hb hk
 · exact spG ho hj ht hl (Z7x hv) hb hk
 · exact spN ho hg hj ht hl hbc rfl hb hk
theorem ZhL (h:prS ops n L i=some L') (hk:Sy n L' D H R (Dv P r ops bm X p pend)):Sy n L D H R (Dv P r ops bm X (.tk i p) pend):=by
 obtain ⟨⟨dst,op,ty,pos,af,g⟩,d,ho,hd,hb,h1⟩:=Z5T h
 dsimp only at hd h1
 subst hd
 rcases h1 with ⟨v,hv,rfl,rfl | ⟨j,b,oj,t,rfl,hj,ht,hl⟩⟩ | ⟨rfl,j,b,oj,t,c,hg,hj,ht,hl,hbc⟩
 · exact tk ho (Z7x hv) hb hk
 · exact tkG ho hj ht hl (Z7x hv) hb hk
 · exact tkN ho hg hj ht hl hbc rfl hb hk
def prK (ops:Array Oper) (n:Nat):Nat→List Nat→Zo→Option (List Nat×Zo)
 | 0,l,L=>some (l,L)
 | _+1,[],_=>none
 | k+1,i::l,L=>match prS ops n L i with
   | some L'=>prK ops n k l L'
   | none=>none
theorem pur (k:Nat) {l l':List Nat} (h:prK ops n k l L=some (l',L')) (hk:Sy n L' D H R (Z4F P r ops X l')):Sy n L D H R (Z4F P r ops X l):=by
 induction k generalizing l L with
 | zero =>
   simp only [prK,Option.some.injEq,Prod.mk.injEq] at h
   obtain ⟨rfl,rfl⟩:=h
   exact hk
 | succ k ih =>
   cases l with
   | nil=>cases h
   | cons i l =>
     unfold prK at h
     split at h
     · rename_i L1 h1
       exact ZhK h1 (ih h)
     · cases h
def prP (ops:Array Oper) (n:Nat):Nat→Plan→Zo→Option (Plan×Zo)
 | 0,p,L=>some (p,L)
 | k+1,.tk i p,L=>match prS ops n L i with
   | some L'=>prP ops n k p L'
   | none=>none
 | _+1,_,_=>none
theorem Zm (k:Nat) (h:prP ops n k p L=some (p',L')) (hk:Sy n L' D H R (Dv P r ops bm X p' pend)):Sy n L D H R (Dv P r ops bm X p pend):=by
 induction k generalizing p L with
 | zero =>
   simp only [prP,Option.some.injEq,Prod.mk.injEq] at h
   obtain ⟨rfl,rfl⟩:=h
   exact hk
 | succ k ih =>
   cases p with
   | tk i p =>
     unfold prP at h
     split at h
     · rename_i L1 h1
       exact ZhL h1 (ih h)
     · cases h
   | done=>cases h
   | ld i p=>cases h
   | big i p=>cases h
   | any p=>cases h
   | alt i p q=>cases h
   | stop=>cases h
theorem Zv {X:Act→World→Prop} (t:Nat) {b:Bool} (hb:lk L t=some (.bool b)) (h1:b=true→Sy n ((t,.bool true)::L) D H R X) (h0:b=false→Sy n ((t,.bool false)::L) D H R X):Sy n L D H R X:=Zet hb h1 h0
theorem bgT (h:Sy n L D H R (Dv P r ops bm X p (keepP bm i pend))) (hp:∀ w,St H R w→Z0c bm i pend w:=by intro w hs;repeat' first | exact trivial | constructor):Sy n L D H R (fun a w=>Z0c bm i pend w∧Dv P r ops bm X p (keepP bm i pend) a w):=bg hp h
theorem lhI {T b off k:Nat} {o:Obj} [m:Mem1 b o H] {e:TypeId} {l:List Value} (vs:List Int) (hT:Z1g P T=some k) (ho:o=cel e l) (hv:l.drop off=Zj vs) (hk:vs.length=k):∀ w,St H R w→Ld P T ⟨b,off,none⟩ (.agg (Zj vs).toArray) w :=
 lhA (rest:=[]) (Zj vs) hT ho (by rw [List.append_nil];exact hv) (by rw [List.length_map];exact hk)
theorem PE.fA {ty:TypeId} {pos:String} {af:Array Edge} {g:Option (Nat×Bool)} {d:Option Tmp} {T k o b off:Nat} {x:Operand} (ho:ZT P T k=some o) (hx:ev L x=some (.pointer (some ⟨b,off,none⟩))):PE P L ⟨d,.fieldAddr T x k,ty,pos,af,g⟩ (.pointer (some ⟨b,off+o,none⟩)):=PE.fieldAddr ho hx
end ops
theorem cS:(∀ (p:Prop) [Decidable p],(decide p=true)=p)∧(∀ (p:Prop) [Decidable p],(decide p=false)=¬ p)∧(∀ a b:Bool,((a&&b)=true)=(a=true∧b=true))∧(∀ a b:Bool,((a||b)=true)=(a=true∨b=true))∧(∀ b:Bool,((!b)=true)=(b=false))∧(∀ a b:Int,(¬ a≤b)=(b<a))∧(∀ a b:Int,(¬ a<b)=(b≤a)) :=
 ⟨fun _ _=>decide_eq_true_eq,fun p _=>propext decide_eq_false_iff_not,fun a b=>by simp,fun a b=>by simp,fun b=>by simp,fun a b=>propext Int.not_le,fun a b=>propext Int.not_lt⟩
def tks:Nat→Nat→Plan→Plan
 | _,0,p=>p
 | i,k+1,p=>.tk i (tks (i+1) k p)
theorem idH {H:Z7} {R:Z4}:∀ w,St H R w→St H R w:=fun _ h=>h
theorem ne0 {α:Type} {l:List α} (h:l.length≠0):l≠[]:=fun e=>h (by rw [e];rfl)
theorem nl {m n:Nat} (h:Nat.ble m n=true):m≤n:=Nat.le_of_ble_eq_true h
theorem dF {p:Prop} [i:Decidable p] (h:¬ p):decide p=false:=decide_eq_false h
theorem dT {p:Prop} [i:Decidable p] (h:p):decide p=true:=decide_eq_true h
section steps
variable {P:Program} {r:Option Nat} {n:Nat} {L:Zo} {D:List Deferred} {H:Z7} {R:Z4} {Q:Exit→Act→World→Prop}
theorem Zf {ι:Type} {inv:ι→Head} {j:ι} (hH:∀ w,St H R w→St (inv j).H (inv j).R w) (hL:Sub (inv j).L L:=by repeat' first | exact Sub.nil | apply Sub.cons | rfl | (simp [lk];omega)):Sy n L D H R (Z42 n D inv j):=ZbT hL hH
theorem Ze {ι:Type} {inv:ι→Head} {μ:ι→Nat} {i:ι} (j:ι) (hm:μ j<μ i) (hH:∀ w,St H R w→St (inv j).H (inv j).R w) (hL:Sub (inv j).L L:=by repeat' first | exact Sub.nil | apply Sub.cons | rfl | (simp [lk];omega)):Sy n L D H R (Z8l n D inv μ i):=Z0e j hm hL hH
theorem Zb {ι:Type} {inv:ι→Head} {μ:ι→Nat} {i:ι} (j:ι) (hH:∀ w,St H R w→St (inv j).H (inv j).R w) (hm:μ j<μ i:=by dsimp only;omega) (hL:Sub (inv j).L L:=by repeat' first | exact Sub.nil | apply Sub.cons | rfl | (simp [lk];omega)):Sy n L D H R (Z8l n D inv μ i):=Z0e j hm hL hH
theorem Zh {ι:Type} {hd:ι→Head} (j:ι) (hH:∀ w,St H R w→St (hd j).H (hd j).R w) (hL:Sub (hd j).L L:=by repeat' first | exact Sub.nil | apply Sub.cons | rfl | (simp [lk];omega)):Sy n L D H R (ZcX n D hd .normal):=Zaw j hL hH
theorem Z7F {ι:Type} {hd:ι→Head} (j:ι) (hH:∀ w,St H R w→St (hd j).H (hd j).R w) (hL:Sub (hd j).L L:=by repeat' first | exact Sub.nil | apply Sub.cons | rfl | (simp [lk];omega)):Sy n L D H R (Z8o n D hd Q .normal):=Zeu j hL hH
def rg:Nat→Nat→List Nat
 | _,0=>[]
 | i,k+1=>i::rg (i+1) k
theorem sqt {id:Nat} {ops:Array Oper} {y:Code} (k:Nat) (hl:List.range ops.size=rg 0 k) (h:Sy n L D H R (Z4F P r ops (wpc P r y Q) (rg 0 k))):Sy n L D H R (wpc P r (.seq (.region id ops false) y) Q) :=
 Z0 (ZcS _ hl h)
theorem sqr {id:Nat} {ops:Array Oper} (k:Nat) (hl:List.range ops.size=rg 0 k) (h:Sy n L D H R (Z4F P r ops (Q .normal) (rg 0 k))):Sy n L D H R (wpc P r (.region id ops false) Q):=ZcS _ hl h
variable {fn:Func} {G:Value→Z7→Z4→Prop} {H':Z7} {R':Z4}
theorem rtA {t:Nat} {v u:Value} (hr:fn.results = #[.tmp t]) (hv:lk L t=some v) (he:Z08 [v]=u) (hq:G u H' R') (hs:∀ w,St H R w→St H' R' w):Sy n L [] H R (Ret P fn G .ret):=Zk (vs:=[v]) hr (.cons (RV.tmp hv) .nil) he hq hs
theorem rtB {t t2:Nat} {v x u:Value} (hr:fn.results = #[.tmp t,.tmp t2]) (hv:lk L t=some v) (hx:lk L t2=some x) (he:Z08 [v,x]=u) (hq:G u H' R') (hs:∀ w,St H R w→St H' R' w):Sy n L [] H R (Ret P fn G .ret):=Zk (vs:=[v,x]) hr (.cons (RV.tmp hv) (.cons (RV.tmp hx) .nil)) he hq hs
end steps
theorem Z4m {P:Program} {n:Nat} {L:Zo} {H:Z7} {R:Z4} {c:LR} {bl:Nat} {p q:Tmp} {assign body:Code} {v u:Value} {QY:Value→Z7→Z4→Prop} [m:Mem1 bl (lob c .ready none) H] (hp:c.params = #[p,q]) (ha:c.assign=assign) (hb:c.body=body)
   (hk:Knows n L ⟨c.tmps,[]⟩) (hpn:Nat.blt p n=true) (hqn:Nat.blt q n=true) (h:Sy n ((q,u)::(p,v)::L) [] H R (wpc P (some bl) assign (RB P bl body QY))):Yd P bl [v,u] H R QY:=fun w hs=>by
 subst ha hb
 have hl:=hs.held _ m.mem
 refine ⟨c.fn,_,c.assign,c.body,run_yield (r:={ state:=.ready,pending:=none,fn:=c.fn,tmps:=c.tmps,params:=c.params,assign:=c.assign,body:=c.body,defers:=c.defers }) hl (by simp [hp]),?_⟩
 refine roundIn_of_wpIn (Z2p _ _) ?_
 have k1:Knows n ((p,v)::L) ⟨c.tmps.setIfInBounds p v,[]⟩:=by simpa [Act.put] using hk.put (d:=p) (by simpa using hpn) v
 have k2:Knows n ((q,u)::(p,v)::L) ⟨(c.tmps.setIfInBounds p v).setIfInBounds q u,[]⟩:=by simpa [Act.put] using k1.put (d:=q) (by simpa using hqn) u
 have h1:=h ⟨(c.tmps.setIfInBounds p v).setIfInBounds q u,[]⟩ w k2 rfl hs
 have e:(c.params.zip #[v,u]).foldl (fun tmps (x:Tmp×Value)=>tmps.setIfInBounds x.1 x.2) c.tmps=(c.tmps.setIfInBounds p v).setIfInBounds q u:=by simp [hp]
 dsimp only
 rw [e]
 exact h1
theorem sbA {A B:Zo} (h:Sub A B:=by repeat' first | exact Sub.nil | apply Sub.cons | rfl | (simp [lk];omega)):Sub A B:=h
theorem Zq:Tryz.prog.follows .mixedOrders=true:=by kernel_rfl
end Go.Proofs.YthijcgkicjljhaaGreat
namespace Go.Proofs.YthijcgkicjljhaaGreat.Hn
set_option linter.unusedSimpArgs false
set_option linter.unusedVariables false
structure Cnt where
 hour:Int
 lo:Int
 hi:Int
structure Bkg where
 hour:Int
 sacks:Int
structure Spl where
 hand:Int
 fr:Int
 to:Int
structure Wt where
 hours:Int
 allow:Int
 hands:Int
 counts:List Cnt
 books:List Bkg
 spells:List Spl
@[reducible] def inL (n lo hi : Int) : Bool := decide (lo ≤ n) && decide (n ≤ hi)
structure Wt.ok (w:Wt):Prop where
 hours:1≤w.hours∧w.hours≤60
 allow:0≤w.allow∧w.allow≤20
 hands:1≤w.hands∧w.hands≤6
 nc:1≤w.counts.length∧w.counts.length≤8
 nb:w.books.length≤10
 ns:w.spells.length≤12
 cnt:∀ c∈w.counts,(0≤c.hour∧c.hour≤w.hours)∧(0≤c.lo∧c.lo≤500)∧(0≤c.hi∧c.hi≤500)∧c.lo≤c.hi
 bks:∀ b∈w.books,(0≤b.hour∧b.hour≤w.hours)∧(-200≤b.sacks∧b.sacks≤200)∧b.sacks≠0
 spl:∀ s∈w.spells,(0≤s.fr∧s.fr≤w.hours)∧(0≤s.to∧s.to≤w.hours)∧(0≤s.hand∧s.hand≤w.hands-1)∧s.fr<s.to
 inc:∀ i c d,w.counts[i]?=some c→w.counts[i+1]?=some d→c.hour<d.hour
theorem Wt.ok.lt {w:Wt} (h:w.ok):∀ (k i:Nat) (c d:Cnt),w.counts[i]?=some c→w.counts[i+1+k]?=some d→c.hour<d.hour
 | 0,i,c,d,hc,hd=>h.inc i c d hc hd
 | k+1,i,c,d,hc,hd=>by
   have hl:=(List.getElem?_eq_some_iff.1 hd).1
   obtain ⟨e,he⟩:∃ e,w.counts[i+1+k]?=some e:=⟨_,List.getElem?_eq_getElem (by omega)⟩
   have h1:=h.lt k i c e hc he
   have h2:=h.inc (i+1+k) e d he (by rw [show i+1+k+1=i+1+(k+1) by omega];exact hd)
   omega
theorem Wt.ok.lt' {w:Wt} (h:w.ok) {i j:Nat} {c d:Cnt} (hij:i<j) (hc:w.counts[i]?=some c) (hd:w.counts[j]?=some d):c.hour<d.hour :=
 h.lt (j-i-1) i c d hc (by rw [show i+1+(j-i-1)=j by omega];exact hd)
theorem Wt.ok.le {w:Wt} (h:w.ok) {i j:Nat} {c d:Cnt} (hij:i≤j) (hc:w.counts[i]?=some c) (hd:w.counts[j]?=some d):c.hour≤d.hour:=by
 rcases Nat.lt_or_ge i j with h1 | h1
 · exact Int.le_of_lt (h.lt' h1 hc hd)
 · obtain rfl:i=j:=by omega
   rw [hc] at hd;cases hd;exact Int.le_refl _
def Wt.pos (w:Wt) (h:Int):Nat:=w.counts.findIdx fun c=>decide (h≤c.hour)
def na0 (l:List Int) (i:Nat):Int:=l.getD i 0
def Wt.bk1 (w:Wt) (s:List Int) (b:Bkg):List Int:=bif decide (0<w.pos b.hour)&&decide (w.pos b.hour<w.counts.length) then s.set (w.pos b.hour-1) (na0 s (w.pos b.hour-1)+b.sacks) else s
def Wt.sums (w:Wt):List Int:=w.books.foldl w.bk1 (List.replicate 8 0)
def ZaX (s:List Int) (f t:Nat):Int:=((List.range' f (t-f)).map (na0 s)).sum
def Wt.bk (w:Wt) (f t:Nat):Int:=ZaX w.sums f t
def Wt.cn (w:Wt) (i:Nat):Cnt:=w.counts.getD i ⟨0,0,0⟩
def Wt.gap (w:Wt) (f t:Nat):Int:=(w.cn f).lo+w.bk f t-w.allow*((w.cn t).hour-(w.cn f).hour)-(w.cn t).hi
def Wt.over (w:Wt) (f t:Nat) (x:Spl):Bool:=decide (x.fr<(w.cn t).hour)&&decide ((w.cn f).hour<x.to)
def ZaN (w:Wt) (f t:Nat) (m:Nat) (x:Spl):Nat:=bif w.over f t x then m|||2 ^ x.hand.toNat else m
def Wt.thr (w:Wt) (f t:Nat):Nat:=w.spells.foldl (ZaN w f t) 0
def ZbR (n f:Nat):List (Nat×Nat):=(List.range' (f+1) (n-(f+1))).map fun t=>(f,t)
def Z1D (n:Nat):List (Nat×Nat):=(List.range n).flatMap (ZbR n)
def Wt.bad (w:Wt) (s:Nat×Nat):Bool:=decide ((w.cn s.1).hi+w.bk s.1 s.2<(w.cn s.2).lo)||(decide (0<w.gap s.1 s.2)&&decide (w.thr s.1 s.2=0))
def Wt.clash (w:Wt):Bool:=(Z1D w.counts.length).any w.bad
def Wt.own (w:Wt) (S:Nat) (i:Nat):Bool:=decide (i+1<w.counts.length)&&decide (w.thr i (i+1)&&&S≠0)
def Z7W (own:Nat→Bool) (t:Nat):Nat→Nat×Int→Nat×Int:=fun i p=>bif own i then (min p.1 i,(i:Int)) else p
def Z3Y (own:Nat→Bool) (f t:Nat):Nat×Int:=(List.range' f (t-f)).foldl (fun p i=>Z7W own t i p) (t,-2)
def Wt.good (w:Wt) (S e:Nat) (s:Nat×Nat):Bool:=decide ((Z3Y (w.own S) s.1 s.2).2+1=(e:Int))&&decide (w.thr s.1 s.2&&&S=w.thr s.1 s.2)&&decide (0<w.gap s.1 s.2)
def Wt.try1 (w:Wt) (S e:Nat) (tb:List Int) (b:Int) (s:Nat×Nat):Int:=bif w.good S e s&&decide (b<na0 tb (Z3Y (w.own S) s.1 s.2).1+w.gap s.1 s.2) then na0 tb (Z3Y (w.own S) s.1 s.2).1+w.gap s.1 s.2 else b
def Wt.prvN (w:Wt) (S e:Nat) (tb:List Int):Int:=bif w.own S (e-1) then (Z1D w.counts.length).foldl (w.try1 S e tb) (na0 tb (e-1)) else na0 tb (e-1)
def Wt.prvT (w:Wt) (S:Nat):Nat→List Int
 | 0=>[0]
 | e+1=>w.prvT S e++[w.prvN S (e+1) (w.prvT S e)]
def Wt.prv (w:Wt) (S:Nat):Int:=na0 (w.prvT S (w.counts.length-1)) (w.counts.length-1)
open Go
theorem Z1Y:Z1g Tryz.prog 126=some 6:=by kernel_rfl
theorem Z0K:Z1g Tryz.prog 188=some 3:=by kernel_rfl
theorem Zd1:Z1g Tryz.prog 190=some 2:=by kernel_rfl
theorem Zd2:Z1g Tryz.prog 192=some 3:=by kernel_rfl
theorem Zio:apT Tryz.prog 122=some (188,3,24):=by kernel_rfl
theorem Zg9:cal Tryz.prog 198=true:=by kernel_rfl
theorem Z24:cal Tryz.prog 199=true:=by kernel_rfl
theorem Zco:cal Tryz.prog 200=true:=by kernel_rfl
theorem Zga:cal Tryz.prog 201=true:=by kernel_rfl
theorem Z78:cal Tryz.prog 202=true:=by kernel_rfl
theorem Zgb:cal Tryz.prog 203=true:=by kernel_rfl
theorem Zgc:cal Tryz.prog 204=true:=by kernel_rfl
theorem Z9n:cal Tryz.prog 205=true:=by kernel_rfl
theorem Zgd:cal Tryz.prog 206=true:=by kernel_rfl
theorem Zge:cal Tryz.prog 207=true:=by kernel_rfl
theorem Zgf:cal Tryz.prog 208=true:=by kernel_rfl
theorem Zgg:cal Tryz.prog 209=true:=by kernel_rfl
theorem Zgh:cal Tryz.prog 210=true:=by kernel_rfl
theorem Zgi:cal Tryz.prog 211=true:=by kernel_rfl
theorem Zgj:cal Tryz.prog 212=true:=by kernel_rfl
theorem Zgk:cal Tryz.prog 213=true:=by kernel_rfl
theorem Zgl:cal Tryz.prog 214=true:=by kernel_rfl
theorem Zgw:cal Tryz.prog 233=true:=by kernel_rfl
theorem Zgx:cal Tryz.prog 234=true:=by kernel_rfl
theorem Zgy:cal Tryz.prog 235=true:=by kernel_rfl
theorem Zgz:cal Tryz.prog 236=true:=by kernel_rfl
theorem ZgA:cal Tryz.prog 237=true:=by kernel_rfl
theorem ZgB:cal Tryz.prog 238=true:=by kernel_rfl
theorem ZgF:cal Tryz.prog 245=true:=by kernel_rfl
theorem ZgG:cal Tryz.prog 246=true:=by kernel_rfl
theorem ZgH:cal Tryz.prog 247=true:=by kernel_rfl
theorem Zdz:ZB Tryz.prog 131=some 1:=by kernel_rfl
theorem Z2t:elN Tryz.prog 122=some 3:=by kernel_rfl
theorem Zh3:elN Tryz.prog 123=some 2:=by kernel_rfl
theorem Zh4:elN Tryz.prog 124=some 3:=by kernel_rfl
theorem Z9K:ZT Tryz.prog 126 0=some 0:=by kernel_rfl
theorem Z9L:ZT Tryz.prog 126 1=some 1:=by kernel_rfl
theorem Z6t:ZT Tryz.prog 126 2=some 2:=by kernel_rfl
theorem ZN:ZT Tryz.prog 126 3=some 3:=by kernel_rfl
theorem Z6u:ZT Tryz.prog 126 4=some 4:=by kernel_rfl
theorem Z3s:ZT Tryz.prog 126 5=some 5:=by kernel_rfl
theorem Z0N:ZT Tryz.prog 188 0=some 0:=by kernel_rfl
theorem Z1p:ZT Tryz.prog 188 1=some 1:=by kernel_rfl
theorem Z9N:ZT Tryz.prog 190 0=some 0:=by kernel_rfl
theorem Z4L:ZT Tryz.prog 190 1=some 1:=by kernel_rfl
theorem Z9O:ZT Tryz.prog 192 0=some 0:=by kernel_rfl
theorem Z6y:ZT Tryz.prog 192 1=some 1:=by kernel_rfl
theorem Z6z:ZT Tryz.prog 192 2=some 2:=by kernel_rfl
theorem Z28:ZT Tryz.prog 34 0=some 0:=by kernel_rfl
theorem Z29:ZT Tryz.prog 34 1=some 1:=by kernel_rfl
theorem Z0p:Z2n Tryz.prog 122=true:=by kernel_rfl
theorem Z9V:Z2n Tryz.prog 123=true:=by kernel_rfl
theorem Z9W:Z2n Tryz.prog 124=true:=by kernel_rfl
theorem Z02:Z0g Tryz.prog 122=true:=by kernel_rfl
theorem Zej:Z0g Tryz.prog 123=true:=by kernel_rfl
theorem Zao:Z0g Tryz.prog 124=true:=by kernel_rfl
theorem Z51:Z0g Tryz.prog 131=true:=by kernel_rfl
theorem ZjN:Z0g Tryz.prog 285=true:=by kernel_rfl
theorem ZjO:Z0g Tryz.prog 287=true:=by kernel_rfl
theorem ZjP:Z0g Tryz.prog 289=true:=by kernel_rfl
theorem sc3:Z0g Tryz.prog 3=true:=by kernel_rfl
theorem Zem:slE Tryz.prog 122=some (188,3):=by kernel_rfl
theorem ZeE:Zw Tryz.prog 131=some ([.nilFunc]):=by kernel_rfl
def crow (c:Cnt):List Value:=[.int .i64 c.hour,.int .i64 c.lo,.int .i64 c.hi]
def crows (l:List Cnt):List (List Value):=l.map crow
def bkrow (b:Bkg):List Value:=[.int .i64 b.hour,.int .i64 b.sacks]
def bkrows (l:List Bkg):List (List Value):=l.map bkrow
def sprow (s:Spl):List Value:=[.int .i64 s.hand,.int .i64 s.fr,.int .i64 s.to]
def sprows (l:List Spl):List (List Value):=l.map sprow
abbrev irows (l:List Int):List (List Value):=l.map fun z=>[.int .i64 z]
def wtl (w:Wt) (a1 a2 a3:Option Addr) (k1 k2 k3:Nat):List Value:=[.int .i64 w.hours,.int .i64 w.allow,.int .i64 w.hands,.slice a1 w.counts.length k1,.slice a2 w.books.length k2,.slice a3 w.spells.length k3]
def Wt.v (w:Wt) (a1 a2 a3:Option Addr) (k1 k2 k3:Nat):Value:=.agg (wtl w a1 a2 a3 k1 k2 k3).toArray
theorem ZS {l:List Cnt} {k:Nat} {x:Cnt} (h:l[k]?=some x):(crows l)[k]?=some (crow x):=by simp [crows,h]
theorem Zf5 {l:List Bkg} {k:Nat} {x:Bkg} (h:l[k]?=some x):(bkrows l)[k]?=some (bkrow x):=by simp [bkrows,h]
theorem ZhV {l:List Spl} {k:Nat} {x:Spl} (h:l[k]?=some x):(sprows l)[k]?=some (sprow x):=by simp [sprows,h]
theorem Z79 (l:List Cnt):(crows l).length=l.length:=List.length_map _
theorem Z74 {α:Type} (l:List α):(l.all fun _=>true)=true:=by simp
theorem Z2Z {a:Option Addr} {sz:Nat} {rows:List (List Value)} {w:World} (h:RowsA a sz rows w) (ha:a.isNone=true):rows=[]:=by
 false_or_by_contra
 rename_i h0
 obtain ⟨b,off,e⟩:=Z3I h h0
 rw [e] at ha;cases ha
theorem Zr {α:Type} {xs:List α} {p:α→Bool} {k:Nat} {x:α} (hx:xs[k]?=some x) (hn:∀ y∈xs.take k,p y=false) (h:p x=true):xs.findIdx? p=some k:=by
 induction xs generalizing k with
 | nil=>simp at hx
 | cons y ys ih =>
   cases k with
   | zero=>simp only [List.getElem?_cons_zero,Option.some.injEq] at hx;subst hx;simp [List.findIdx?_cons,h]
   | succ k =>
     have hy:=hn y (by simp)
     have:=ih (by simpa using hx) (fun z hz=>hn z (by simp [hz]))
     simp [List.findIdx?_cons,hy,this]
theorem Zp {α:Type} {xs:List α} {p:α→Bool} (hn:∀ y∈xs,p y=false):xs.findIdx? p=none:=by
 rw [List.findIdx?_eq_none_iff];exact hn
theorem ZJ {α:Type} {xs:List α} {p:α→Bool} {k:Nat} {x:α} (hx:xs[k]?=some x) (hn:∀ y∈xs.take k,p y=false) (h:p x=false):∀ y∈xs.take (k+1),p y=false:=by
 intro y hy
 rw [List.take_add_one,hx] at hy
 rcases List.mem_append.1 hy with h1 | h1
 · exact hn y h1
 · simp only [Option.toList_some,List.mem_singleton] at h1;subst h1;exact h
theorem Z0b {α:Type} (xs:List α) (p:α→Bool):Value.bool (decide (0≤(match xs.findIdx? p with | some k=>(k:Int) | none => -1))) = .bool (xs.any p):=by
 congr 1
 cases h:xs.findIdx? p with
 | none =>
   have:=List.findIdx?_eq_none_iff.1 h
   have h2:xs.any p=false:=by simpa using this
   rw [h2];rfl
 | some k =>
   have h2:xs.any p=true:=by
     rw [← Bool.not_eq_false];intro h3
     have:xs.findIdx? p=none:=List.findIdx?_eq_none_iff.2 (by simpa using h3)
     rw [this] at h;cases h
   rw [h2];simp
theorem Zx {α:Type} (xs:List α) (p:α→Bool):Value.bool (!xs.any fun x=>!p x) = .bool (xs.all p):=by
 congr 1
 induction xs with
 | nil=>rfl
 | cons x xs ih=>simp [← ih]
theorem Z6l (n lo hi:Int) (H:Z7) (R:Z4) :
    FnV Tryz.prog 199 [.int .i64 n,.int .i64 lo,.int .i64 hi] H R (.bool (inL n lo hi)):=by
 refine Z9 Tryz.func199 rfl Tryz.ntmps199 rfl ?_
 refine sqt 1 rfl (pur 1 rfl (sqt 9 rfl (pur 4 rfl ?_)))
 refine Zv 10 rfl ?_ ?_<;>intro g10
 refine pur 5 rfl (Z5 ?_)
 exact rtA rfl rfl rfl ⟨by simp_all only [Z08,inL,Bool.true_and,Bool.false_and,cond_true,cond_false],rfl,rfl⟩ drp
 refine pur 5 rfl (Z5 ?_)
 exact rtA rfl rfl rfl ⟨by simp_all only [Z08,inL,Bool.true_and,Bool.false_and,cond_true,cond_false],rfl,rfl⟩ drp
theorem Z0w (n lo hi:Int) (h:lo≤n∧n≤hi) (H:Z7) (R:Z4):FnV Tryz.prog 199 [.int .i64 n,.int .i64 lo,.int .i64 hi] H R (.bool true):=by
 have:=Z6l n lo hi H R
 rwa [show inL n lo hi=true by simp [inL,h]] at this
theorem Z77 (wt:Wt) (a1 a2 a3:Option Addr) (k1 k2 k3:Nat) (n:Int) (H:Z7) (R:Z4) :
    FnV Tryz.prog 202 [(wt.v a1 a2 a3 k1 k2 k3),.int .i64 n] H R (.bool (inL n 0 wt.hours)):=by
 refine Z9 Tryz.func202 rfl Tryz.ntmps202 rfl ?_
 refine sqt 2 rfl (bx rfl rfl rfl (fun b2=>pur 1 rfl (sqt 5 rfl (pur 1 rfl (sp rfl (PE.fA Z9K rfl) rfl (spL rfl rfl (lh sc3 rfl rfl) rfl ?_))))))
 refine clV rfl Z24 rfl rfl (Z6l _ _ _ _ _) ?_
 refine pur 1 rfl (Z5 ?_)
 exact rtA rfl rfl rfl ⟨rfl,rfl,rfl⟩ drp
theorem Zfg (wt:Wt) (a1 a2 a3:Option Addr) (k1 k2 k3:Nat) (n:Int) (hh : -1000000≤wt.hands∧wt.hands≤1000000) (H:Z7) (R:Z4) :
    FnV Tryz.prog 198 [(wt.v a1 a2 a3 k1 k2 k3),.int .i64 n] H R (.bool (inL n 0 (wt.hands-1))):=by
 refine Z9 Tryz.func198 rfl Tryz.ntmps198 rfl ?_
 refine sqt 2 rfl (bx rfl rfl rfl (fun b2=>pur 1 rfl (sqt 6 rfl (pur 1 rfl (sp rfl (PE.fA Z6t rfl) rfl (spL rfl rfl (lh sc3 rfl rfl) rfl (sp rfl (PE.sub rfl rfl (by omega)) rfl ?_)))))))
 refine clV rfl Z24 rfl rfl (Z6l _ _ _ _ _) ?_
 refine pur 1 rfl (Z5 ?_)
 exact rtA rfl rfl rfl ⟨rfl,rfl,rfl⟩ drp
theorem Z91 (xs:List Cnt) (a:Option Addr) (c g:Nat) (fst cap:List Value) (p:Cnt→Bool) (hg:cal Tryz.prog g=true) (hl:xs.length≤9223372036854775807) (H:Z7) (R:Z4) [hR:MemRows a 3 (crows xs) R] (hp:∀ x,x∈xs→FnV Tryz.prog g (fst++[.agg (crow x).toArray]++cap) H R (.bool (p x))) :
    FnV Tryz.prog 245 [.slice a xs.length c,.func (.func g) fst.toArray cap.toArray] H R (.int .i64 (match xs.findIdx? p with | some k=>(k:Int) | none => -1)):=by
 refine Z9 Tryz.func245 rfl Tryz.ntmps245 rfl ?_
 refine sqt 1 rfl (pur 1 rfl (Z0 (sqt 3 rfl (pur 1 rfl (sp rfl (PE.lenSl Z0p rfl) rfl (pur 1 rfl (Z1 ?_)))))))
 refine Zc (ι:={k:Nat // k≤xs.length∧∀ x∈xs.take k,p x=false}) (fun k=>⟨[(0,.slice a xs.length c),(1,.func (.func g) fst.toArray cap.toArray),(7,.int .i64 xs.length),(8,.int .i64 k.1)],H,R⟩) (fun k=>xs.length-k.1) ⟨0,by simp⟩ ?_ (fun k=>?_)
 exact Zf idH
 obtain ⟨k,hk,hn⟩:=k
 dsimp only
 refine sqt 1 rfl (pur 1 rfl (Z0 ?_))
 refine Z2 rfl ?_ ?_<;>intro hc0
 simp only [cS] at hc0
 obtain ⟨x,hx⟩:∃ x,xs[k]?=some x:=⟨_,List.getElem?_eq_getElem (by omega)⟩
 have hxm:=List.mem_of_getElem? hx
 refine Zl (a:=a) (sz:=3) (rows:=crows xs) (by cases xs<;>simp_all [crows]) (fun b off he=>?_)
 subst he
 refine Z3 (Z0 (Z1 (sqt 2 rfl (pur 2 rfl (sqt 6 rfl (pur 3 rfl (sp rfl (PE.indexAddr Z2t rfl rfl (by omega) (by omega)) rfl (spL rfl rfl (lfA Z0K (row:=crow x) (by simp [crows,hx]) rfl) rfl ?_))))))))
 refine Z2r rfl rfl (hg) rfl rfl (hp x hxm) ?_
 refine Z2 rfl ?_ ?_<;>intro hc1
 refine sqt 2 rfl (pur 2 rfl (Z5 ?_))
 first | (exact rtA rfl rfl rfl ⟨by rw [Zr hx hn hc1];rfl,rfl,rfl⟩ idH) | (exact rtA rfl rfl rfl ⟨by rw [Zp (by simpa using hn)];rfl,rfl,rfl⟩ idH)
 refine Z3 (sqr 2 rfl (sp rfl (PE.add rfl rfl (by omega)) rfl (pur 1 rfl ?_)))
 exact Zb ⟨k+1,by omega,ZJ hx hn hc1⟩ idH
 simp only [cS] at hc0
 obtain rfl:k=xs.length:=by omega
 refine Z8 (Za (Za (Zn (sqt 1 rfl (pur 1 rfl (Z5 ?_))))))
 first | (exact rtA rfl rfl rfl ⟨by rw [Zr hx hn hc1];rfl,rfl,rfl⟩ idH) | (exact rtA rfl rfl rfl ⟨by rw [Zp (by simpa using hn)];rfl,rfl,rfl⟩ idH)
theorem Z8V (xs:List Cnt) (a:Option Addr) (c g:Nat) (fst cap:List Value) (p:Cnt→Bool) (hg:cal Tryz.prog g=true) (hl:xs.length≤9223372036854775807) (H:Z7) (R:Z4) [hR:MemRows a 3 (crows xs) R] (hp:∀ x,x∈xs→FnV Tryz.prog g (fst++[.agg (crow x).toArray]++cap) H R (.bool (p x))) :
    FnV Tryz.prog 233 [.slice a xs.length c,.func (.func g) fst.toArray cap.toArray] H R (.bool (xs.any p)):=by
 refine Z9 Tryz.func233 rfl Tryz.ntmps233 rfl ?_
 refine sqt 1 rfl (pur 1 rfl (sqt 5 rfl (pur 2 rfl ?_)))
 refine clV rfl ZgF rfl rfl (Z91 xs a c g fst cap p hg hl _ _ hp) ?_
 refine pur 2 rfl (Z5 ?_)
 exact rtA rfl rfl rfl ⟨by simp only [Z08];exact Z0b _ _,rfl,rfl⟩ drp
theorem Z8M (x:Cnt) (g bf:Nat) (fst cap:List Value) (p:Bool) (hg:cal Tryz.prog g=true) (H:Z7) (R:Z4) [hM:Mem1 bf (cel 285 [.func (.func g) fst.toArray cap.toArray]) H] (hp:∀ b,FnV Tryz.prog g (fst++[.agg (crow x).toArray]++cap) ((b,cel 188 (crow x))::H) R (.bool p)) :
    FnV Tryz.prog 234 [.agg (crow x).toArray,.pointer (some ⟨bf,0,none⟩)] H R (.bool !p):=by
 refine Z9 Tryz.func234 rfl Tryz.ntmps234 rfl ?_
 refine sqt 2 rfl (bx rfl rfl rfl (fun b2=>pur 1 rfl (sqt 5 rfl (spL rfl rfl (lh ZjN rfl rfl) rfl (spL rfl rfl (lhA [_,_,_] Z0K rfl rfl rfl) rfl ?_)))))
 refine Z2r rfl rfl (hg) rfl rfl (hp _) ?_
 refine pur 2 rfl (Z5 ?_)
 exact rtA rfl rfl rfl ⟨rfl,rfl,rfl⟩ drp
theorem Z3b (xs:List Cnt) (a:Option Addr) (c g:Nat) (fst cap:List Value) (p:Cnt→Bool) (hg:cal Tryz.prog g=true) (hl:xs.length≤9223372036854775807) (H:Z7) (R:Z4) [hR:MemRows a 3 (crows xs) R] (hp:∀ b b2 x,x∈xs→FnV Tryz.prog g (fst++[.agg (crow x).toArray]++cap) ((b2,cel 188 (crow x))::(b,cel 285 [.func (.func g) fst.toArray cap.toArray])::H) R (.bool (p x))) :
    FnV Tryz.prog 200 [.slice a xs.length c,.func (.func g) fst.toArray cap.toArray] H R (.bool (xs.all p)):=by
 refine Z9 Tryz.func200 rfl Tryz.ntmps200 rfl ?_
 refine sqt 2 rfl (bx rfl rfl rfl (fun b3=>pur 1 rfl (sqt 5 rfl (pur 1 rfl (sp rfl (PE.makeFunc rfl rfl) rfl ?_)))))
 refine clV rfl Zgw rfl rfl (Z8V xs a c 234 [] [_] (fun x=>!p x) Zgx hl _ _ (hp:=fun x hx=>Z8M x g _ fst cap (p x) hg _ _ (hp:=fun b=>hp _ _ x hx))) ?_
 refine pur 2 rfl (Z5 ?_)
 exact rtA rfl rfl rfl ⟨by simp only [Z08];rw [Zx],rfl,rfl⟩ drp
theorem Z90 (xs:List Bkg) (a:Option Addr) (c g:Nat) (fst cap:List Value) (p:Bkg→Bool) (hg:cal Tryz.prog g=true) (hl:xs.length≤9223372036854775807) (H:Z7) (R:Z4) [hR:MemRows a 2 (bkrows xs) R] (hp:∀ x,x∈xs→FnV Tryz.prog g (fst++[.agg (bkrow x).toArray]++cap) H R (.bool (p x))) :
    FnV Tryz.prog 246 [.slice a xs.length c,.func (.func g) fst.toArray cap.toArray] H R (.int .i64 (match xs.findIdx? p with | some k=>(k:Int) | none => -1)):=by
 refine Z9 Tryz.func246 rfl Tryz.ntmps246 rfl ?_
 refine sqt 1 rfl (pur 1 rfl (Z0 (sqt 3 rfl (pur 1 rfl (sp rfl (PE.lenSl Z9V rfl) rfl (pur 1 rfl (Z1 ?_)))))))
 refine Zc (ι:={k:Nat // k≤xs.length∧∀ x∈xs.take k,p x=false}) (fun k=>⟨[(0,.slice a xs.length c),(1,.func (.func g) fst.toArray cap.toArray),(7,.int .i64 xs.length),(8,.int .i64 k.1)],H,R⟩) (fun k=>xs.length-k.1) ⟨0,by simp⟩ ?_ (fun k=>?_)
 exact Zf idH
 obtain ⟨k,hk,hn⟩:=k
 dsimp only
 refine sqt 1 rfl (pur 1 rfl (Z0 ?_))
 refine Z2 rfl ?_ ?_<;>intro hc0
 simp only [cS] at hc0
 obtain ⟨x,hx⟩:∃ x,xs[k]?=some x:=⟨_,List.getElem?_eq_getElem (by omega)⟩
 have hxm:=List.mem_of_getElem? hx
 refine Zl (a:=a) (sz:=2) (rows:=bkrows xs) (by cases xs<;>simp_all [bkrows]) (fun b off he=>?_)
 subst he
 refine Z3 (Z0 (Z1 (sqt 2 rfl (pur 2 rfl (sqt 6 rfl (pur 3 rfl (sp rfl (PE.indexAddr Zh3 rfl rfl (by omega) (by omega)) rfl (spL rfl rfl (lfA Zd1 (row:=bkrow x) (by simp [bkrows,hx]) rfl) rfl ?_))))))))
 refine Z2r rfl rfl (hg) rfl rfl (hp x hxm) ?_
 refine Z2 rfl ?_ ?_<;>intro hc1
 refine sqt 2 rfl (pur 2 rfl (Z5 ?_))
 first | (exact rtA rfl rfl rfl ⟨by rw [Zr hx hn hc1];rfl,rfl,rfl⟩ idH) | (exact rtA rfl rfl rfl ⟨by rw [Zp (by simpa using hn)];rfl,rfl,rfl⟩ idH)
 refine Z3 (sqr 2 rfl (sp rfl (PE.add rfl rfl (by omega)) rfl (pur 1 rfl ?_)))
 exact Zb ⟨k+1,by omega,ZJ hx hn hc1⟩ idH
 simp only [cS] at hc0
 obtain rfl:k=xs.length:=by omega
 refine Z8 (Za (Za (Zn (sqt 1 rfl (pur 1 rfl (Z5 ?_))))))
 first | (exact rtA rfl rfl rfl ⟨by rw [Zr hx hn hc1];rfl,rfl,rfl⟩ idH) | (exact rtA rfl rfl rfl ⟨by rw [Zp (by simpa using hn)];rfl,rfl,rfl⟩ idH)
theorem Z8U (xs:List Bkg) (a:Option Addr) (c g:Nat) (fst cap:List Value) (p:Bkg→Bool) (hg:cal Tryz.prog g=true) (hl:xs.length≤9223372036854775807) (H:Z7) (R:Z4) [hR:MemRows a 2 (bkrows xs) R] (hp:∀ x,x∈xs→FnV Tryz.prog g (fst++[.agg (bkrow x).toArray]++cap) H R (.bool (p x))) :
    FnV Tryz.prog 235 [.slice a xs.length c,.func (.func g) fst.toArray cap.toArray] H R (.bool (xs.any p)):=by
 refine Z9 Tryz.func235 rfl Tryz.ntmps235 rfl ?_
 refine sqt 1 rfl (pur 1 rfl (sqt 5 rfl (pur 2 rfl ?_)))
 refine clV rfl ZgG rfl rfl (Z90 xs a c g fst cap p hg hl _ _ hp) ?_
 refine pur 2 rfl (Z5 ?_)
 exact rtA rfl rfl rfl ⟨by simp only [Z08];exact Z0b _ _,rfl,rfl⟩ drp
theorem Z8L (x:Bkg) (g bf:Nat) (fst cap:List Value) (p:Bool) (hg:cal Tryz.prog g=true) (H:Z7) (R:Z4) [hM:Mem1 bf (cel 287 [.func (.func g) fst.toArray cap.toArray]) H] (hp:∀ b,FnV Tryz.prog g (fst++[.agg (bkrow x).toArray]++cap) ((b,cel 190 (bkrow x))::H) R (.bool p)) :
    FnV Tryz.prog 236 [.agg (bkrow x).toArray,.pointer (some ⟨bf,0,none⟩)] H R (.bool !p):=by
 refine Z9 Tryz.func236 rfl Tryz.ntmps236 rfl ?_
 refine sqt 2 rfl (bx rfl rfl rfl (fun b2=>pur 1 rfl (sqt 5 rfl (spL rfl rfl (lh ZjO rfl rfl) rfl (spL rfl rfl (lhA [_,_] Zd1 rfl rfl rfl) rfl ?_)))))
 refine Z2r rfl rfl (hg) rfl rfl (hp _) ?_
 refine pur 2 rfl (Z5 ?_)
 exact rtA rfl rfl rfl ⟨rfl,rfl,rfl⟩ drp
theorem Z6j (xs:List Bkg) (a:Option Addr) (c g:Nat) (fst cap:List Value) (p:Bkg→Bool) (hg:cal Tryz.prog g=true) (hl:xs.length≤9223372036854775807) (H:Z7) (R:Z4) [hR:MemRows a 2 (bkrows xs) R] (hp:∀ b b2 x,x∈xs→FnV Tryz.prog g (fst++[.agg (bkrow x).toArray]++cap) ((b2,cel 190 (bkrow x))::(b,cel 287 [.func (.func g) fst.toArray cap.toArray])::H) R (.bool (p x))) :
    FnV Tryz.prog 203 [.slice a xs.length c,.func (.func g) fst.toArray cap.toArray] H R (.bool (xs.all p)):=by
 refine Z9 Tryz.func203 rfl Tryz.ntmps203 rfl ?_
 refine sqt 2 rfl (bx rfl rfl rfl (fun b3=>pur 1 rfl (sqt 5 rfl (pur 1 rfl (sp rfl (PE.makeFunc rfl rfl) rfl ?_)))))
 refine clV rfl Zgy rfl rfl (Z8U xs a c 236 [] [_] (fun x=>!p x) Zgz hl _ _ (hp:=fun x hx=>Z8L x g _ fst cap (p x) hg _ _ (hp:=fun b=>hp _ _ x hx))) ?_
 refine pur 2 rfl (Z5 ?_)
 exact rtA rfl rfl rfl ⟨by simp only [Z08];rw [Zx],rfl,rfl⟩ drp
theorem Z94 (xs:List Spl) (a:Option Addr) (c g:Nat) (fst cap:List Value) (p:Spl→Bool) (hg:cal Tryz.prog g=true) (hl:xs.length≤9223372036854775807) (H:Z7) (R:Z4) [hR:MemRows a 3 (sprows xs) R] (hp:∀ x,x∈xs→FnV Tryz.prog g (fst++[.agg (sprow x).toArray]++cap) H R (.bool (p x))) :
    FnV Tryz.prog 247 [.slice a xs.length c,.func (.func g) fst.toArray cap.toArray] H R (.int .i64 (match xs.findIdx? p with | some k=>(k:Int) | none => -1)):=by
 refine Z9 Tryz.func247 rfl Tryz.ntmps247 rfl ?_
 refine sqt 1 rfl (pur 1 rfl (Z0 (sqt 3 rfl (pur 1 rfl (sp rfl (PE.lenSl Z9W rfl) rfl (pur 1 rfl (Z1 ?_)))))))
 refine Zc (ι:={k:Nat // k≤xs.length∧∀ x∈xs.take k,p x=false}) (fun k=>⟨[(0,.slice a xs.length c),(1,.func (.func g) fst.toArray cap.toArray),(7,.int .i64 xs.length),(8,.int .i64 k.1)],H,R⟩) (fun k=>xs.length-k.1) ⟨0,by simp⟩ ?_ (fun k=>?_)
 exact Zf idH
 obtain ⟨k,hk,hn⟩:=k
 dsimp only
 refine sqt 1 rfl (pur 1 rfl (Z0 ?_))
 refine Z2 rfl ?_ ?_<;>intro hc0
 simp only [cS] at hc0
 obtain ⟨x,hx⟩:∃ x,xs[k]?=some x:=⟨_,List.getElem?_eq_getElem (by omega)⟩
 have hxm:=List.mem_of_getElem? hx
 refine Zl (a:=a) (sz:=3) (rows:=sprows xs) (by cases xs<;>simp_all [sprows]) (fun b off he=>?_)
 subst he
 refine Z3 (Z0 (Z1 (sqt 2 rfl (pur 2 rfl (sqt 6 rfl (pur 3 rfl (sp rfl (PE.indexAddr Zh4 rfl rfl (by omega) (by omega)) rfl (spL rfl rfl (lfA Zd2 (row:=sprow x) (by simp [sprows,hx]) rfl) rfl ?_))))))))
 refine Z2r rfl rfl (hg) rfl rfl (hp x hxm) ?_
 refine Z2 rfl ?_ ?_<;>intro hc1
 refine sqt 2 rfl (pur 2 rfl (Z5 ?_))
 first | (exact rtA rfl rfl rfl ⟨by rw [Zr hx hn hc1];rfl,rfl,rfl⟩ idH) | (exact rtA rfl rfl rfl ⟨by rw [Zp (by simpa using hn)];rfl,rfl,rfl⟩ idH)
 refine Z3 (sqr 2 rfl (sp rfl (PE.add rfl rfl (by omega)) rfl (pur 1 rfl ?_)))
 exact Zb ⟨k+1,by omega,ZJ hx hn hc1⟩ idH
 simp only [cS] at hc0
 obtain rfl:k=xs.length:=by omega
 refine Z8 (Za (Za (Zn (sqt 1 rfl (pur 1 rfl (Z5 ?_))))))
 first | (exact rtA rfl rfl rfl ⟨by rw [Zr hx hn hc1];rfl,rfl,rfl⟩ idH) | (exact rtA rfl rfl rfl ⟨by rw [Zp (by simpa using hn)];rfl,rfl,rfl⟩ idH)
theorem Z8Y (xs:List Spl) (a:Option Addr) (c g:Nat) (fst cap:List Value) (p:Spl→Bool) (hg:cal Tryz.prog g=true) (hl:xs.length≤9223372036854775807) (H:Z7) (R:Z4) [hR:MemRows a 3 (sprows xs) R] (hp:∀ x,x∈xs→FnV Tryz.prog g (fst++[.agg (sprow x).toArray]++cap) H R (.bool (p x))) :
    FnV Tryz.prog 237 [.slice a xs.length c,.func (.func g) fst.toArray cap.toArray] H R (.bool (xs.any p)):=by
 refine Z9 Tryz.func237 rfl Tryz.ntmps237 rfl ?_
 refine sqt 1 rfl (pur 1 rfl (sqt 5 rfl (pur 2 rfl ?_)))
 refine clV rfl ZgH rfl rfl (Z94 xs a c g fst cap p hg hl _ _ hp) ?_
 refine pur 2 rfl (Z5 ?_)
 exact rtA rfl rfl rfl ⟨by simp only [Z08];exact Z0b _ _,rfl,rfl⟩ drp
theorem Z8P (x:Spl) (g bf:Nat) (fst cap:List Value) (p:Bool) (hg:cal Tryz.prog g=true) (H:Z7) (R:Z4) [hM:Mem1 bf (cel 289 [.func (.func g) fst.toArray cap.toArray]) H] (hp:∀ b,FnV Tryz.prog g (fst++[.agg (sprow x).toArray]++cap) ((b,cel 192 (sprow x))::H) R (.bool p)) :
    FnV Tryz.prog 238 [.agg (sprow x).toArray,.pointer (some ⟨bf,0,none⟩)] H R (.bool !p):=by
 refine Z9 Tryz.func238 rfl Tryz.ntmps238 rfl ?_
 refine sqt 2 rfl (bx rfl rfl rfl (fun b2=>pur 1 rfl (sqt 5 rfl (spL rfl rfl (lh ZjP rfl rfl) rfl (spL rfl rfl (lhA [_,_,_] Zd2 rfl rfl rfl) rfl ?_)))))
 refine Z2r rfl rfl (hg) rfl rfl (hp _) ?_
 refine pur 2 rfl (Z5 ?_)
 exact rtA rfl rfl rfl ⟨rfl,rfl,rfl⟩ drp
theorem Z1M (xs:List Spl) (a:Option Addr) (c g:Nat) (fst cap:List Value) (p:Spl→Bool) (hg:cal Tryz.prog g=true) (hl:xs.length≤9223372036854775807) (H:Z7) (R:Z4) [hR:MemRows a 3 (sprows xs) R] (hp:∀ b b2 x,x∈xs→FnV Tryz.prog g (fst++[.agg (sprow x).toArray]++cap) ((b2,cel 192 (sprow x))::(b,cel 289 [.func (.func g) fst.toArray cap.toArray])::H) R (.bool (p x))) :
    FnV Tryz.prog 205 [.slice a xs.length c,.func (.func g) fst.toArray cap.toArray] H R (.bool (xs.all p)):=by
 refine Z9 Tryz.func205 rfl Tryz.ntmps205 rfl ?_
 refine sqt 2 rfl (bx rfl rfl rfl (fun b3=>pur 1 rfl (sqt 5 rfl (pur 1 rfl (sp rfl (PE.makeFunc rfl rfl) rfl ?_)))))
 refine clV rfl ZgA rfl rfl (Z8Y xs a c 238 [] [_] (fun x=>!p x) ZgB hl _ _ (hp:=fun x hx=>Z8P x g _ fst cap (p x) hg _ _ (hp:=fun b=>hp _ _ x hx))) ?_
 refine pur 2 rfl (Z5 ?_)
 exact rtA rfl rfl rfl ⟨by simp only [Z08];rw [Zx],rfl,rfl⟩ drp
theorem Z6h (xs:List Cnt) (a:Option Addr) (c:Nat) (hl:xs.length≤1000000) (H:Z7) (R:Z4) [hR:MemRows a 3 (crows xs) R] :
    Fn Tryz.prog 211 [.slice a xs.length c] H R (fun v H' R'=>∃ o:OSl 188 3 (crows xs),v=o.fs∧H'=o.G++H∧R'=R):=by
 refine Z9 Tryz.func211 rfl Tryz.ntmps211 rfl ?_
 refine sqt 1 rfl (pur 1 rfl (Z0 (sqt 2 rfl (pur 1 rfl (sp rfl (PE.eqlNil Z0p rfl rfl) rfl ?_)))))
 refine Z2 rfl ?_ ?_<;>intro hc0
 refine Sy.pre (fun w h=>Z2Z (h.now hR.mem) hc0) (fun hnil=>?_)
 obtain rfl:xs=[]:=by simpa [crows] using hnil
 refine sqt 1 rfl (pur 1 rfl (Z5 ?_))
 first
   | exact rtA rfl rfl rfl ⟨o2.cast (by simp),rfl,rfl,rfl⟩ idH
   | exact rtA rfl rfl rfl ⟨OSl.nil _ _,rfl,rfl,rfl⟩ idH
 refine Z3 (sqt 4 rfl ?_)
 refine Zf6 rfl Zem rfl (fun o5 ho5=>?_)
 refine pur 1 rfl ?_
 refine Zi9 (news:=crows xs) o5 rfl Zio rfl rfl (ZbD) (by simp [crows]) (by simp [Z0H,crows,crow,Value.oneCell']) ⟨by simp [crows];omega,by simp [crows];omega⟩ rfl ho5 (fun o2 ho2=>?_)
 refine pur 1 rfl (Z5 ?_)
 first
   | exact rtA rfl rfl rfl ⟨o2.cast (by simp),rfl,rfl,rfl⟩ idH
   | exact rtA rfl rfl rfl ⟨OSl.nil _ _,rfl,rfl,rfl⟩ idH
theorem Z5p (xs:List Cnt) (a:Option Addr) (c:Nat) (hl:xs.length≤1000000) (H:Z7) (R:Z4) [hR:MemRows a 3 (crows xs) R]:Fn Tryz.prog 211 [.slice a xs.length c] H R (fun v H' R'=>∃ a' c',v = .slice a' xs.length c'∧H'=H∧R'=RowsA a' 3 (crows xs)::R):=fun w hs=>by
 refine CallsIn.mono (Z6h xs a c hl H R w hs) ?_
 rintro e w' ⟨v,H',R',⟨o,rfl,rfl,rfl⟩,he,hs'⟩
 obtain ⟨a',c',h1,h2⟩:=o.freeze
 rw [show (crows xs).length=xs.length from List.length_map _] at h1
 exact ⟨_,_,_,⟨a',c',h1,rfl,rfl⟩,he,h2 hs'⟩
theorem Z5n (wt:Wt) (a1 a2 a3:Option Addr) (k1 k2 k3:Nat) (hw:wt.ok) (x:Cnt) (hx:x∈wt.counts) (b1:Nat) (H:Z7) (R:Z4) [hB:Mem1 b1 (cel 126 (wtl wt a1 a2 a3 k1 k2 k3)) H] :
    FnV Tryz.prog 201 [.agg (crow x).toArray,.pointer (some ⟨b1,0,none⟩)] H R (.bool true):=by
 have hb:=hw.cnt x hx
 refine Z9 Tryz.func201 rfl Tryz.ntmps201 rfl ?_
 refine sqt 2 rfl (bx rfl rfl rfl (fun b2=>pur 1 rfl (sqt 17 rfl (spL rfl rfl (lhA (wtl wt a1 a2 a3 k1 k2 k3) Z1Y rfl rfl rfl) rfl (sp rfl (PE.fA Z0N rfl) rfl (spL rfl rfl (lh sc3 rfl rfl) rfl ?_))))))
 refine cl rfl Z78 rfl rfl (Z77 wt a1 a2 a3 k1 k2 k3 x.hour _ _) ?_
 rintro _ _ R1 ⟨rfl,rfl,hR1⟩
 obtain rfl:=hR1.symm
 clear hR1
 rw [show inL x.hour 0 wt.hours=true by simp [inL];omega]
 refine pur 1 rfl ?_
 refine Zv 8 rfl ?_ ?_<;>intro g8
 refine spG rfl rfl rfl rfl (PE.fA Z1p rfl) rfl ?_
 refine spG rfl rfl rfl rfl (PE.fA Z28 rfl) rfl ?_
 refine Z1b rfl rfl rfl rfl rfl (lh sc3 rfl rfl) rfl ?_
 refine Z4A rfl rfl rfl rfl Z24 rfl rfl (Z0w _ _ _ (by omega) _ _) ?_
 refine pur 2 rfl ?_
 refine Zv 14 rfl ?_ ?_<;>intro g14
 refine spG rfl rfl rfl rfl (PE.fA Z1p rfl) rfl ?_
 refine spG rfl rfl rfl rfl (PE.fA Z29 rfl) rfl ?_
 refine Z1b rfl rfl rfl rfl rfl (lh sc3 rfl rfl) rfl ?_
 refine Z4A rfl rfl rfl rfl Z24 rfl rfl (Z0w _ _ _ (by omega) _ _) ?_
 refine pur 2 rfl (Z5 ?_)
 exact rtA rfl rfl rfl ⟨rfl,rfl,rfl⟩ drp
 exact absurd g14 (by simp)
 exact absurd g8 (by simp)
theorem Z5o (wt:Wt) (a1 a2 a3:Option Addr) (k1 k2 k3:Nat) (hw:wt.ok) (x:Bkg) (hx:x∈wt.books) (b1:Nat) (H:Z7) (R:Z4) [hB:Mem1 b1 (cel 126 (wtl wt a1 a2 a3 k1 k2 k3)) H] :
    FnV Tryz.prog 204 [.agg (bkrow x).toArray,.pointer (some ⟨b1,0,none⟩)] H R (.bool true):=by
 have hb:=hw.bks x hx
 refine Z9 Tryz.func204 rfl Tryz.ntmps204 rfl ?_
 refine sqt 2 rfl (bx rfl rfl rfl (fun b2=>pur 1 rfl (sqt 15 rfl (spL rfl rfl (lhA (wtl wt a1 a2 a3 k1 k2 k3) Z1Y rfl rfl rfl) rfl (sp rfl (PE.fA Z9N rfl) rfl (spL rfl rfl (lh sc3 rfl rfl) rfl ?_))))))
 refine cl rfl Z78 rfl rfl (Z77 wt a1 a2 a3 k1 k2 k3 x.hour _ _) ?_
 rintro _ _ R1 ⟨rfl,rfl,hR1⟩
 obtain rfl:=hR1.symm
 clear hR1
 rw [show inL x.hour 0 wt.hours=true by simp [inL];omega]
 refine pur 1 rfl ?_
 refine Zv 8 rfl ?_ ?_<;>intro g8
 refine spG rfl rfl rfl rfl (PE.fA Z4L rfl) rfl ?_
 refine Z1b rfl rfl rfl rfl rfl (lh sc3 rfl rfl) rfl ?_
 refine Z4A rfl rfl rfl rfl Z24 rfl rfl (Z0w _ _ _ (by omega) _ _) ?_
 refine pur 2 rfl ?_
 refine Zv 13 rfl ?_ ?_<;>intro g13
 refine spG rfl rfl rfl rfl (PE.fA Z4L rfl) rfl ?_
 refine Z1b rfl rfl rfl rfl rfl (lh sc3 rfl rfl) rfl (pur 3 rfl (Z5 ?_))
 exact rtA rfl rfl rfl ⟨by simp only [Z08,cond_true];rw [dT (by omega)],rfl,rfl⟩ drp
 exact absurd g13 (by simp)
 exact absurd g8 (by simp)
theorem Z8H (wt:Wt) (a1 a2 a3:Option Addr) (k1 k2 k3:Nat) (hw:wt.ok) (x:Spl) (hx:x∈wt.spells) (b1:Nat) (H:Z7) (R:Z4) [hB:Mem1 b1 (cel 126 (wtl wt a1 a2 a3 k1 k2 k3)) H] :
    FnV Tryz.prog 206 [.agg (sprow x).toArray,.pointer (some ⟨b1,0,none⟩)] H R (.bool true):=by
 have hb:=hw.spl x hx
 refine Z9 Tryz.func206 rfl Tryz.ntmps206 rfl ?_
 refine sqt 2 rfl (bx rfl rfl rfl (fun b2=>pur 1 rfl (sqt 11 rfl (spL rfl rfl (lhA (wtl wt a1 a2 a3 k1 k2 k3) Z1Y rfl rfl rfl) rfl (sp rfl (PE.fA Z6y rfl) rfl (spL rfl rfl (lh sc3 rfl rfl) rfl ?_))))))
 refine cl rfl Z78 rfl rfl (Z77 wt a1 a2 a3 k1 k2 k3 x.fr _ _) ?_
 rintro _ _ R1 ⟨rfl,rfl,hR1⟩
 obtain rfl:=hR1.symm
 clear hR1
 rw [show inL x.fr 0 wt.hours=true by simp [inL];omega]
 refine pur 1 rfl ?_
 refine Zv 8 rfl ?_ ?_<;>intro g8
 refine Z1b rfl rfl rfl rfl rfl (lhA (wtl wt a1 a2 a3 k1 k2 k3) Z1Y rfl rfl rfl) rfl ?_
 refine spG rfl rfl rfl rfl (PE.fA Z6z rfl) rfl ?_
 refine Z1b rfl rfl rfl rfl rfl (lh sc3 rfl rfl) rfl ?_
 refine clG rfl rfl rfl rfl Z78 rfl rfl (Z77 wt a1 a2 a3 k1 k2 k3 x.to _ _) ?_
 rintro _ _ R1 ⟨rfl,rfl,hR1⟩
 obtain rfl:=hR1.symm
 clear hR1
 rw [show inL x.to 0 wt.hours=true by simp [inL];omega]
 refine pur 2 rfl (Z5 ?_)
 exact rtA rfl rfl rfl ⟨rfl,rfl,rfl⟩ drp
 exact absurd g8 (by simp)
theorem Zf9 (wt:Wt) (a1 a2 a3:Option Addr) (k1 k2 k3:Nat) (hw:wt.ok) (x:Spl) (hx:x∈wt.spells) (b3:Nat) (H:Z7) (R:Z4) [hB:Mem1 b3 (cel 131 [.func (.func 198) #[(wt.v a1 a2 a3 k1 k2 k3)] #[]]) H] :
    FnV Tryz.prog 207 [.agg (sprow x).toArray,.pointer (some ⟨b3,0,none⟩)] H R (.bool true):=by
 have hb:=hw.spl x hx
 have hh:=hw.hands
 refine Z9 Tryz.func207 rfl Tryz.ntmps207 rfl ?_
 refine sqt 2 rfl (bx rfl rfl rfl (fun b2=>pur 1 rfl (sqt 5 rfl (spL rfl rfl (lh Z51 rfl rfl) rfl (sp rfl (PE.fA Z9O rfl) rfl (spL rfl rfl (lh sc3 rfl rfl) rfl ?_))))))
 refine clF rfl rfl (Zg9) rfl rfl (Zfg wt a1 a2 a3 k1 k2 k3 x.hand (by omega) _ _) ?_
 rintro _ _ R1 ⟨rfl,rfl,hR1⟩
 obtain rfl:=hR1.symm
 clear hR1
 rw [show inL x.hand 0 (wt.hands-1)=true by simp [inL];omega]
 refine pur 1 rfl (Z5 ?_)
 exact rtA rfl rfl rfl ⟨rfl,rfl,rfl⟩ drp
theorem Zfa (x y:Cnt) (hx:0≤x.hour∧x.hour≤1000) (hy:0≤y.hour∧y.hour≤1000) (H:Z7) (R:Z4) :
    FnV Tryz.prog 209 [.agg (crow x).toArray,.agg (crow y).toArray] H R (.int .i64 (x.hour-y.hour)):=by
 refine Z9 Tryz.func209 rfl Tryz.ntmps209 rfl ?_
 refine sqt 3 rfl (bx rfl rfl rfl (fun b2=>bx rfl rfl rfl (fun b3=>pur 1 rfl (sqt 6 rfl (sp rfl (PE.fA Z0N rfl) rfl (spL rfl rfl (lh sc3 rfl rfl) rfl (sp rfl (PE.fA Z0N rfl) rfl (spL rfl rfl (lh sc3 rfl rfl) rfl (sp rfl (PE.sub rfl rfl (by omega)) rfl (pur 1 rfl (Z5 ?_)))))))))))
 exact rtA rfl rfl rfl ⟨rfl,rfl,rfl⟩ drp
theorem Zfb (x y:Cnt) (H:Z7) (R:Z4) :
    FnV Tryz.prog 212 [.agg (crow x).toArray,.agg (crow y).toArray] H R (.bool (decide (x.hour=y.hour))):=by
 refine Z9 Tryz.func212 rfl Tryz.ntmps212 rfl ?_
 refine sqt 3 rfl (bx rfl rfl rfl (fun b2=>bx rfl rfl rfl (fun b3=>pur 1 rfl (sqt 6 rfl (sp rfl (PE.fA Z0N rfl) rfl (spL rfl rfl (lh sc3 rfl rfl) rfl (sp rfl (PE.fA Z0N rfl) rfl (spL rfl rfl (lh sc3 rfl rfl) rfl (pur 2 rfl (Z5 ?_))))))))))
 exact rtA rfl rfl rfl ⟨rfl,rfl,rfl⟩ drp
theorem Zfc (x:Cnt) (H:Z7) (R:Z4) :
    FnV Tryz.prog 213 [.agg (crow x).toArray] H R (.bool (decide (x.lo≤x.hi))):=by
 refine Z9 Tryz.func213 rfl Tryz.ntmps213 rfl ?_
 refine sqt 2 rfl (bx rfl rfl rfl (fun b1=>pur 1 rfl (sqt 8 rfl (sp rfl (PE.fA Z1p rfl) rfl (sp rfl (PE.fA Z28 rfl) rfl (spL rfl rfl (lh sc3 rfl rfl) rfl (sp rfl (PE.fA Z1p rfl) rfl (sp rfl (PE.fA Z29 rfl) rfl (spL rfl rfl (lh sc3 rfl rfl) rfl (pur 2 rfl (Z5 ?_)))))))))))
 exact rtA rfl rfl rfl ⟨rfl,rfl,rfl⟩ drp
theorem Zfd (x:Spl) (H:Z7) (R:Z4) :
    FnV Tryz.prog 214 [.agg (sprow x).toArray] H R (.bool (decide (x.fr<x.to))):=by
 refine Z9 Tryz.func214 rfl Tryz.ntmps214 rfl ?_
 refine sqt 2 rfl (bx rfl rfl rfl (fun b1=>pur 1 rfl (sqt 6 rfl (sp rfl (PE.fA Z6y rfl) rfl (spL rfl rfl (lh sc3 rfl rfl) rfl (sp rfl (PE.fA Z6z rfl) rfl (spL rfl rfl (lh sc3 rfl rfl) rfl (pur 2 rfl (Z5 ?_)))))))))
 exact rtA rfl rfl rfl ⟨rfl,rfl,rfl⟩ drp
theorem Zdo (wt:Wt) (hw:wt.ok) (a:Option Addr) (c:Nat) (H:Z7) (R:Z4) [hR:MemRows a 3 (crows wt.counts) R] :
    FnV Tryz.prog 208 [.slice a wt.counts.length c,.func (.func 209) #[] #[]] H R (.bool true):=by
 have hnc:=hw.nc
 refine Z9 Tryz.func208 rfl Tryz.ntmps208 rfl ?_
 refine sqt 1 rfl (pur 1 rfl (Z0 (sqt 4 rfl (pur 1 rfl (sp rfl (PE.lenSl Z0p rfl) rfl (sp rfl (PE.sub rfl rfl (by omega)) rfl (pur 1 rfl (Z1 ?_))))))))
 refine Zc (ι:={k:Nat // k≤wt.counts.length}) (fun k=>⟨[(0,.slice a wt.counts.length c),(1,.func (.func 209) #[] #[]),(5,.int .i64 ((k.1:Int)-1))],H,R⟩) (fun k=>k.1) ⟨wt.counts.length,by omega⟩ ?_ (fun k=>?_)
 exact Zf idH
 obtain ⟨k,hk⟩:=k
 dsimp only at hk ⊢
 refine Z0 (sqt 2 rfl (pur 2 rfl ?_))
 refine Z2 rfl ?_ ?_<;>intro hc0<;>try simp only [cS] at hc0
 obtain ⟨k,rfl⟩:∃ j,k=j+2:=⟨k-2,by omega⟩
 rw [show (((k+2:Nat):Int)-1)=(k+1:Nat) from by omega]
 obtain ⟨y,hy⟩:∃ y,wt.counts[k+1]?=some y:=⟨_,List.getElem?_eq_getElem (by omega)⟩
 obtain ⟨x,hx⟩:∃ x,wt.counts[k]?=some x:=⟨_,List.getElem?_eq_getElem (by omega)⟩
 have hxy:=hw.inc k x y hx hy
 have hxb:=hw.cnt x (List.mem_of_getElem? hx)
 have hyb:=hw.cnt y (List.mem_of_getElem? hy)
 have hho:=hw.hours
 refine Zl (a:=a) (sz:=3) (rows:=crows wt.counts) (by intro h0;simp [crows] at h0;simp [h0] at hx) (fun b off he=>?_)
 subst he
 refine Z3 (Z0 (Z1 (Z0 ?_)))
 refine Zd [0,0,0,6,14,0,0,64,224,480,1023,2047] (tks 0 4 (.ld 4 (tks 5 4 (.ld 9 (.big 10 (.tk 11 .done)))))) Zq (by kernel_rfl) ?_
 refine Zm 3 rfl (tk rfl (PE.indexAddr Z2t rfl rfl (by omega) (by omega)) rfl (ld rfl rfl (lfA Z0K (row:=crow y) (ZS hy) rfl) rfl (Zm 2 rfl (tk rfl (PE.sub rfl rfl (by omega)) rfl (tk rfl (PE.indexAddr Z2t rfl rfl (by omega) (by omega)) rfl (ld rfl rfl (lfA Z0K (row:=crow x) (by rw [show (((k+1:Nat):Int)-1).toNat=k from by omega];exact ZS hx) rfl) rfl ?_))))))
 refine Z2r rfl rfl (Zgg) rfl rfl (Zfa y x (by omega) (by omega) _ _) ?_
 refine bgT (Zm 1 rfl ?_)
 refine Z2 rfl ?_ ?_<;>intro hc1
 exact absurd hc1 (by simp;omega)
 refine Z3 (sqr 3 rfl (pur 1 rfl (sp rfl (PE.sub rfl rfl (by omega)) rfl (pur 1 rfl ?_))))
 refine Ze ⟨k+1,by omega⟩ (by dsimp only;omega) idH
 refine Z8 (Za (Za (Zn (sqt 1 rfl (pur 1 rfl (Z5 ?_))))))
 exact rtA rfl rfl rfl ⟨rfl,rfl,rfl⟩ drp
theorem Zde (wt:Wt) (hw:wt.ok) (a:Option Addr) (c:Nat) (H:Z7) (R:Z4) [hR:MemRows a 3 (crows wt.counts) R] :
    FnV Tryz.prog 210 [.slice a wt.counts.length c,.func (.func 212) #[] #[]] H R (.slice a wt.counts.length c):=by
 have hnc:=hw.nc
 refine Z9 Tryz.func210 rfl Tryz.ntmps210 rfl ?_
 refine sqt 1 rfl (pur 1 rfl (Z0 (sqt 3 rfl (pur 1 rfl (sp rfl (PE.lenSl Z0p rfl) rfl (pur 1 rfl ?_))))))
 refine Z2 rfl ?_ ?_<;>intro hc0
 refine sqt 2 rfl (pur 2 rfl (Z5 ?_))
 exact rtA rfl rfl rfl ⟨rfl,rfl,rfl⟩ drp
 try simp only [cS] at hc0
 refine Z3 (Z0 (sqt 1 rfl (pur 1 rfl (Z1 ?_))))
 refine Zc (ι:={k:Nat // k+1≤wt.counts.length}) (fun k=>⟨[(0,.slice a wt.counts.length c),(1,.func (.func 212) #[] #[]),(5,.int .i64 ((k.1+1:Nat):Int))],H,R⟩) (fun k=>wt.counts.length-k.1) ⟨0,by omega⟩ ?_ (fun k=>?_)
 exact Zf idH
 obtain ⟨k,hk⟩:=k
 dsimp only at hk ⊢
 refine Z0 (sqt 4 rfl (pur 2 rfl (sp rfl (PE.lenSl Z0p rfl) rfl (pur 1 rfl ?_))))
 refine Z2 rfl ?_ ?_<;>intro hc1
 try simp only [cS] at hc1
 obtain ⟨y,hy⟩:∃ y,wt.counts[k+1]?=some y:=⟨_,List.getElem?_eq_getElem (by omega)⟩
 obtain ⟨x,hx⟩:∃ x,wt.counts[k]?=some x:=⟨_,List.getElem?_eq_getElem (by omega)⟩
 have hxy:=hw.inc k x y hx hy
 have hxb:=hw.cnt x (List.mem_of_getElem? hx)
 have hyb:=hw.cnt y (List.mem_of_getElem? hy)
 have hho:=hw.hours
 refine Zl (a:=a) (sz:=3) (rows:=crows wt.counts) (by intro h0;simp [crows] at h0;simp [h0] at hx) (fun b off he=>?_)
 subst he
 refine Z3 (Z0 (Z1 (Z0 ?_)))
 refine Zd [0,0,0,6,14,0,0,64,224,480,1023] (tks 0 4 (.ld 4 (tks 5 4 (.ld 9 (.big 10 .done))))) Zq (by kernel_rfl) ?_
 refine Zm 3 rfl (tk rfl (PE.indexAddr Z2t rfl rfl (by omega) (by omega)) rfl (ld rfl rfl (lfA Z0K (row:=crow y) (ZS hy) rfl) rfl (Zm 2 rfl (tk rfl (PE.sub rfl rfl (by omega)) rfl (tk rfl (PE.indexAddr Z2t rfl rfl (by omega) (by omega)) rfl (ld rfl rfl (lfA Z0K (row:=crow x) (by rw [show (((k+1:Nat):Int)-1).toNat=k from by omega];exact ZS hx) rfl) rfl ?_))))))
 refine Z2r rfl rfl (Zgj) rfl rfl (Zfb y x _ _) ?_
 refine bgT ?_
 refine Z2 rfl ?_ ?_<;>intro hc2
 exact absurd hc2 (by simp;omega)
 refine Z3 (sqr 3 rfl (pur 1 rfl (sp rfl (PE.add rfl rfl (by omega)) rfl (pur 1 rfl ?_))))
 refine Ze ⟨k+1,by omega⟩ (by dsimp only;omega) idH
 refine Z8 (Za (Za (Zn (sqt 2 rfl (pur 2 rfl (Z5 ?_))))))
 exact rtA rfl rfl rfl ⟨rfl,rfl,rfl⟩ drp
theorem Z0M (wt:Wt) (a1 a2 a3:Option Addr) (k1 k2 k3:Nat) (hw:wt.ok) (H:Z7) (R:Z4) [hR1:MemRows a1 3 (crows wt.counts) R] [hR2:MemRows a2 2 (bkrows wt.books) R] [hR3:MemRows a3 3 (sprows wt.spells) R] :
    FnV Tryz.prog 166 [(wt.v a1 a2 a3 k1 k2 k3)] H R (.int .i64 0):=by
 have hnc:=hw.nc
 have hnb:=hw.nb
 have hns:=hw.ns
 have hho:=hw.hours
 have hal:=hw.allow
 have hha:=hw.hands
 refine Z9 Tryz.func166 rfl Tryz.ntmps166 rfl ?_
 refine sqt 2 rfl (bx rfl rfl rfl (fun b1=>pur 1 rfl (sqt 4 rfl (spL rfl rfl (lhA (wtl wt a1 a2 a3 k1 k2 k3) Z1Y rfl rfl rfl) rfl (sp rfl (PE.makeFunc rfl rfl) rfl (alc rfl ZeE rfl (fun b3=>?_)))))))
 refine sto rfl rfl rfl Zdz rfl rfl rfl rfl ?_
 refine Z0 (Z1 (sqt 24 rfl (sp rfl (PE.fA Z6t rfl) rfl (spL rfl rfl (lh sc3 rfl rfl) rfl ?_))))
 refine clV rfl Z24 rfl rfl (Z0w _ _ _ (by omega) _ _) ?_
 refine pur 2 rfl ?_
 refine Zv 11 rfl ?_ ?_<;>intro g11
 exact absurd g11 (by simp)
 refine spG rfl rfl rfl rfl (PE.fA ZN rfl) rfl ?_
 refine Z1b rfl rfl rfl rfl rfl (lh Z02 rfl rfl) rfl ?_
 refine spG rfl rfl rfl rfl (PE.lenSl Z0p rfl) rfl ?_
 refine Z4A rfl rfl rfl rfl Z24 rfl rfl (Z0w _ _ _ (by omega) _ _) ?_
 refine pur 3 rfl ?_
 refine Zv 18 rfl ?_ ?_<;>intro g18
 exact absurd g18 (by simp)
 refine spG rfl rfl rfl rfl (PE.fA Z6u rfl) rfl ?_
 refine Z1b rfl rfl rfl rfl rfl (lh Zej rfl rfl) rfl ?_
 refine spG rfl rfl rfl rfl (PE.lenSl Z9V rfl) rfl ?_
 refine pur 3 rfl ?_
 refine Zv 24 rfl ?_ ?_<;>intro g24
 exact absurd g24 (by simp;omega)
 refine spG rfl rfl rfl rfl (PE.fA Z3s rfl) rfl ?_
 refine Z1b rfl rfl rfl rfl rfl (lh Zao rfl rfl) rfl ?_
 refine spG rfl rfl rfl rfl (PE.lenSl Z9W rfl) rfl ?_
 refine pur 3 rfl ?_
 refine Z2 rfl ?_ ?_<;>intro hc0
 exact absurd hc0 (by simp;omega)
 refine sqt 11 rfl (sp rfl (PE.fA Z9K rfl) rfl (spL rfl rfl (lh sc3 rfl rfl) rfl ?_))
 refine clV rfl Z24 rfl rfl (Z0w _ _ _ (by omega) _ _) ?_
 refine pur 2 rfl ?_
 refine Zv 35 rfl ?_ ?_<;>intro g35
 exact absurd g35 (by simp)
 refine spG rfl rfl rfl rfl (PE.fA Z9L rfl) rfl ?_
 refine Z1b rfl rfl rfl rfl rfl (lh sc3 rfl rfl) rfl ?_
 refine Z4A rfl rfl rfl rfl Z24 rfl rfl (Z0w _ _ _ (by omega) _ _) ?_
 refine pur 3 rfl ?_
 refine Z2 rfl ?_ ?_<;>intro hc1
 exact absurd hc1 (by simp)
 refine sqt 6 rfl (sp rfl (PE.fA ZN rfl) rfl (spL rfl rfl (lh Z02 rfl rfl) rfl (sp rfl (PE.makeFunc rfl rfl) rfl ?_)))
 refine cl rfl Zco rfl rfl (Z3b wt.counts a1 k1 201 [] [_] (fun _=>true) Zga (by omega) _ _ (fun _ _ x hx=>Z5n wt a1 a2 a3 k1 k2 k3 hw x hx b1 _ _)) ?_
 rintro _ _ R1 ⟨rfl,rfl,hR1⟩
 obtain rfl:=hR1.symm
 clear hR1
 rw [Z74]
 refine pur 2 rfl ?_
 refine Z2 rfl ?_ ?_<;>intro hc2
 exact absurd hc2 (by simp)
 refine sqt 6 rfl (sp rfl (PE.fA Z6u rfl) rfl (spL rfl rfl (lh Zej rfl rfl) rfl (sp rfl (PE.makeFunc rfl rfl) rfl ?_)))
 refine cl rfl Zgb rfl rfl (Z6j wt.books a2 k2 204 [] [_] (fun _=>true) Zgc (by omega) _ _ (fun _ _ x hx=>Z5o wt a1 a2 a3 k1 k2 k3 hw x hx b1 _ _)) ?_
 rintro _ _ R1 ⟨rfl,rfl,hR1⟩
 obtain rfl:=hR1.symm
 clear hR1
 rw [Z74]
 refine pur 2 rfl ?_
 refine Z2 rfl ?_ ?_<;>intro hc3
 exact absurd hc3 (by simp)
 refine sqt 6 rfl (sp rfl (PE.fA Z3s rfl) rfl (spL rfl rfl (lh Zao rfl rfl) rfl (sp rfl (PE.makeFunc rfl rfl) rfl ?_)))
 refine cl rfl Z9n rfl rfl (Z1M wt.spells a3 k3 206 [] [_] (fun _=>true) Zgd (by omega) _ _ (fun _ _ x hx=>Z8H wt a1 a2 a3 k1 k2 k3 hw x hx b1 _ _)) ?_
 rintro _ _ R1 ⟨rfl,rfl,hR1⟩
 obtain rfl:=hR1.symm
 clear hR1
 rw [Z74]
 refine pur 2 rfl ?_
 refine Z2 rfl ?_ ?_<;>intro hc4
 exact absurd hc4 (by simp)
 refine sqt 6 rfl (sp rfl (PE.fA Z3s rfl) rfl (spL rfl rfl (lh Zao rfl rfl) rfl (sp rfl (PE.makeFunc rfl rfl) rfl ?_)))
 refine cl rfl Z9n rfl rfl (Z1M wt.spells a3 k3 207 [] [_] (fun _=>true) Zge (by omega) _ _ (fun _ _ x hx=>Zf9 wt a1 a2 a3 k1 k2 k3 hw x hx b3 _ _)) ?_
 rintro _ _ R1 ⟨rfl,rfl,hR1⟩
 obtain rfl:=hR1.symm
 clear hR1
 rw [Z74]
 refine pur 2 rfl ?_
 refine Z2 rfl ?_ ?_<;>intro hc5
 exact absurd hc5 (by simp)
 refine sqt 5 rfl (sp rfl (PE.fA ZN rfl) rfl (spL rfl rfl (lh Z02 rfl rfl) rfl ?_))
 refine clV rfl Zgf rfl rfl (Zdo wt hw a1 k1 _ _) ?_
 refine pur 2 rfl ?_
 refine Z2 rfl ?_ ?_<;>intro hc6
 exact absurd hc6 (by simp)
 refine Z0 ?_
 refine Zd [0,1,3,7,15,0,32,96,255,511] (.tk 0 (.ld 1 (.tk 5 (.ld 6 (.tk 7 (.big 2 (.big 3 (.tk 4 (.tk 8 (.tk 9 .done)))))))))) Zq (by kernel_rfl) ?_
 refine tk rfl (PE.fA ZN rfl) rfl (ld rfl rfl (lh Z02 rfl rfl) rfl (tk rfl (PE.fA ZN rfl) rfl (ld rfl rfl (lh Z02 rfl rfl) rfl (tk rfl (PE.lenSl Z0p rfl) rfl ?_))))
 refine cl rfl Zgi rfl rfl (Z5p wt.counts a1 k1 (by omega) _ _) ?_
 rintro _ _ R1 ⟨a9,k9,rfl,rfl,hR1⟩
 obtain rfl:=hR1.symm
 clear hR1
 refine bg (fun w hs=>⟨(lh Z02 rfl rfl) w hs,trivial,trivial⟩) ?_
 refine clV rfl Zgh rfl rfl (Zde wt hw a9 k9 _ _) ?_
 refine bg (fun w hs=>⟨(lh Z02 rfl rfl) w hs,trivial⟩) ?_
 refine tk rfl (PE.lenSl Z0p rfl) rfl (Zm 2 rfl ?_)
 refine Z2 rfl ?_ ?_<;>intro hc7
 exact absurd hc7 (by simp)
 refine sqt 11 rfl (sp rfl (PE.fA ZN rfl) rfl (spL rfl rfl (lh Z02 rfl rfl) rfl ?_))
 refine cl rfl Zco rfl rfl (Z3b wt.counts a1 k1 213 [] [] (fun x=>decide (x.lo≤x.hi)) Zgk (by omega) _ _ (fun _ _ x hx=>Zfc x _ _)) ?_
 rintro _ _ R1 ⟨rfl,rfl,hR1⟩
 obtain rfl:=hR1.symm
 clear hR1
 rw [show (wt.counts.all fun x=>decide (x.lo≤x.hi))=true from List.all_eq_true.2 fun x hx=>by have:=hw.cnt x hx;simp;omega]
 refine pur 2 rfl ?_
 refine Zv 85 rfl ?_ ?_<;>intro g85
 exact absurd g85 (by simp)
 refine spG rfl rfl rfl rfl (PE.fA Z3s rfl) rfl ?_
 refine Z1b rfl rfl rfl rfl rfl (lh Zao rfl rfl) rfl ?_
 refine clG rfl rfl rfl rfl Z9n rfl rfl (Z1M wt.spells a3 k3 214 [] [] (fun x=>decide (x.fr<x.to)) Zgl (by omega) _ _ (fun _ _ x hx=>Zfd x _ _)) ?_
 rintro _ _ R1 ⟨rfl,rfl,hR1⟩
 obtain rfl:=hR1.symm
 clear hR1
 rw [show (wt.spells.all fun x=>decide (x.fr<x.to))=true from List.all_eq_true.2 fun x hx=>by have:=hw.spl x hx;simp;omega]
 refine pur 3 rfl ?_
 refine Z2 rfl ?_ ?_<;>intro hc8
 exact absurd hc8 (by simp)
 refine Z3 (sqt 1 rfl (pur 1 rfl (Z5 ?_)))
 exact rtA rfl rfl rfl ⟨rfl,rfl,rfl⟩ (fun w h=>St.sub ((h.del b3).del b1))
end Go.Proofs.YthijcgkicjljhaaGreat.Hn
namespace Go.Proofs.YthijcgkicjljhaaGreat
set_option linter.unusedSimpArgs false
set_option linter.unusedVariables false
open Go
section pe
variable {P:Program} {L:Zo} {d:Option Tmp} {ty:TypeId} {pos:String} {af:Array Edge} {g:Option (Nat×Bool)}
theorem PE.andNotN {T U:TypeId} {x y:Operand} {m n:Nat} (hx:ev L x=some (.int .i64 (m:Int))) (hy:ev L y=some (.int .i64 (n:Int))) (hm:m≤9223372036854775807) (hn:n≤9223372036854775807) :
   PE P L ⟨d,.binOp .andNot T x y U,ty,pos,af,g⟩ (.int .i64 ((m&&&(18446744073709551615-n):Nat):Int)):=by
 refine PE.bits (by simp) hx hy (fun w=>?_)
 show Result.ok (Value.int .i64 (IntKind.i64.wrap ((BitVec.ofInt 64 (m:Int) &&& ~~~ BitVec.ofInt 64 (n:Int)).toNat:Int))) w=_
 have:m&&&(18446744073709551615-n)≤m:=Nat.and_le_left
 rw [BitVec.toNat_and,BitVec.toNat_not,Z0U hm,Z0U hn,show 2 ^ 64-1-n=18446744073709551615-n from rfl,Z0l (by omega) (by omega)]
theorem PE.shr1 {T U:TypeId} {x y:Operand} {m:Int} {q:IntKind} (hx:ev L x=some (.int .u64 m)) (hy:ev L y=some (.int q 1)) (h0:0≤m) :
   PE P L ⟨d,.binOp .shr T x y U,ty,pos,af,g⟩ (.int .u64 (m / 2)):=fun ρ hρ w=>by
 have hg:∀ w,(eqGuard .shr T x y (.int .u64 m) (.int q 1)).run P w = .ok () w:=fun w=>rfl
 have hbo:binOp .shr T (.int .u64 m) (.int q 1)=Op.shift .shr .u64 m q 1:=by simp [binOp]
 have hs:∀ w,(Op.shift .shr .u64 m q 1).run P w = .ok (.int .u64 (m / 2)) w:=fun w=>by
   unfold Op.shift
   rw [if_neg (by omega)]
   show Result.ok (Value.int .u64 (m.fdiv (2 ^ (Min.min ((1:Int).toNat) (IntKind.u64.bits))))) w=_
   have e:Min.min ((1:Int).toNat) (IntKind.u64.bits)=1:=rfl
   rw [e,Int.fdiv_eq_ediv_of_nonneg _ (by decide)];rfl
 simp only [execOp,hρ _ _ hx,hρ _ _ hy,Sem.run_bind,hg,hbo,hs,Result.andThen,Sem.run_pure]
end pe
abbrev Z2q (l:List Bool):List Value:=l.map Value.bool
theorem Z5Z {P:Program} {e:Nat} (hs:Z0g P e=true) (l:List Bool) (off:Nat) (hl:off<l.length) (w:World):(part e (Z2q l).toArray off).run P w = .ok (.bool l[off]) w:=by
 unfold part
 simp only [Sem.run_bind,Z0O hs,Result.andThen]
 simp [hl,Sem.run_pure]
theorem Z4g {P:Program} {d e:Nat} (hu:P.underlying e=some .bool) (xs ys:List Bool):∀ (is:List Nat),(∀ i∈is,i<xs.length∧i<ys.length)→∀ w,
   (Op.eqItems (d+1) e 1 (Z2q xs).toArray (Z2q ys).toArray is).run P w = .ok (decide (∀ i∈is,xs[i]?=ys[i]?)) w
 | [],_,w=>by simp [Op.eqItems,Sem.run_pure]
 | i::is,hi,w=>by
   obtain ⟨h1,h2⟩:=hi i (by simp)
   have hs:Z0g P e=true:=by simp [Z0g,hu]
   have p1:=Z5Z hs xs i h1 w
   have p2:=Z5Z hs ys i h2 w
   have p3:(Op.equalIn (d+1) e (.bool xs[i]) (.bool ys[i])).run P w = .ok (xs[i] == ys[i]) w:=by
     rw [Op.equalIn]
     simp only [Sem.run_bind,run_underlying hu,Result.andThen,Sem.run_pure]
   simp only [Op.eqItems,Sem.run_bind,Nat.mul_one,p1,p2,p3,Result.andThen]
   by_cases hc:xs[i]=ys[i]
   · rw [if_neg (by simp [hc]),Z4g hu xs ys is (fun j hj=>hi j (by simp [hj])) w]
     congr 1
     exact decide_eq_decide.2 ⟨fun h j hj=>by
       rcases List.mem_cons.1 hj with rfl | hj
       · rw [List.getElem?_eq_getElem h1,List.getElem?_eq_getElem h2,hc]
       · exact h j hj,fun h j hj=>h j (by simp [hj])⟩
   · rw [if_pos (by simp [hc])]
     simp only [Sem.run_pure]
     congr 1
     exact (decide_eq_false fun h=>hc (by
       have:=h i (by simp)
       rw [List.getElem?_eq_getElem h1,List.getElem?_eq_getElem h2] at this
       exact Option.some.inj this)).symm
section pb
variable {P:Program} {L:Zo} {d:Option Tmp} {ty:TypeId} {pos:String} {af:Array Edge} {g:Option (Nat×Bool)}
theorem PE.eqlBools {T U n e:Nat} {x y:Operand} (xs ys:List Bool) (hA:arE P T=some (n,e)) (hN:arN P T=some (n,1)) (hu:P.underlying e=some .bool) (hg:P.eqGuardType P.depth T=false) (hx:ev L x=some (.agg (Z2q xs).toArray)) (hy:ev L y=some (.agg (Z2q ys).toArray)) (lx:xs.length=n) (ly:ys.length=n) :
   PE P L ⟨d,.binOp .eql T x y U,ty,pos,af,g⟩ (.bool (decide (xs=ys))):=fun ρ hρ w=>by
 have hb:binOp .eql T (.agg (Z2q xs).toArray) (.agg (Z2q ys).toArray)=(do pure (.bool (← Op.equal T (.agg (Z2q xs).toArray) (.agg (Z2q ys).toArray)))):=rfl
 have he:(Op.equal T (.agg (Z2q xs).toArray) (.agg (Z2q ys).toArray)).run P w = .ok (decide (xs=ys)) w:=by
   obtain ⟨e',i,h1,h2,h3⟩:=Z6b hN
   have he':e'=e:=by
     unfold arE at hA
     rw [h1] at hA
     simp only [Option.some.injEq,Prod.mk.injEq] at hA
     exact hA.2
   subst he'
   have hc:P.cellsOf e'=1:=by simp [Program.cellsOf,h2,h3]
   show (Op.equalIn (9998+1+1) T (.agg (Z2q xs).toArray) (.agg (Z2q ys).toArray)).run P w=_
   rw [run_equalIn_array (w:=w) (9998+1) _ _ h1 h2,hc,Z4g hu xs ys (List.range n) (fun j hj=>by have:=List.mem_range.1 hj;omega) w]
   congr 1
   exact decide_eq_decide.2 ⟨fun h=>List.ext_getElem? fun j=>by
     rcases Nat.lt_or_ge j n with hj | hj
     · exact h j (List.mem_range.2 hj)
     · rw [List.getElem?_eq_none (by omega),List.getElem?_eq_none (by omega)],fun h j _=>by rw [h]⟩
 simp only [execOp,hρ _ _ hx,hρ _ _ hy,Sem.run_bind,Z0E hg,hb,he,Result.andThen,Sem.run_pure]
end pb
theorem Z1L {m n:Nat} (hm:m≤9223372036854775807) (hn:n≤9223372036854775807):(m&&&(18446744073709551615-n)=0)↔(m&&&n=m):=by
 have hb:∀ i,(18446744073709551615-n).testBit i=(decide (i<64)&&!(n.testBit i)):=fun i=>by
   rw [show 18446744073709551615-n=2 ^ 64-(n+1) from by omega]
   exact Nat.testBit_two_pow_sub_succ (by omega) i
 constructor
 · intro h
   refine Nat.eq_of_testBit_eq fun i=>?_
   have h1:(m&&&(18446744073709551615-n)).testBit i=false:=by rw [h];simp
   rw [Nat.testBit_and,hb] at h1
   rw [Nat.testBit_and]
   by_cases hi:i<64
   · simp only [hi,decide_true,Bool.true_and] at h1
     cases h2:m.testBit i<;>simp_all
   · have:m.testBit i=false:=Nat.testBit_lt_two_pow (Nat.lt_of_lt_of_le (show m<2 ^ 64 by omega) (Nat.pow_le_pow_right (by decide) (by omega)))
     rw [this];rfl
 · intro h
   refine Nat.eq_of_testBit_eq fun i=>?_
   rw [Nat.testBit_and,hb,Nat.zero_testBit]
   have h1:(m&&&n).testBit i=m.testBit i:=by rw [h]
   rw [Nat.testBit_and] at h1
   cases h2:m.testBit i<;>simp_all
theorem Z0n {P:Program} {H:Z7} {R:Z4} {T KT E s m:Nat} {b:Bool} (l:KV) (k:List Int) {zv v:Value} (hT:Z1t P T=some (KT,E)) (hK:KeyT P b KT s) (hz:∀ w,(zeroValue E).run P w = .ok zv w) (hk:k.length=s) (hl:∀ e∈l,e.1.length=s)
   [mm:Mem1 m (ZQ b l) H] (hv:(l.get k).getD zv=v):∀ w,St H R w→Lkp P T (.map (some m)) (mkv b k) false v w:=fun w hs=>by
 have:=Z6G (R:=R) (m:=m) l k hT hK hz hk hl false w hs
 rw [cond_false,hv] at this
 exact this
theorem Z4S {P:Program} {H:Z7} {R:Z4} {T KT E s m:Nat} {b:Bool} (l:KV) (k:List Int) {zv v:Value} (hT:Z1t P T=some (KT,E)) (hK:KeyT P b KT s) (hz:∀ w,(zeroValue E).run P w = .ok zv w) (hk:k.length=s) (hl:∀ e∈l,e.1.length=s)
   (hm:∀ w,St H R w→w.heap[m]?=some (ZQ b l)) (hv:(l.get k).getD zv=v):∀ w,St H R w→Lkp P T (.map (some m)) (mkv b k) false v w:=fun w hs=>by
 have:=ZdV l k hT hK hz hk hl hm false w hs
 rw [cond_false,hv] at this
 exact this
def Zd0 (l:KV) (k:List Int) (v:Value) (j:Nat):Prop:=l[j]?=some (k,v)∧∀ u,l.put k u=l.set j (k,u)
theorem Zak {P:Program} {T KT E s m:Nat} {b:Bool} {l:KV} {k:List Int} {zv:Value} (hT:Z1t P T=some (KT,E)) (hK:KeyT P b KT s) (hz:∀ w,(zeroValue E).run P w = .ok zv w) (hk:k.length=s) (hl:∀ e∈l,e.1.length=s) {w:World} (h:w.heap[m]?=some (ZQ b l)) :
   ∃ j : Nat, Zd0 (l.put k ((l.get k).getD zv)) k ((l.get k).getD zv) j ∧
     (Instr.mapEntry T (.map (some m)) (mkv b k)).run P w = .ok (.tuple #[(l.get k).getD zv,.int .i64 j]) { w with heap:=w.heap.setIfInBounds m (ZQ b (l.put k ((l.get k).getD zv))) }:=by
 unfold Z1t at hT
 split at hT<;>cases hT
 rename_i hu
 have h1:=Z0B (P:=P) h
 have h2:=hK.ck false k hk w
 have h3:=Z16 hK k hk l hl w
 have h4:∀ o,(setObj m o).run P w = .ok () { w with heap:=w.heap.setIfInBounds m o }:=fun o=>Z2A h
 unfold Instr.mapEntry
 simp only [Sem.run_bind,run_underlying hu,Result.andThen,h1,ZQ,h2,h3]
 have hg:=Z4P (k:=k) (l:=l)
 cases hf:l.findIdx? fun e=>decide (e.1=k) with
 | none =>
   rw [hf] at hg
   simp only [Option.map_none] at hg
   rw [← hg]
   simp only [Option.map_none,Option.getD_none,hz,Result.andThen,h4,Sem.run_bind]
   refine ⟨l.length,⟨by rw [Z2g hf];simp,fun u=>?_⟩,?_⟩
   · have hf2:(l++[(k,zv)]).findIdx? (fun e=>decide (e.1=k))=some l.length:=by
       rw [List.findIdx?_append,hf];simp
     rw [Z2g hf]
     exact (Z2f hf2).1
   · rw [Z2g hf,Z3o]
     simp [Sem.run_pure,goInt]
 | some j =>
   obtain ⟨h5,h6⟩:=Z2f (v:=(l.getD j default).2) hf
   have hjk:(l[j]).1=k:=by
     have:=(List.findIdx?_eq_some_iff_getElem.1 hf).2.1
     simpa using this
   rw [hf] at hg
   simp only [Option.map_some] at hg
   rw [← hg]
   have e0:=Z11 b l 0 j l[j] (List.getElem?_eq_getElem h6)
   have h7:((((Z0C b 0 l).toArray[j]?).map (·.key)).getD (mkv b k))=mkv b k:=by
     simp [e0,hjk]
   have hv:(l.getD j default).2=(l[j]).2:=by simp [List.getD_eq_getElem?_getD,h6]
   have hself:l.set j (k,(l.getD j default).2)=l:=by
     rw [hv,← hjk]
     exact List.set_getElem_self h6
   simp only [Option.map_some,Option.getD_some,Sem.run_bind,h7,Z60,Result.andThen,h4,Sem.run_pure]
   refine ⟨j,⟨by rw [h5,hself,List.getElem?_eq_getElem h6,hv,← hjk],fun u=>?_⟩,?_⟩
   · rw [h5,hself];exact (Z2f hf).1
   · have hm:((Z0C b 0 l).toArray.modify j fun e=>{ e with key:=mkv b k })=(Z0C b 0 l).toArray:=by
       apply Array.ext'
       rw [Array.toList_modify]
       refine List.ext_getElem? fun i=>?_
       rw [List.getElem?_modify]
       by_cases hij:j=i
       · subst hij
         simp only [if_true]
         rw [e0];simp [hjk]
       · simp [hij]
     rw [hm,h5,hself]
     simp [e0,goInt]
section ops
variable {P:Program} {r:Option Nat} {ops:Array Oper} {n:Nat} {L:Zo} {D:List Deferred} {H:Z7} {R:Z4} {K:Act→World→Prop}
 {i d:Nat} {ty:TypeId} {pos:String} {af:Array Edge}
theorem mpE {T KT E s m:Nat} {x y:Operand} {b:Bool} (l:KV) (k:List Int) {zv v0:Value} {H':Z7} (ho:ops[i]?=some ⟨some d,.mapEntry T x y,ty,pos,af,none⟩)
   (hT:Z1t P T=some (KT,E)) (hK:KeyT P b KT s) (hz:∀ w,(zeroValue E).run P w = .ok zv w) (hx:ev L x=some (.map (some m))) (hy:ev L y=some (mkv b k)) (hk:k.length=s) (hl:∀ e∈l,e.1.length=s)
   (hv:(l.get k).getD zv=v0) (hd:Nat.blt d n=true) [mm:Mem1 m (ZQ b l) H] [rp:Rep [(m,ZQ b l)] [(m,ZQ b (l.put k v0))] H H']
   (h:∀ j:Nat,Zd0 (l.put k v0) k v0 j→Sy n ((d,.tuple #[v0,.int .i64 j])::L) D H' R K):Sy n L D H R (stp P r ops i K):=fun a w ha hD hs=>by
 subst hv
 obtain ⟨j,hj,h1⟩:=Zak (P:=P) hT hK hz hk hl (hs.held _ mm.mem)
 refine Zu ho (Zg _ rfl _) (w':={ w with heap:=w.heap.setIfInBounds m (ZQ b (l.put k ((l.get k).getD zv))) }) ?_ (h j hj _ _ (ha.put (by simpa using hd) _) hD (hs.rep (F:=[(m,ZQ b l)]) (F':=[(m,ZQ b (l.put k ((l.get k).getD zv)))]) fun T hT=>St.set hT))
 simp only [execOp,ha.reads _ _ hx,ha.reads _ _ hy,Sem.run_bind,h1,Result.andThen,Sem.run_pure]
theorem mpT {T m j:Nat} {x y z:Operand} {b:Bool} (l:KV) (k:List Int) {v0 v:Value} {H':Z7} (ho:ops[i]?=some ⟨none,.entryStore T x y z,ty,pos,af,none⟩)
   (hx:ev L x=some (.map (some m))) (hy:ev L y=some (.int .i64 (j:Nat))) (hz:ev L z=some v) (he:Zd0 l k v0 j) [mm:Mem1 m (ZQ b l) H] [rp:Rep [(m,ZQ b l)] [(m,ZQ b (l.put k v))] H H']
   (h:Sy n L D H' R K):Sy n L D H R (stp P r ops i K):=fun a w ha hD hs=>by
 have hh:=hs.held _ mm.mem
 have h1:=Z0B (P:=P) hh
 have h4:∀ o,(setObj m o).run P w = .ok () { w with heap:=w.heap.setIfInBounds m o }:=fun o=>Z2A hh
 have hjl:=(List.getElem?_eq_some_iff.1 he.1).1
 have e0:=Z11 b l 0 j (k,v0) he.1
 have hf:(Z0C b 0 l).toArray.findIdx? (fun e=>(e.born:Int) == (j:Int))=some j:=by
   rw [List.findIdx?_toArray,List.findIdx?_eq_some_iff_getElem]
   have hlen:=Z7g b l 0
   refine ⟨by omega,?_,fun q hq=>?_⟩
   · have:=List.getElem?_eq_some_iff.1 e0
     obtain ⟨h5,h6⟩:=this
     rw [h6];simp
   · have e1:=Z11 b l 0 q l[q] (List.getElem?_eq_getElem (by omega))
     obtain ⟨h5,h6⟩:=List.getElem?_eq_some_iff.1 e1
     rw [h6];simp;omega
 have h2:(Instr.entryStore T (.map (some m)) (.int .i64 (j:Nat)) v).run P w = .ok () { w with heap:=w.heap.setIfInBounds m (ZQ b (l.put k v)) }:=by
   unfold Instr.entryStore
   simp only [Sem.run_bind,Result.andThen,h1,ZQ,asInt,asIntOf,Sem.run_pure,hf,h4]
   have hm:((Z0C b 0 l).toArray.modify j fun e=>{ e with val:=v })=((Z0C b 0 l).modify j fun e=>{ e with key:=mkv b k,val:=v }).toArray:=by
     apply Array.ext'
     simp only [Array.toList_modify]
     refine List.ext_getElem? fun q=>?_
     rw [List.getElem?_modify,List.getElem?_modify]
     by_cases hq:j=q
     · subst hq
       simp only [if_true]
       rw [e0];rfl
     · simp [hq]
   rw [he.2 v,Z4G,hm,List.length_set]
 refine Z32 ho (Zg _ rfl _) (w':={ w with heap:=w.heap.setIfInBounds m (ZQ b (l.put k v)) }) ?_ (h _ _ (ha.putNone undef) hD (hs.rep (F:=[(m,ZQ b l)]) (F':=[(m,ZQ b (l.put k v))]) fun T hT=>St.set hT))
 simp only [execOp,ha.reads _ _ hx,ha.reads _ _ hy,ha.reads _ _ hz,Sem.run_bind,h2,Result.andThen,Sem.run_pure]
end ops
end Go.Proofs.YthijcgkicjljhaaGreat
namespace Go.Proofs.YthijcgkicjljhaaGreat.Hn
set_option linter.unusedSimpArgs false
set_option linter.unusedVariables false
open Go
theorem Z0Y:Z1g Tryz.prog 226=some 2:=by kernel_rfl
theorem ZaQ:Z1g Tryz.prog 230=some 8:=by kernel_rfl
theorem Z8s:arN Tryz.prog 230=some (8,1):=by kernel_rfl
theorem Z8t:arN Tryz.prog 233=some (8,1):=by kernel_rfl
theorem Zck:cal Tryz.prog 168=true:=by kernel_rfl
theorem Z9s:ZB Tryz.prog 188=some 3:=by kernel_rfl
theorem ZgV:ZB Tryz.prog 230=some 8:=by kernel_rfl
theorem cn4:ZB Tryz.prog 4=some 1:=by kernel_rfl
theorem Z26:eqB Tryz.prog 10000 226=some (true,2):=by kernel_rfl
theorem Z2w:ZT Tryz.prog 226 0=some 0:=by kernel_rfl
theorem Z1Q:ZT Tryz.prog 226 1=some 1:=by kernel_rfl
theorem Z0D:ZT Tryz.prog 236 0=some 0:=by kernel_rfl
theorem Z3u:ZT Tryz.prog 236 1=some 6:=by kernel_rfl
theorem Z4N:ZT Tryz.prog 236 2=some 14:=by kernel_rfl
theorem Z2J:Z1t Tryz.prog 234=some (226,3):=by kernel_rfl
theorem Z2L:Z2S Tryz.prog 10000 226=true:=by kernel_rfl
theorem Zby:ZL Tryz.prog 226=some [(0,1),(1,1)]:=by kernel_rfl
theorem ZbL:Z0g Tryz.prog 234=true:=by kernel_rfl
theorem Z3P:Zw Tryz.prog 188=some ([.int .i64 0,.int .i64 0,.int .i64 0]):=by kernel_rfl
theorem Z2T:Zw Tryz.prog 226=some ([.int .i64 0,.int .i64 0]):=by kernel_rfl
theorem Zc2:Zw Tryz.prog 230=some ([.bool false,.bool false,.bool false,.bool false,.bool false,.bool false,.bool false,.bool false]):=by kernel_rfl
theorem zv3:zvl Tryz.prog 3=some (.int .i64 0):=by kernel_rfl
theorem Zhz {a b A B:Int} (h1:0≤a) (h2:a≤A) (h3:0≤b) (h4:b≤B):0≤a*b∧a*b≤A*B:=by
 have h5:=Int.mul_le_mul h2 h4 h3 (by omega)
 have h6:=Int.mul_nonneg h1 h3
 omega
def pS (n f t:Nat):Nat:=((List.range f).flatMap (ZbR n)).length+(t-(f+1))
theorem Z7E (n f:Nat):(ZbR n f).length=n-(f+1):=by simp [ZbR]
theorem Ze5 {n f t:Nat} (h:f+1≤t):pS n f (t+1)=pS n f t+1:=by unfold pS;omega
theorem Ze4 {n f:Nat}:pS n f n=pS n (f+1) (f+2):=by
 unfold pS
 rw [List.range_succ,List.flatMap_append,List.length_append]
 simp only [List.flatMap_cons,List.flatMap_nil,List.append_nil,Z7E];omega
theorem ZhD (n:Nat):pS n n (n+1)=(Z1D n).length:=by unfold pS Z1D;omega
theorem ZhY {n f t:Nat} (h1:f+1≤t) (h2:t<n):(Z1D n)[pS n f t]?=some (f,t):=by
 have e1:List.range n=List.range f++f::(List.range n).drop (f+1):=by
   have:=List.drop_eq_getElem_cons (l:=List.range n) (i:=f) (by simp;omega)
   conv=>lhs;rw [← List.take_append_drop f (List.range n)]
   rw [this,List.take_range]
   simp [Nat.min_eq_left (show f≤n by omega)]
 unfold Z1D pS
 rw [e1,List.flatMap_append,List.flatMap_cons,List.getElem?_append_right (by omega),Nat.add_sub_cancel_left,List.getElem?_append_left (by rw [Z7E];omega)]
 unfold ZbR
 rw [List.getElem?_map,List.getElem?_range' (by omega)]
 simp;omega
theorem str_mem {n f t:Nat}:(f,t)∈Z1D n↔f<t∧t<n:=by
 unfold Z1D ZbR
 simp only [List.mem_flatMap,List.mem_range,List.mem_map,Prod.mk.injEq,List.mem_range'_1]
 constructor
 · rintro ⟨a,h1,b,h2,rfl,rfl⟩;omega
 · rintro ⟨h1,h2⟩;exact ⟨f,by omega,t,by omega,rfl,rfl⟩
theorem Zba {w:Wt} {i:Nat} {c:Cnt} (h:w.counts[i]?=some c):w.cn i=c:=by unfold Wt.cn;rw [List.getD_eq_getElem?_getD,h];rfl
theorem Z0R {w:Wt} {i:Nat} (h:i<w.counts.length):w.counts[i]?=some (w.cn i):=by
 obtain ⟨c,hc⟩:∃ c,w.counts[i]?=some c:=⟨_,List.getElem?_eq_getElem h⟩
 rw [Zba hc,hc]
theorem Z7R {w:Wt} (hw:w.ok) {i:Nat} (h:i<w.counts.length):(0≤(w.cn i).hour∧(w.cn i).hour≤60)∧(0≤(w.cn i).lo∧(w.cn i).lo≤500)∧(0≤(w.cn i).hi∧(w.cn i).hi≤500)∧(w.cn i).lo≤(w.cn i).hi:=by
 have h1:=hw.cnt _ (List.mem_of_getElem? (Z0R h))
 have h2:=hw.hours
 omega
theorem ZgX {w:Wt} (hw:w.ok) {i j:Nat} (hij:i<j) (h:j<w.counts.length):(w.cn i).hour<(w.cn j).hour:=hw.lt' hij (Z0R (by omega)) (Z0R h)
structure SumOk (s:List Int) (B:Int):Prop where
 len:s.length=8
 bd:∀ i,-B≤na0 s i∧na0 s i≤B
theorem ZdZ {s:List Int} {i j:Nat} {v:Int} (hi:i<s.length):na0 (s.set i v) j=bif decide (i=j) then v else na0 s j:=by
 unfold na0
 rw [List.getD_eq_getElem?_getD,List.getElem?_set,List.getD_eq_getElem?_getD]
 by_cases h:i=j
 · subst h;simp [hi]
 · simp [h]
theorem Zf4 {w:Wt} (hw:w.ok) {s:List Int} {B:Int} (h:SumOk s B) {b:Bkg} (hb:b∈w.books):SumOk (w.bk1 s b) (B+200):=by
 have hn:=hw.nc
 have h1:=(hw.bks b hb).2.1
 have hB:=h.bd 0
 unfold Wt.bk1
 cases hc:decide (0<w.pos b.hour)&&decide (w.pos b.hour<w.counts.length) with
 | false=>exact ⟨h.len,fun i=>by have:=h.bd i;simp only [cond_false];omega⟩
 | true =>
   simp only [Bool.and_eq_true,decide_eq_true_eq] at hc
   have hl:w.pos b.hour-1<s.length:=by rw [h.len];omega
   refine ⟨by simp [h.len],fun i=>?_⟩
   simp only [cond_true]
   rw [ZdZ hl]
   have h2:=h.bd i
   have h3:=h.bd (w.pos b.hour-1)
   by_cases e:w.pos b.hour-1=i
   · simp only [e,decide_true,cond_true];rw [e] at h3;omega
   · simp only [e,decide_false,cond_false];omega
theorem Z58 {w:Wt} (hw:w.ok):∀ k,SumOk ((w.books.take k).foldl w.bk1 (List.replicate 8 0)) (200*(w.books.take k).length)
 | 0=>⟨by simp,fun i=>by
   have e:na0 (List.replicate 8 0) i=0:=by unfold na0;rw [List.getD_eq_getElem?_getD,List.getElem?_replicate];split<;>rfl
   rw [List.take_zero,List.foldl_nil,e];simp⟩
 | k+1=>by
   have ih:=Z58 hw k
   cases hb:w.books[k]? with
   | none=>rw [List.take_add_one,hb];simpa using ih
   | some b =>
     rw [List.take_add_one,hb,List.foldl_append]
     have:=Zf4 hw ih (List.mem_of_getElem? hb)
     simp only [Option.toList_some,List.foldl_cons,List.foldl_nil,List.length_append,List.length_singleton]
     refine ⟨this.len,fun i=>?_⟩
     have h2:=this.bd i
     omega
theorem Z1W {w:Wt} (hw:w.ok):SumOk w.sums 2000:=by
 have h:=Z58 hw w.books.length
 have hn:=hw.nb
 rw [List.take_length] at h
 exact ⟨h.len,fun i=>by have:=h.bd i;show _≤na0 (w.books.foldl w.bk1 _) i∧na0 (w.books.foldl w.bk1 _) i≤_;omega⟩
theorem Z5k (s:List Int) (f:Nat):ZaX s f f=0:=by simp [ZaX]
theorem Z5l {s:List Int} {f t:Nat} (h:f≤t):ZaX s f (t+1)=ZaX s f t+na0 s t:=by
 unfold ZaX
 rw [show t+1-f=(t-f)+1 by omega,List.range'_1_concat,List.map_append,List.sum_append,show f+(t-f)=t by omega]
 simp
theorem Z8z {s:List Int} {B:Int} (h:SumOk s B) (f:Nat):∀ k,-(B*(k:Nat))≤ZaX s f (f+k)∧ZaX s f (f+k)≤B*(k:Nat)
 | 0=>by simp [Z5k]
 | k+1=>by
   have ih:=Z8z h f k
   have h1:=h.bd (f+k)
   rw [show f+(k+1)=(f+k)+1 by omega,Z5l (by omega)]
   have e:B*((k+1:Nat):Int)=B*(k:Nat)+B:=by rw [Int.natCast_add,Int.mul_add];simp
   omega
theorem ZaW {w:Wt} (hw:w.ok) {f t:Nat} (h:f≤t) (ht:t≤8) : -16000≤w.bk f t∧w.bk f t≤16000:=by
 have h1:=Z8z (Z1W hw) f (t-f)
 rw [show f+(t-f)=t by omega] at h1
 unfold Wt.bk
 omega
theorem Zcz {w:Wt} (hw:w.ok) {f t:Nat} (h:f<t) (ht:t<w.counts.length) : -18000≤w.gap f t∧w.gap f t≤18000:=by
 have hn:=hw.nc
 have h1:=ZaW hw (f:=f) (t:=t) (by omega) (by omega)
 have h2:=Z7R hw (i:=f) (by omega)
 have h3:=Z7R hw ht
 have h4:=ZgX hw h ht
 have h5:=hw.allow
 have h6:=Zhz (a:=w.allow) (b:=(w.cn t).hour-(w.cn f).hour) (A:=20) (B:=60) (by omega) (by omega) (by omega) (by omega)
 unfold Wt.gap
 omega
theorem ZdC {A B:List Value} {s:List Int} {i n:Nat} (hn:n=A.length+i) (hi:i<s.length):(A++(Zj s++B))[n]?=some (.int .i64 (na0 s i)):=by
 subst hn
 rw [List.getElem?_append_right (by omega),Nat.add_sub_cancel_left,List.getElem?_append_left (by simpa using hi)]
 simp [Zj,na0,hi]
theorem Z7e {A:List Value} {s:List Int} {v:Value} {n:Nat} (hn:n=A.length+s.length):(A++(Zj s++[v]))[n]?=some v:=by
 subst hn
 rw [List.getElem?_append_right (by omega),Nat.add_sub_cancel_left,List.getElem?_append_right (by simp)]
 simp
theorem Zcq {A B:List Value} {s:List Int} {i n:Nat} {v:Int} (hn:n=A.length+i) (hi:i<s.length):spl (A++(Zj s++B)) n [.int .i64 v]=A++(Zj (s.set i v)++B):=by
 subst hn
 unfold spl
 rw [List.take_length_add_append,List.append_assoc,List.append_assoc]
 congr 1
 rw [show A.length+i+[Value.int .i64 v].length=A.length+(i+1) from by simp;omega,List.drop_length_add_append,List.take_append_of_le_length (by simp;omega),List.drop_append_of_le_length (by simp;omega),← List.append_assoc,← List.append_assoc]
 congr 1
 apply List.ext_getElem?
 intro j
 simp only [Zj,List.map_set]
 rw [List.set_eq_take_append_cons_drop,if_pos (by simpa using hi)]
 simp
def MpF (m:Nat) (kv:KV):World→Prop:=fun w=>w.heap[m]?=some (ZQ true kv)
structure KvW (w:Wt) (kv:KV):Prop where
 len:∀ e∈kv,e.1.length=2
 at_:∀ f t:Nat,f<t→t<w.counts.length→(kv.get [(f:Int),(t:Int)]).getD (.int .i64 0) = .int .i64 ((w.thr f t:Nat):Int)
theorem Z9C {own:Nat→Bool} {f t T:Nat} (h:f≤t):(List.range' f (t+1-f)).foldl (fun p i=>Z7W own T i p) (T,-2)=Z7W own T t ((List.range' f (t-f)).foldl (fun p i=>Z7W own T i p) (T,-2)):=by
 rw [show t+1-f=(t-f)+1 by omega,List.range'_1_concat,List.foldl_append,show f+(t-f)=t by omega];rfl
theorem Z9D (own:Nat→Bool) {f T:Nat} (hT:T≤8):∀ k,f+k≤T→(let p:=(List.range' f k).foldl (fun p i=>Z7W own T i p) (T,(-2:Int));p.1≤T ∧ -2≤p.2∧p.2<(f+k:Nat)∧(p.2 = -2→p.1=T)∧(p.2 ≠ -2→0≤p.2∧(p.1:Int)≤p.2∧f≤p.1))
 | 0,_=>by simp;omega
 | k+1,h=>by
   have ih:=Z9D own hT k (f:=f) (by omega)
   dsimp only at ih ⊢
   rw [List.range'_1_concat,List.foldl_append]
   generalize (List.range' f k).foldl (fun p i=>Z7W own T i p) (T,(-2:Int))=p at ih ⊢
   simp only [List.foldl_cons,List.foldl_nil,Z7W]
   cases own (f+k) with
   | false=>simp only [cond_false];omega
   | true =>
     simp only [cond_true]
     rcases Int.lt_or_le (-2) p.2 with h2 | h2
     · have:=ih.2.2.2.2 (by omega);omega
     · have:=ih.2.2.2.1 (by omega);omega
theorem Z9B (own:Nat→Bool) {f t:Nat} (ht:t≤8) (h:f≤t):(Z3Y own f t).1≤t ∧ -2≤(Z3Y own f t).2∧(Z3Y own f t).2<(t:Int)∧((Z3Y own f t).2 ≠ -2→0≤(Z3Y own f t).2∧((Z3Y own f t).1:Int)≤(Z3Y own f t).2∧f≤(Z3Y own f t).1):=by
 have:=Z9D own ht (t-f) (f:=f) (by omega)
 dsimp only at this
 rw [show f+(t-f)=t by omega] at this
 exact ⟨this.1,this.2.1,this.2.2.1,this.2.2.2.2⟩
def ZI (own:Nat→Bool):List Bool:=(List.range 8).map own
abbrev ZC (l:List Bool):List Value:=l.map Value.bool
theorem ZM (own:Nat→Bool):(ZI own).length=8:=by simp [ZI]
theorem Z5m (l:List Bool):(ZC l).all (·.oneCell')=true:=List.all_eq_true.2 fun v hv=>by obtain ⟨x,_,rfl⟩:=List.mem_map.1 hv;rfl
theorem Z7D {l vs:List Value} (h:l.length=vs.length):spl l 0 vs=vs:=by unfold spl;rw [List.take_zero,List.nil_append,List.drop_eq_nil_of_le (by omega),List.append_nil]
theorem ZbP {own:Nat→Bool} {i n:Nat} (hi:i<8) (hn:n=i):spl (ZC ((ZI own).take i++List.replicate (8-i) false)) n [.bool (own i)]=ZC ((ZI own).take (i+1)++List.replicate (8-(i+1)) false):=by
 subst hn
 unfold spl
 have e1:(ZC ((ZI own).take n++List.replicate (8-n) false)).take n=ZC ((ZI own).take n):=by
   simp only [ZC,List.map_append]
   rw [List.take_append_of_le_length (by simp [ZM];omega),List.take_of_length_le (by simp [ZM];omega)]
 rw [e1,List.take_add_one,show (ZI own)[n]?=some (own n) by simp [ZI,hi]]
 simp only [ZC,List.map_append,List.append_assoc]
 congr 2
 have h8:((ZI own).take n).length=n:=by rw [List.length_take,ZM];omega
 rw [List.drop_append,List.drop_eq_nil_of_le (by simp only [List.length_map,h8,List.length_singleton];omega)]
 simp only [List.nil_append,List.length_map,h8,List.length_singleton,List.map_replicate,List.drop_replicate]
 congr 1;omega
theorem ZbO {w:Wt} (hw:w.ok) {Sx:Nat}:ZC ((ZI (w.own Sx)).take (w.counts.length-1)++List.replicate (8-(w.counts.length-1)) false)=ZC (ZI (w.own Sx)):=by
 congr 1
 apply List.ext_getElem?
 intro j
 have hn:=hw.nc
 rw [List.getElem?_append,List.getElem?_replicate]
 simp only [List.length_take,ZM,ZI]
 by_cases h1:j<w.counts.length-1
 · rw [if_pos (by simp;omega),List.getElem?_take,if_pos h1]
 · rw [if_neg (by simp;omega)]
   by_cases h2:j<8
   · rw [if_pos (by simp;omega)]
     have:w.own Sx j=false:=by unfold Wt.own;rw [decide_eq_false (by omega)];rfl
     simp [h2,this]
   · rw [if_neg (by simp;omega),List.getElem?_eq_none (by simp;omega)]
theorem ZcT {w:Wt} (hw:w.ok) (f t:Nat):w.thr f t<2 ^ 6:=by
 unfold Wt.thr
 have:∀ (l:List Spl) (m:Nat),(∀ x∈l,x∈w.spells)→m<2 ^ 6→l.foldl (ZaN w f t) m<2 ^ 6:=fun l=>by
   induction l with
   | nil=>exact fun m _ h=>h
   | cons x l ih =>
     intro m hx hm
     refine ih _ (fun y hy=>hx y (List.mem_cons_of_mem _ hy)) ?_
     have h1:=(hw.spl x (hx x (by simp))).2.2.1
     have h2:=hw.hands
     unfold ZaN
     cases w.over f t x with
     | false=>exact hm
     | true=>exact Nat.or_lt_two_pow hm (Nat.pow_lt_pow_right (by decide) (by omega))
 exact this w.spells 0 (fun _ h=>h) (by decide)
theorem ZhI {w:Wt} (h:Int):w.pos h≤w.counts.length:=List.findIdx_le_length
theorem Zfm (wt:Wt) (a1 a2 a3:Option Addr) (k1 k2 k3:Nat) (H:Z7) (R:Z4) :
    Fn Tryz.prog 135 [(wt.v a1 a2 a3 k1 k2 k3)] H R (fun v H' R'=>∃ qw,v = .func (.func 169) #[] #[.pointer (some ⟨qw,0,none⟩)]∧H'=H∧R'=RowsA (some ⟨qw,0,none⟩) 6 [(wtl wt a1 a2 a3 k1 k2 k3)]::R):=by
 refine Z9 Tryz.func135 rfl Tryz.ntmps135 rfl ?_
 refine sqt 2 rfl (bx rfl rfl rfl (fun b1=>pur 1 rfl (sqt 2 rfl (sp rfl (PE.makeFunc rfl rfl) rfl (pur 1 rfl (Z5 ?_))))))
 exact rtA rfl rfl rfl ⟨b1,rfl,rfl,rfl⟩ (fun w h=>St.rows (sz:=6) (rows:=[(wtl wt a1 a2 a3 k1 k2 k3)]) (rest:=[]) (h.pull b1) (by simp [wtl]))
theorem Zcb (wt:Wt) (a1 a2 a3:Option Addr) (k1 k2 k3:Nat) (hw:wt.ok) (qw lk:Nat) (I:Nat→Z7→Z4→Prop) (E:Z7→Z4→Prop) (hI:∀ k H R,I k H R→RowsA (some ⟨qw,0,none⟩) 6 [(wtl wt a1 a2 a3 k1 k2 k3)]∈R)
    (hy:∀ k f t H R,f<t→t<wt.counts.length→(Z1D wt.counts.length)[k]?=some (f,t)→I k H R→Yd Tryz.prog lk [.agg #[.int .i64 (f:Nat),.int .i64 (t:Nat)]] H R (fun v H' R'=>(v = .bool true∧I (k+1) H' R')∨(v = .bool false∧E H' R'))) (H:Z7) (R:Z4) (h0:I 0 H R) :
    Fn Tryz.prog 169 [yv lk,.pointer (some ⟨qw,0,none⟩)] H R (fun _ H' R'=>I (Z1D wt.counts.length).length H' R'∨E H' R'):=by
 have hnc:=hw.nc
 have hFq:=hI _ _ _ h0
 haveI:MemRows (some ⟨qw,0,none⟩) 6 [(wtl wt a1 a2 a3 k1 k2 k3)] R:=⟨hFq⟩
 refine Z9 Tryz.func169 rfl Tryz.ntmps169 rfl ?_
 refine sqt 4 rfl (sp rfl (PE.fA ZN rfl) rfl (spL rfl rfl (lfB (sz:=6) Z02 rfl) rfl (sp rfl (PE.lenSl Z0p rfl) rfl (pur 1 rfl (Z1 ?_)))))
 refine Zc (ι:={x:Nat×Z7×Z4 // x.1≤wt.counts.length∧I (pS wt.counts.length x.1 (x.1+1)) x.2.1 x.2.2}) (fun x=>⟨[(0,yv lk),(1,.pointer (some ⟨qw,0,none⟩)),(7,.int .i64 wt.counts.length),(8,.int .i64 x.1.1)],x.1.2.1,x.1.2.2⟩) (fun x=>wt.counts.length-x.1.1) ⟨(0,H,R),Nat.zero_le _,by simpa [pS] using h0⟩ ?_ (fun x=>?_)
 exact Zf idH
 obtain ⟨⟨f,H0,R0⟩,hf,hI0⟩:=x
 dsimp only at hf hI0 ⊢
 refine sqt 1 rfl (pur 1 rfl (Z0 ?_))
 refine Z2 rfl ?_ ?_<;>intro hc0<;>try simp only [cS] at hc0
 refine Z3 (Z0 (Z1 (sqt 2 rfl (pur 2 rfl (sqt 3 rfl (pur 1 rfl (sp rfl (PE.add rfl rfl (by omega)) rfl (pur 1 rfl (Z1 ?_)))))))))
 refine Zc (ι:={x:Nat×Z7×Z4 // f+1≤x.1∧x.1≤wt.counts.length∧I (pS wt.counts.length f x.1) x.2.1 x.2.2}) (fun x=>⟨[(0,yv lk),(1,.pointer (some ⟨qw,0,none⟩)),(7,.int .i64 wt.counts.length),(8,.int .i64 f),(3,.int .i64 f),(4,.int .i64 x.1.1)],x.1.2.1,x.1.2.2⟩) (fun x=>wt.counts.length-x.1.1) ⟨(f+1,H0,R0),Nat.le_refl _,by dsimp only;omega,hI0⟩ ?_ (fun x=>?_)
 exact Zf idH
 obtain ⟨⟨t,H1,R1⟩,hft,ht,hI1⟩:=x
 dsimp only at hft ht hI1 ⊢
 have hFq:=hI _ _ _ hI1
 haveI:MemRows (some ⟨qw,0,none⟩) 6 [(wtl wt a1 a2 a3 k1 k2 k3)] R1:=⟨hFq⟩
 refine Z0 (sqt 5 rfl (pur 1 rfl (sp rfl (PE.fA ZN rfl) rfl (spL rfl rfl (lfB (sz:=6) Z02 rfl) rfl (sp rfl (PE.lenSl Z0p rfl) rfl (pur 1 rfl ?_))))))
 refine Z2 rfl ?_ ?_<;>intro hc1<;>try simp only [cS] at hc1
 refine Z3 (Z0 (Z1 (sqt 6 rfl (pur 3 rfl (sp rfl (PE.build (out:=[_,_]) Zby Z2T rfl rfl) rfl ?_)))))
 refine clY rfl rfl rfl rfl (hy _ f t _ _ (by omega) (by omega) (ZhY hft (by omega)) hI1) ?_
 rintro v H3 R3 (⟨rfl,hI3⟩ | ⟨rfl,hE3⟩)
 refine pur 1 rfl ?_
 refine ZD rfl ?_
 refine Z3 (sqr 3 rfl (pur 1 rfl (sp rfl (PE.add rfl rfl (by omega)) rfl (pur 1 rfl ?_))))
 first
   | cases hc2
   | exact Ze ⟨(t+1,H3,R3),by dsimp only;omega,by dsimp only;omega,by dsimp only;rw [Ze5 hft];exact hI3⟩ (by dsimp only;omega) idH
 refine pur 1 rfl ?_
 refine Z00 rfl ?_
 refine Z5 ?_
 first | cases hc2 | exact Zk (vs:=[]) rfl .nil rfl (.inr hE3) idH
 obtain rfl:t=wt.counts.length:=by omega
 rw [Ze4] at hI1
 refine Z8 (Za (Za (Zn (sqr 2 rfl (sp rfl (PE.add rfl rfl (by omega)) rfl (pur 1 rfl ?_))))))
 exact Zb ⟨(f+1,H1,R1),by dsimp only;omega,hI1⟩ idH
 obtain rfl:f=wt.counts.length:=by omega
 rw [ZhD] at hI0
 refine Z8 (Za (Za (Zn ?_)))
 exact Z0Q (vs:=[]) rfl .nil rfl (.inl hI0) idH
theorem Z8G (wt:Wt) (a1 a2 a3:Option Addr) (k1 k2 k3:Nat) (hw:wt.ok) (bd m:Nat) (f t:Nat) (hft:f≤t) (ht:t<wt.counts.length) (H:Z7) (R:Z4) [hD:MemRows (some ⟨bd,0,none⟩) 15 [(wtl wt a1 a2 a3 k1 k2 k3++(Zj (wt.sums)++[.map (some m)]))] R] :
    FnV Tryz.prog 168 [.pointer (some ⟨bd,0,none⟩),.agg #[.int .i64 (f:Nat),.int .i64 (t:Nat)]] H R (.int .i64 (wt.bk f t)):=by
 have hnc:=hw.nc
 have hs:=Z1W hw
 refine Z9 Tryz.func168 rfl Tryz.ntmps168 rfl ?_
 refine sqt 2 rfl (bx rfl rfl rfl (fun b3=>pur 1 rfl (sqt 1 rfl (pur 1 rfl (Z0 (sqt 3 rfl (sp rfl (PE.fA Z2w rfl) rfl (spL rfl rfl (lh sc3 rfl rfl) rfl (pur 1 rfl (Z1 ?_))))))))))
 refine Zc (ι:={i:Nat // f≤i∧i≤t}) (fun i=>⟨[(0,.pointer (some ⟨bd,0,none⟩)),(3,.pointer (some ⟨b3,0,none⟩)),(5,.int .i64 (ZaX wt.sums f i.1)),(6,.int .i64 i.1)],(b3,cel 226 [.int .i64 (f:Nat),.int .i64 (t:Nat)])::H,R⟩) (fun i=>t-i.1) ⟨f,Nat.le_refl _,hft⟩ ?_ (fun i=>?_)
 exact ZbT (by dsimp only;rw [Z5k];exact sbA) idH
 obtain ⟨i,hi1,hi2⟩:=i
 dsimp only at hi1 hi2 ⊢
 have hib:=ZaW hw (f:=f) (t:=i) hi1 (by omega)
 unfold Wt.bk at hib
 refine Z0 (sqt 4 rfl (pur 1 rfl (sp rfl (PE.fA Z1Q rfl) rfl (spL rfl rfl (lh sc3 rfl rfl) rfl (pur 1 rfl ?_)))))
 refine Z2 rfl ?_ ?_<;>intro hc0<;>try simp only [cS] at hc0
 have hit:i<wt.sums.length:=by rw [hs.len];omega
 have hsi:=hs.bd i
 refine Z3 (Z0 (Z1 (sqr 9 rfl (pur 3 rfl (sp rfl (PE.nilCheck rfl) rfl (sp rfl (PE.fA Z3u rfl) rfl (sp rfl (PE.indexArr Z8t rfl rfl (by omega) (by omega)) rfl (spL rfl rfl (lfB (sz:=15) sc3 (ZdC (by show _=6+i;omega) hit)) rfl (sp rfl (PE.add rfl rfl (by omega)) rfl (pur 1 rfl (sqr 3 rfl (pur 1 rfl (sp rfl (PE.add rfl rfl (by omega)) rfl (pur 1 rfl ?_))))))))))))))
 exact Z0e ⟨i+1,by omega,by omega⟩ (by dsimp only;omega) (by dsimp only;rw [Z5l hi1];exact sbA) idH
 obtain rfl:i=t:=by omega
 refine Z8 (Za (Za (Zn (sqt 2 rfl (pur 2 rfl (Z5 ?_))))))
 exact rtA rfl rfl rfl ⟨rfl,rfl,rfl⟩ drp
theorem Zdf (wt:Wt) (a1 a2 a3:Option Addr) (k1 k2 k3:Nat) (hw:wt.ok) (bd m:Nat) (f t:Nat) (hft:f<t) (ht:t<wt.counts.length) (H:Z7) (R:Z4) [hD:MemRows (some ⟨bd,0,none⟩) 15 [(wtl wt a1 a2 a3 k1 k2 k3++(Zj (wt.sums)++[.map (some m)]))] R] [hR1:MemRows a1 3 (crows wt.counts) R] :
    FnV Tryz.prog 137 [.pointer (some ⟨bd,0,none⟩),.agg #[.int .i64 (f:Nat),.int .i64 (t:Nat)]] H R (.int .i64 (wt.gap f t)):=by
 have hnc:=hw.nc
 refine Z9 Tryz.func137 rfl Tryz.ntmps137 rfl ?_
 refine sqt 2 rfl (bx rfl rfl rfl (fun b3=>pur 1 rfl (Z0 ?_)))
 refine Z2j (ι:=Nat×Nat) (fun x=>⟨[(0,.pointer (some ⟨bd,0,none⟩)),(3,.pointer (some ⟨b3,0,none⟩)),(5,.pointer (some ⟨x.1,0,none⟩)),(6,.pointer (some ⟨x.2,0,none⟩))],(x.2,cel 188 (crow (wt.cn t)))::(x.1,cel 188 (crow (wt.cn f)))::(b3,cel 226 [.int .i64 (f:Nat),.int .i64 (t:Nat)])::H,R⟩) ?_ ?_
 refine Zd [0,1,3,7,15,0,32,127,255,0,512,1536,3584,7680,0,16384,65024,130560,0,0,786943,2097151] (tks 0 4 (.ld 4 (.tk 5 (.ld 6 (.tk 7 (.ld 8 (tks 9 4 (.ld 13 (.tk 14 (.ld 15 (.tk 16 (.ld 17 (.any (.alt 18 (.big 19 (.big 20 (.big 21 .done))) (.alt 19 (.big 18 (.big 20 (.big 21 .done))) .stop))))))))))))))) Zq (by kernel_rfl) ?_
 have hcf:wt.counts[f]?=some (wt.cn f):=Z0R (by omega)
 have hct:wt.counts[t]?=some (wt.cn t):=Z0R (by omega)
 refine Zl (a:=a1) (sz:=3) (rows:=crows wt.counts) (by intro h0;simp [crows] at h0;simp [h0] at hcf) (fun bf of he=>?_)
 subst he
 refine Zm 1 rfl (tk rfl (PE.nilCheck rfl) rfl (tk rfl (PE.fA Z0D rfl) rfl (tk rfl (PE.fA ZN rfl) rfl (ld rfl rfl (lfB (sz:=15) Z02 rfl) rfl (tk rfl (PE.fA Z2w rfl) rfl (ld rfl rfl (lh sc3 rfl rfl) rfl (tk rfl (PE.indexAddr Z2t rfl rfl (by omega) (by omega)) rfl (ld rfl rfl (lfA Z0K (row:=crow (wt.cn f)) (ZS hcf) rfl) rfl (Zm 1 rfl (tk rfl (PE.nilCheck rfl) rfl (tk rfl (PE.fA Z0D rfl) rfl (tk rfl (PE.fA ZN rfl) rfl (ld rfl rfl (lfB (sz:=15) Z02 rfl) rfl (tk rfl (PE.fA Z1Q rfl) rfl (ld rfl rfl (lh sc3 rfl rfl) rfl ?_)))))))))))))))
 refine tk rfl (PE.indexAddr Z2t rfl rfl (by omega) (by omega)) rfl (ld rfl rfl (lfA Z0K (row:=crow (wt.cn t)) (ZS hct) rfl) rfl ?_)
 refine Zs ?_ ?_
 refine alc rfl Z3P rfl (fun b5=>?_)
 refine bg (fun w hs=>⟨(lfA Z0K (row:=crow (wt.cn t)) (ZS hct) rfl) w hs,(lh sc3 rfl rfl) w hs,(lfB (sz:=15) Z02 rfl) w hs,(lfA Z0K (row:=crow (wt.cn f)) (ZS hcf) rfl) w hs,(lh sc3 rfl rfl) w hs,(lfB (sz:=15) Z02 rfl) w hs,trivial⟩) ?_
 refine alc rfl Z3P rfl (fun b6=>?_)
 refine bg (fun w hs=>⟨(lfA Z0K (row:=crow (wt.cn t)) (ZS hct) rfl) w hs,(lh sc3 rfl rfl) w hs,(lfB (sz:=15) Z02 rfl) w hs,(lfA Z0K (row:=crow (wt.cn f)) (ZS hcf) rfl) w hs,(lh sc3 rfl rfl) w hs,(lfB (sz:=15) Z02 rfl) w hs,trivial⟩) ?_
 refine sto rfl rfl rfl Z9s rfl rfl rfl rfl ?_
 refine bg (fun w hs=>⟨(lfA Z0K (row:=crow (wt.cn t)) (ZS hct) rfl) w hs,(lh sc3 rfl rfl) w hs,(lfB (sz:=15) Z02 rfl) w hs,trivial,trivial,trivial,trivial⟩) ?_
 refine sto rfl rfl rfl Z9s rfl rfl rfl rfl ?_
 refine bgT ?_
 exact Zh (b5,b6) (fun w h=>(h.pull b5).pull b6)
 refine Zs ?_ ?_
 refine alc rfl Z3P rfl (fun b6=>?_)
 refine bg (fun w hs=>⟨(lfA Z0K (row:=crow (wt.cn t)) (ZS hct) rfl) w hs,(lh sc3 rfl rfl) w hs,(lfB (sz:=15) Z02 rfl) w hs,(lfA Z0K (row:=crow (wt.cn f)) (ZS hcf) rfl) w hs,(lh sc3 rfl rfl) w hs,(lfB (sz:=15) Z02 rfl) w hs,trivial⟩) ?_
 refine alc rfl Z3P rfl (fun b5=>?_)
 refine bg (fun w hs=>⟨(lfA Z0K (row:=crow (wt.cn t)) (ZS hct) rfl) w hs,(lh sc3 rfl rfl) w hs,(lfB (sz:=15) Z02 rfl) w hs,(lfA Z0K (row:=crow (wt.cn f)) (ZS hcf) rfl) w hs,(lh sc3 rfl rfl) w hs,(lfB (sz:=15) Z02 rfl) w hs,trivial⟩) ?_
 refine sto rfl rfl rfl Z9s rfl rfl rfl rfl ?_
 refine bg (fun w hs=>⟨(lfA Z0K (row:=crow (wt.cn t)) (ZS hct) rfl) w hs,(lh sc3 rfl rfl) w hs,(lfB (sz:=15) Z02 rfl) w hs,trivial,trivial,trivial,trivial⟩) ?_
 refine sto rfl rfl rfl Z9s rfl rfl rfl rfl ?_
 refine bgT ?_
 exact Zh (b5,b6) (fun w h=>(h.pull b5).pull b6)
 exact ZO
 rintro ⟨b5,b6⟩
 dsimp only
 have hbd:=ZaW hw (f:=f) (t:=t) (by omega) (by omega)
 have h2:=Z7R hw (i:=f) (by omega)
 have h3:=Z7R hw ht
 have h4:=ZgX hw hft ht
 have h5:=hw.allow
 have h6:=Zhz (a:=wt.allow) (b:=(wt.cn t).hour-(wt.cn f).hour) (A:=20) (B:=60) (by omega) (by omega) (by omega) (by omega)
 refine Z0 ?_
 refine Zd [0,1,3,0,0,24,63,0,128,384,896,1920,0,4096,0,16384,61440,130944,262143,0,524288,1572864,4194303,8388607] (.tk 0 (.tk 1 (.ld 2 (.tk 3 (.ld 4 (tks 7 4 (.ld 11 (.tk 12 (.ld 13 (.tk 14 (.ld 15 (.tk 16 (.tk 17 (.tk 19 (.tk 20 (.ld 21 (.big 5 (.tk 6 (.tk 18 (.tk 22 (.tk 23 .done))))))))))))))))))))) Zq (by kernel_rfl) ?_
 refine tk rfl (PE.fA Z1p rfl) rfl (tk rfl (PE.fA Z28 rfl) rfl (ld rfl rfl (lh sc3 rfl rfl) rfl (Zm 1 rfl (ld rfl rfl (lhA [_,_] Z0Y rfl rfl rfl) rfl (Zm 1 rfl (tk rfl (PE.nilCheck rfl) rfl (tk rfl (PE.fA Z0D rfl) rfl (tk rfl (PE.fA Z9L rfl) rfl (ld rfl rfl (lfB (sz:=15) sc3 rfl) rfl (tk rfl (PE.fA Z0N rfl) rfl (ld rfl rfl (lh sc3 rfl rfl) rfl (tk rfl (PE.fA Z0N rfl) rfl (ld rfl rfl (lh sc3 rfl rfl) rfl (tk rfl (PE.sub rfl rfl (by omega)) rfl (tk rfl (PE.mul rfl rfl (by omega)) rfl ?_)))))))))))))))
 refine tk rfl (PE.fA Z1p rfl) rfl (tk rfl (PE.fA Z29 rfl) rfl (ld rfl rfl (lh sc3 rfl rfl) rfl ?_))
 refine clV rfl Zck rfl rfl (Z8G wt a1 a2 a3 k1 k2 k3 hw bd m f t (by omega) ht _ _) ?_
 refine bg (fun w hs=>⟨(lh sc3 rfl rfl) w hs,(lh sc3 rfl rfl) w hs,(lh sc3 rfl rfl) w hs,(lfB (sz:=15) sc3 rfl) w hs,trivial,(lh sc3 rfl rfl) w hs,trivial⟩) ?_
 refine tk rfl (PE.add rfl rfl (by omega)) rfl (tk rfl (PE.sub rfl rfl (by omega)) rfl (tk rfl (PE.sub rfl rfl (by omega)) rfl (Zm 1 rfl (Z5 ?_))))
 exact rtA rfl rfl rfl ⟨rfl,rfl,rfl⟩ drp
theorem Zdp (wt:Wt) (a1 a2 a3:Option Addr) (k1 k2 k3:Nat) (hw:wt.ok) (bd m:Nat) (kv:KV) (hkv:KvW wt kv) (Sx:Nat) (hSx:Sx<2 ^ 6) (H:Z7) (R:Z4) [hD:MemRows (some ⟨bd,0,none⟩) 15 [(wtl wt a1 a2 a3 k1 k2 k3++(Zj (wt.sums)++[.map (some m)]))] R] [hK:MemF (MpF m kv) R] :
    FnV Tryz.prog 134 [.pointer (some ⟨bd,0,none⟩),.int .i64 (Sx:Nat)] H R (.agg (ZC (ZI (wt.own Sx))).toArray):=by
 have hnc:=hw.nc
 have hs:=Z1W hw
 refine Z9 Tryz.func134 rfl Tryz.ntmps134 rfl ?_
 refine sqt 1 rfl (alc rfl Zc2 rfl (fun b4=>sqt 1 rfl (alc rfl Zc2 rfl (fun b5=>Z0 (sqt 8 rfl (pur 1 rfl (sp rfl (PE.nilCheck rfl) rfl (sp rfl (PE.fA Z0D rfl) rfl (sp rfl (PE.fA ZN rfl) rfl (spL rfl rfl (lfB (sz:=15) Z02 rfl) rfl (sp rfl (PE.lenSl Z0p rfl) rfl (sp rfl (PE.sub rfl rfl (by omega)) rfl (pur 1 rfl (Z1 ?_))))))))))))))
 refine Zc (ι:={i:Nat // i+1≤wt.counts.length}) (fun i=>⟨[(0,.pointer (some ⟨bd,0,none⟩)),(1,.int .i64 (Sx:Nat)),(4,.pointer (some ⟨b4,0,none⟩)),(5,.pointer (some ⟨b5,0,none⟩)),(13,.int .i64 ((wt.counts.length:Int)-1)),(14,.int .i64 i.1)],(b5,cel 230 (ZC ((ZI (wt.own Sx)).take i.1++List.replicate (8-i.1) false)))::(b4,cel 230 (ZC (List.replicate 8 false)))::H,R⟩) (fun i=>wt.counts.length-i.1) ⟨0,by omega⟩ ?_ (fun i=>?_)
 exact Zf idH
 obtain ⟨i,hi⟩:=i
 dsimp only at hi ⊢
 refine sqt 1 rfl (pur 1 rfl (Z0 ?_))
 refine Z2 rfl ?_ ?_<;>intro hc0<;>try simp only [cS] at hc0
 have hkw:=hkv.at_ i (i+1) (by omega) (by omega)
 have htl:=ZcT hw i (i+1)
 have hown:wt.own Sx i=decide (((wt.thr i (i+1)&&&Sx:Nat):Int)≠0):=by unfold Wt.own;rw [dT (show i+1<wt.counts.length by omega),Bool.true_and];exact decide_eq_decide.2 (by omega)
 refine Z3 (Z0 (Z1 (sqt 2 rfl (pur 2 rfl (sqr 15 rfl (pur 2 rfl (sp rfl (PE.nilCheck rfl) rfl (sp rfl (PE.fA Z4N rfl) rfl (spL rfl rfl (lfB (sz:=15) ZbL (Z7e (by rw [hs.len];rfl))) rfl (pur 2 rfl (sp rfl (PE.add rfl rfl (by omega)) rfl (sp rfl (PE.build (out:=[_,_]) Zby Z2T rfl rfl) rfl ?_))))))))))))
 refine spK rfl rfl rfl (Z4S (b:=true) kv [((i:Nat):Int),((i+1:Nat):Int)] Z2J (KeyT.of Z26 Z2L) (Z0q zv3) rfl hkv.len (fun w hs=>hs.now hK.mem) hkw) rfl ?_
 refine pur 1 rfl (sp rfl (PE.andN (m:=wt.thr i (i+1)) (n:=Sx) rfl rfl rfl (by omega) (by omega)) rfl (pur 1 rfl ?_))
 rw [← hown]
 refine sp rfl (PE.indexArr Z8s rfl rfl (by omega) (by omega)) rfl ?_
 refine Z03 (l':=ZC ((ZI (wt.own Sx)).take (i+1)++List.replicate (8-(i+1)) false)) rfl rfl rfl cn4 rfl rfl rfl (ZbP (by omega) (by omega)) (by simp only [ZC,List.length_map,List.length_append,List.length_take,List.length_replicate,ZM];show 0+((i:Nat):Int).toNat*1+1≤_;omega) ?_
 refine sqr 2 rfl (sp rfl (PE.add rfl rfl (by omega)) rfl (pur 1 rfl ?_))
 exact Zb ⟨i+1,by omega⟩ idH
 obtain rfl:i=wt.counts.length-1:=by omega
 refine Z8 (Za (Za (Zn (sqt 2 rfl ?_))))
 rw [ZbO hw]
 refine spL rfl rfl (lhA (ZC (ZI (wt.own Sx))) ZaQ rfl (rest:=[]) (by rw [List.append_nil];rfl) (by simp [ZC,ZM])) rfl ?_
 refine Z03 (l':=ZC (ZI (wt.own Sx))) rfl rfl rfl ZgV rfl (by show (ZC (ZI (wt.own Sx))).length=8;simp [ZC,ZM]) (by show (ZC (ZI (wt.own Sx))).all (·.oneCell')=true;exact Z5m _) (Z7D (by show 8=(ZC (ZI (wt.own Sx))).length;simp [ZC,ZM])) (by show 0+(ZC (ZI (wt.own Sx))).length≤_;simp [ZC,ZM]) ?_
 refine Z5 ?_
 exact Zk (vs:=[_]) rfl (.cons (RV.cell rfl (lhA (ZC (ZI (wt.own Sx))) ZaQ rfl (rest:=[]) (by rw [List.append_nil];rfl) (by simp [ZC,ZM]))) .nil) rfl ⟨rfl,rfl,rfl⟩ (fun w h=>(h.del b5).del b4)
theorem Zcj:cal Tryz.prog 135=true:=by kernel_rfl
theorem Zcl:cal Tryz.prog 169=true:=by kernel_rfl
theorem Zgm:cal Tryz.prog 215=true:=by kernel_rfl
theorem Zgn:cal Tryz.prog 216=true:=by kernel_rfl
theorem Zjj:ZB Tryz.prog 181=some 1:=by kernel_rfl
theorem Zjk:ZB Tryz.prog 190=some 2:=by kernel_rfl
theorem Zjl:ZB Tryz.prog 192=some 3:=by kernel_rfl
theorem Z5w:ZB Tryz.prog 226=some 2:=by kernel_rfl
theorem cn3:ZB Tryz.prog 3=some 1:=by kernel_rfl
theorem Zbj:Z7Y Tryz.prog 203=some .u64:=by kernel_rfl
theorem ik3:Z7Y Tryz.prog 3=some .i64:=by kernel_rfl
theorem ZjF:ZL Tryz.prog 236=some [(0,6),(6,8),(14,1)]:=by kernel_rfl
theorem Z2C:Z0g Tryz.prog 181=true:=by kernel_rfl
theorem sc4:Z0g Tryz.prog 4=true:=by kernel_rfl
theorem ZjY:(Tryz.prog.underlying 203).isSome=true:=by kernel_rfl
theorem us3:(Tryz.prog.underlying 3).isSome=true:=by kernel_rfl
theorem Zk2:Zw Tryz.prog 181=some ([.pointer none]):=by kernel_rfl
theorem ZaG:Zw Tryz.prog 190=some ([.int .i64 0,.int .i64 0]):=by kernel_rfl
theorem Z8h:Zw Tryz.prog 192=some ([.int .i64 0,.int .i64 0,.int .i64 0]):=by kernel_rfl
theorem Zk5:Zw Tryz.prog 236=some ([.int .i64 0,.int .i64 0,.int .i64 0,.slice none 0 0,.slice none 0 0,.slice none 0 0,.int .i64 0,.int .i64 0,.int .i64 0,.int .i64 0,.int .i64 0,.int .i64 0,.int .i64 0,.int .i64 0,.map none]):=by kernel_rfl
theorem Z75 {own:Nat→Bool} {i n:Nat} (hn:n=i) (h:i<8):(ZC (ZI own))[n]?=some (.bool (own i)):=by subst hn;simp [ZC,ZI,h]
theorem Zh7 {own:Nat→Bool} {T i:Nat} {p:Nat×Int} (h:own i=true):Z7W own T i p=(min p.1 i,(i:Int)):=by unfold Z7W;rw [h];rfl
theorem Zh6 {own:Nat→Bool} {T i:Nat} {p:Nat×Int} (h:own i=false):Z7W own T i p=p:=by unfold Z7W;rw [h];rfl
theorem ZjA (a b:Nat):((min a b:Nat):Int)=min (a:Int) (b:Int):=by omega
theorem ZhJ {w:Wt} {h:Int} {i:Nat} (hi:i≤w.counts.length) (h1:∀ k,k<i→(w.cn k).hour<h) (h2:∀ k,i≤k→k<w.counts.length→h≤(w.cn k).hour):w.pos h=i:=by
 unfold Wt.pos
 rcases Nat.lt_or_ge i w.counts.length with h3 | h3
 · rw [List.findIdx_eq h3]
   refine ⟨?_,fun j hj=>?_⟩
   · have:=h2 i (Nat.le_refl _) h3
     rw [Zba (List.getElem?_eq_getElem h3)] at this
     exact decide_eq_true this
   · have:=h1 j hj
     rw [Zba (List.getElem?_eq_getElem (by omega))] at this
     exact decide_eq_false (by omega)
 · obtain rfl:i=w.counts.length:=by omega
   rw [List.findIdx_eq_length]
   intro x hx
   obtain ⟨j,hj,rfl⟩:=List.mem_iff_getElem.1 hx
   have:=h1 j hj
   rw [Zba (List.getElem?_eq_getElem hj)] at this
   exact decide_eq_false (by omega)
theorem Z8a (n:Nat):(Z1D n).Nodup:=by
 unfold Z1D
 have h1:∀ (ys:List Nat),ys.Nodup→(ys.flatMap (ZbR n)).Nodup:=fun ys=>by
   induction ys with
   | nil=>simp
   | cons y ys ih =>
     intro h
     rw [List.nodup_cons] at h
     rw [List.flatMap_cons]
     refine List.nodup_append.2 ⟨?_,ih h.2,?_⟩
     · unfold ZbR
       exact List.Pairwise.map _ (fun a b h e=>h (by injection e)) (List.nodup_range' (s:=y+1) (n:=n-(y+1)))
     · intro a ha b hb e
       subst e
       obtain ⟨z,hz,h2⟩:=List.mem_flatMap.1 hb
       unfold ZbR at ha h2
       obtain ⟨t1,_,rfl⟩:=List.mem_map.1 ha
       obtain ⟨t2,_,h3⟩:=List.mem_map.1 h2
       injection h3 with h3 _
       exact h.1 (h3▸hz)
 exact h1 _ List.nodup_range
theorem Z63 {n k:Nat} {s:Nat×Nat} (h:(Z1D n)[k]?=some s):((Z1D n).take k).contains s=false:=by
 have hl:=(List.getElem?_eq_some_iff.1 h).1
 rw [Bool.eq_false_iff]
 intro hc
 have hm:s∈(Z1D n).take k:=by simpa using hc
 obtain ⟨j,hj,e⟩:=List.mem_iff_getElem.1 hm
 rw [List.length_take] at hj
 rw [List.getElem_take] at e
 have:=(List.getElem_inj (h₀:=(by omega:j<(Z1D n).length)) (h₁:=hl) (Z8a n)).1 (by rw [e];exact (List.getElem?_eq_some_iff.1 h).2.symm)
 omega
structure KvP (w:Wt) (k:Nat) (s:Nat×Nat) (m:Nat) (kv:KV):Prop where
 len:∀ e∈kv,e.1.length=2
 at_:∀ f t:Nat,(kv.get [(f:Int),(t:Int)]).getD (.int .i64 0) = .int .i64 (((bif decide ((f,t)=s) then m else bif ((Z1D w.counts.length).take k).contains (f,t) then w.thr f t else 0:Nat)):Int)
theorem KvP.nil (w:Wt) (s:Nat×Nat):KvP w 0 s 0 []:=⟨by simp,fun f t=>by
 have e:(bif decide ((f,t)=s) then 0 else bif ((Z1D w.counts.length).take 0).contains (f,t) then w.thr f t else 0)=0:=by cases decide ((f,t)=s)<;>simp
 rw [e];rfl⟩
theorem KvP.start {w:Wt} {k:Nat} {s s':Nat×Nat} {m:Nat} {kv:KV} (h:KvP w k s m kv) (hm:m=bif ((Z1D w.counts.length).take k).contains s then w.thr s.1 s.2 else 0) (hs':(Z1D w.counts.length)[k]?=some s'):KvP w k s' 0 kv:=⟨h.len,fun f t=>by
 rw [h.at_ f t]
 congr 2
 by_cases h1:(f,t)=s
 · subst h1
   simp only [decide_true,cond_true]
   rw [hm]
   by_cases h2:(f,t)=s'
   · subst h2
     rw [Z63 hs'];simp
   · simp only [h2,decide_false,cond_false]
 · simp only [h1,decide_false,cond_false]
   by_cases h2:(f,t)=s'
   · simp only [h2,decide_true,cond_true]
     rw [Z63 hs'];simp
   · simp only [h2,decide_false,cond_false]⟩
theorem KvP.done {w:Wt} {k f t:Nat} {kv:KV} (h:KvP w k (f,t) (w.thr f t) kv) (hs:(Z1D w.counts.length)[k]?=some (f,t)):KvP w (k+1) (f,t) (w.thr f t) kv:=⟨h.len,fun f' t'=>by
 rw [h.at_ f' t']
 congr 2
 by_cases h1:(f',t')=(f,t)
 · simp [h1]
 · simp only [h1,decide_false,cond_false]
   rw [List.take_add_one,hs]
   congr 1
   rw [Bool.eq_iff_iff]
   simp only [Option.toList_some,List.contains_iff_mem,List.mem_append,List.mem_singleton,h1,or_false]⟩
theorem KvP.put {w:Wt} {k f t m m':Nat} {kv:KV} (h:KvP w k (f,t) m kv):KvP w k (f,t) m' (kv.put [(f:Int),(t:Int)] (.int .i64 (m':Int))):=⟨fun e he=>by
 rcases KV.put_mem he with rfl | he
 · rfl
 · exact h.len e he,fun f' t'=>by
 rw [KV.get_put]
 by_cases h1:(f',t')=(f,t)
 · injection h1 with e1 e2
   subst e1;subst e2;simp
 · have h2:decide ([(f:Int),(t:Int)]=[(f':Int),(t':Int)])=false:=decide_eq_false fun e=>by
     simp only [List.cons.injEq,and_true] at e
     exact h1 (by rw [show f=f' by omega,show t=t' by omega])
   rw [h2]
   simp only [cond_false]
   rw [h.at_ f' t']
   simp only [h1,decide_false,cond_false]⟩
theorem KvP.all {w:Wt} {s:Nat×Nat} {m:Nat} {kv:KV} (h:KvP w (Z1D w.counts.length).length s m kv) (hm:s∈Z1D w.counts.length→m=w.thr s.1 s.2):KvW w kv:=⟨h.len,fun f t h1 h2=>by
 rw [h.at_ f t,List.take_length]
 have hc:(Z1D w.counts.length).contains (f,t)=true:=by simpa using str_mem.2 ⟨h1,h2⟩
 congr 2
 by_cases e:(f,t)=s
 · subst e
   simp only [decide_true,cond_true]
   exact hm (by simpa using hc)
 · simp only [e,decide_false,cond_false,hc,cond_true]⟩
def Z33 (w:Wt) (f t j:Nat):Nat:=(w.spells.take j).foldl (ZaN w f t) 0
theorem Z65 {w:Wt} {f t j:Nat} {x:Spl} (h:w.spells[j]?=some x):Z33 w f t (j+1)=ZaN w f t (Z33 w f t j) x:=by
 unfold Z33;rw [List.take_add_one,h,List.foldl_append];rfl
theorem ZbY (w:Wt) (f t:Nat):Z33 w f t w.spells.length=w.thr f t:=by unfold Z33;rw [List.take_length];rfl
theorem Zaz {w:Wt} (hw:w.ok) (f t:Nat):∀ j,Z33 w f t j<2 ^ 6
 | 0=>by simp [Z33]
 | j+1=>by
   have ih:=Zaz hw f t j
   cases hx:w.spells[j]? with
   | none=>unfold Z33 at ih ⊢;rw [List.take_add_one,hx];simpa using ih
   | some x =>
     rw [Z65 hx]
     have h1:=(hw.spl x (List.mem_of_getElem? hx)).2.2.1
     have h2:=hw.hands
     unfold ZaN
     cases w.over f t x with
     | false=>exact ih
     | true=>exact Nat.or_lt_two_pow ih (Nat.pow_lt_pow_right (by decide) (by omega))
def Z2o (w:Wt) (k:Nat):List Int:=(w.books.take k).foldl w.bk1 (List.replicate 8 0)
theorem Zau {w:Wt} {k:Nat} {b:Bkg} (h:w.books[k]?=some b):Z2o w (k+1)=w.bk1 (Z2o w k) b:=by unfold Z2o;rw [List.take_add_one,h,List.foldl_append];rfl
theorem ZbS (w:Wt):Z2o w w.books.length=w.sums:=by unfold Z2o;rw [List.take_length];rfl
theorem Zes {w:Wt} (hw:w.ok) (k:Nat):SumOk (Z2o w k) 2000:=by
 have h:=Z58 hw k
 have hn:=hw.nb
 have h2:(w.books.take k).length≤10:=by rw [List.length_take];omega
 exact ⟨h.len,fun i=>by have:=h.bd i;show _≤na0 ((w.books.take k).foldl w.bk1 _) i∧na0 ((w.books.take k).foldl w.bk1 _) i≤_;omega⟩
theorem Zfe (v:Value) (own:Nat→Bool) (f t:Nat) (hft:f≤t) (ht:t≤8) (H:Z7) (R:Z4) :
    FnV Tryz.prog 136 [v,.agg #[.int .i64 (f:Nat),.int .i64 (t:Nat)],.agg (ZC (ZI own)).toArray] H R (.tuple #[.int .i64 ((Z3Y own f t).1:Nat),.int .i64 (Z3Y own f t).2]):=by
 refine Z9 Tryz.func136 rfl Tryz.ntmps136 rfl ?_
 refine sqt 4 rfl (bx rfl rfl rfl (fun b4=>bx rfl rfl rfl (fun b5=>pur 2 rfl (sqt 4 rfl (sp rfl (PE.fA Z1Q rfl) rfl (spL rfl rfl (lh sc3 rfl rfl) rfl (pur 2 rfl (Z0 (sqt 3 rfl (sp rfl (PE.fA Z2w rfl) rfl (spL rfl rfl (lh sc3 rfl rfl) rfl (pur 1 rfl (Z1 ?_)))))))))))))
 refine Zc (ι:={i:Nat // f≤i∧i≤t}) (fun i=>⟨[(4,.pointer (some ⟨b4,0,none⟩)),(5,.pointer (some ⟨b5,0,none⟩)),(6,.int .i64 (((List.range' f (i.1-f)).foldl (fun p i=>Z7W own t i p) (t,(-2:Int))).1:Nat)),(7,.int .i64 ((List.range' f (i.1-f)).foldl (fun p i=>Z7W own t i p) (t,(-2:Int))).2),(8,.int .i64 i.1)],(b5,cel 230 (ZC (ZI own)))::(b4,cel 226 [.int .i64 (f:Nat),.int .i64 (t:Nat)])::H,R⟩) (fun i=>t-i.1) ⟨f,Nat.le_refl _,hft⟩ ?_ (fun i=>?_)
 exact ZbT (by dsimp only;rw [Nat.sub_self];exact sbA) idH
 obtain ⟨i,hi1,hi2⟩:=i
 dsimp only at hi1 hi2 ⊢
 have hst:=Z9C (own:=own) (T:=t) hi1
 refine Z0 (sqt 4 rfl (pur 1 rfl (sp rfl (PE.fA Z1Q rfl) rfl (spL rfl rfl (lh sc3 rfl rfl) rfl (pur 1 rfl ?_)))))
 refine Z2 rfl ?_ ?_<;>intro hc0<;>try simp only [cS] at hc0
 refine Z3 (Z0 (Z1 (sqt 3 rfl (pur 1 rfl (sp rfl (PE.indexArr Z8s rfl rfl (by omega) (by omega)) rfl (spL rfl rfl (lh sc4 rfl (Z75 (i:=i) (by show 0+((i:Nat):Int).toNat*1=i;omega) (by omega))) rfl ?_))))))
 refine Z2 rfl ?_ ?_<;>intro hc1
 refine sqr 6 rfl (pur 2 rfl (sp rfl (PE.min rfl rfl) rfl (pur 3 rfl (sqr 3 rfl (pur 1 rfl (sp rfl (PE.add rfl rfl (by omega)) rfl (pur 1 rfl ?_)))))))
 exact Z0e ⟨i+1,by omega,by omega⟩ (by dsimp only;omega) (by dsimp only;rw [hst,Zh7 hc1];dsimp only;rw [ZjA];exact sbA) idH
 refine Z3 (sqr 3 rfl (pur 1 rfl (sp rfl (PE.add rfl rfl (by omega)) rfl (pur 1 rfl ?_))))
 exact Z0e ⟨i+1,by omega,by omega⟩ (by dsimp only;omega) (by dsimp only;rw [hst,Zh6 hc1];exact sbA) idH
 obtain rfl:i=t:=by omega
 refine Z8 (Za (Za (Zn (sqt 4 rfl (pur 4 rfl (Z5 ?_))))))
 exact rtB rfl rfl rfl rfl ⟨rfl,rfl,rfl⟩ drp
theorem Zkf (wt:Wt) (hw:wt.ok) (a:Option Addr) (c g:Nat) (h:Int) (hg:cal Tryz.prog g=true) (H:Z7) (R:Z4) [hR:MemRows a 3 (crows wt.counts) R] (hcm:∀ x,x∈wt.counts→∃ z:Int,FnV Tryz.prog g [.agg (crow x).toArray,.int .i64 h] H R (.int .i64 z)∧(z<0↔x.hour<h)∧(z=0↔x.hour=h)) :
    Fn Tryz.prog 215 [.slice a wt.counts.length c,.int .i64 h,.func (.func g) #[] #[]] H R (fun v H' R'=>∃ is:Bool,v = .tuple #[.int .i64 (wt.pos h:Nat),.bool is]∧(is=true→∃ x,wt.counts[wt.pos h]?=some x∧x.hour=h)∧(is=false→∀ x,wt.counts[wt.pos h]?=some x→x.hour≠h)∧H'=H∧R'=R):=by
 have hnc:=hw.nc
 refine Z9 Tryz.func215 rfl Tryz.ntmps215 rfl ?_
 refine sqt 2 rfl (pur 2 rfl (sqt 3 rfl (pur 1 rfl (sp rfl (PE.lenSl Z0p rfl) rfl (pur 1 rfl (sqt 3 rfl (pur 3 rfl (Z0 (Z1 ?_)))))))))
 refine Zc (ι:={x:Nat×Nat // x.1≤x.2∧x.2≤wt.counts.length∧(∀ k,k<x.1→(wt.cn k).hour<h)∧∀ k,x.2≤k→k<wt.counts.length→h≤(wt.cn k).hour}) (fun x=>⟨[(0,.slice a wt.counts.length c),(1,.int .i64 h),(2,.func (.func g) #[] #[]),(8,.int .i64 wt.counts.length),(9,.int .i64 x.1.1),(10,.int .i64 x.1.2)],H,R⟩) (fun x=>x.1.2-x.1.1) ⟨(0,wt.counts.length),Nat.zero_le _,Nat.le_refl _,fun k hk=>by omega,fun k h1 h2=>by dsimp only at h1;omega⟩ ?_ (fun x=>?_)
 exact Zf idH
 obtain ⟨⟨i,j⟩,hij,hj,hlo,hhi⟩:=x
 dsimp only at hij hj hlo hhi ⊢
 refine Z0 (sqt 3 rfl (pur 3 rfl ?_))
 refine Z2 rfl ?_ ?_<;>intro hc0<;>try simp only [cS] at hc0
 refine Z3 (Z1 (sqt 7 rfl (pur 2 rfl (sp rfl (PE.add rfl rfl (by omega)) rfl ?_))))
 refine sp rfl ((PE.convert us3 Zbj rfl).to (by rw [Z1X (by omega) (by omega)])) rfl ?_
 refine sp rfl (PE.shr1 rfl rfl (by omega)) rfl ?_
 refine sp rfl ((PE.convert ZjY ik3 rfl).to (by rw [Z0l (by omega) (by omega),show ((i:Int)+(j:Int)) / 2=(((i+j) / 2:Nat):Int) from by omega])) rfl ?_
 refine pur 1 rfl (sqt 8 rfl (pur 3 rfl ?_))
 obtain ⟨m,hm⟩:∃ m,m=(i+j) / 2:=⟨_,rfl⟩
 rw [← hm]
 have hm1:i≤m∧m<j:=by omega
 have hcx:wt.counts[m]?=some (wt.cn m):=Z0R (by omega)
 refine Zl (a:=a) (sz:=3) (rows:=crows wt.counts) (by intro h0;simp [crows] at h0;simp [h0] at hcx) (fun b off he=>?_)
 subst he
 obtain ⟨z,hz,hz1,hz2⟩:=hcm (wt.cn m) (List.mem_of_getElem? hcx)
 refine sp rfl (PE.indexAddr Z2t rfl rfl (by omega) (by omega)) rfl (spL rfl rfl (lfA Z0K (row:=crow (wt.cn m)) (ZS (by simpa using hcx)) rfl) rfl (pur 1 rfl ?_))
 refine Z2r rfl rfl (hg) rfl rfl (hz) ?_
 refine pur 1 rfl ?_
 refine Z2 rfl ?_ ?_<;>intro hc1<;>try simp only [cS] at hc1
 have hlt:=hz1.1 hc1
 refine sqr 3 rfl (pur 1 rfl (sp rfl (PE.add rfl rfl (by omega)) rfl (pur 1 rfl ?_)))
 exact Zb ⟨(m+1,j),by dsimp only;omega,hj,fun k hk=>by have:=hw.le (i:=k) (j:=m) (by dsimp only at hk;omega) (Z0R (by dsimp only at hk;omega)) hcx;omega,hhi⟩ idH
 have hge:¬ (wt.cn m).hour<h:=fun e=>by have:=hz1.2 e;omega
 refine sqr 2 rfl (pur 2 rfl ?_)
 exact Zb ⟨(i,m),by dsimp only;omega,by dsimp only;omega,hlo,fun k h1 h2=>by have:=hw.le (i:=m) (j:=k) h1 hcx (Z0R h2);omega⟩ idH
 obtain rfl:j=i:=by omega
 have hpos:=ZhJ hj hlo hhi
 subst hpos
 refine Z8 (Za (Za (Zn (sqt 16 rfl (pur 5 rfl ?_)))))
 refine Zv 39 rfl ?_ ?_<;>intro g39
 try simp only [cS] at g39
 have hcx:wt.counts[(wt.pos h)]?=some (wt.cn (wt.pos h)):=Z0R (by omega)
 refine Zl (a:=a) (sz:=3) (rows:=crows wt.counts) (by intro h0;simp [crows] at h0;simp [h0] at hcx) (fun b off he=>?_)
 subst he
 obtain ⟨z,hz,hz1,hz2⟩:=hcm (wt.cn (wt.pos h)) (List.mem_of_getElem? hcx)
 refine pur 3 rfl ?_
 refine spG rfl rfl rfl rfl (PE.indexAddr Z2t rfl rfl (by omega) (by omega)) rfl ?_
 refine Z1b rfl rfl rfl rfl rfl (lfA Z0K (row:=crow (wt.cn (wt.pos h))) (ZS (by simpa using hcx)) rfl) rfl (pur 1 rfl ?_)
 refine Zje rfl rfl rfl rfl rfl (hg) rfl rfl (hz) ?_
 refine pur 4 rfl (Z5 ?_)
 exact rtB rfl rfl rfl rfl ⟨decide (z=0),rfl,(fun e=>⟨_,hcx,hz2.1 (of_decide_eq_true e)⟩),(fun e x hx=>by rw [hcx] at hx;cases hx;exact fun e2=>of_decide_eq_false e (hz2.2 e2)),rfl,rfl⟩ idH
 try simp only [cS] at g39
 refine pur 11 rfl (Z5 ?_)
 exact rtB rfl rfl rfl rfl ⟨false,rfl,(fun e=>by cases e),(fun _ x hx=>by have:=(List.getElem?_eq_some_iff.1 hx).1;omega),rfl,rfl⟩ idH
theorem ZiA (x:Cnt) (h:Int) (hx:0≤x.hour∧x.hour≤1000) (hh:0≤h∧h≤1000) (H:Z7) (R:Z4) :
    FnV Tryz.prog 216 [.agg (crow x).toArray,.int .i64 h] H R (.int .i64 (x.hour-h)):=by
 refine Z9 Tryz.func216 rfl Tryz.ntmps216 rfl ?_
 refine sqt 2 rfl (bx rfl rfl rfl (fun b2=>pur 1 rfl (sqt 5 rfl (sp rfl (PE.fA Z0N rfl) rfl (spL rfl rfl (lh sc3 rfl rfl) rfl (pur 1 rfl (sp rfl (PE.sub rfl rfl (by omega)) rfl (pur 1 rfl (Z5 ?_)))))))))
 exact rtA rfl rfl rfl ⟨rfl,rfl,rfl⟩ drp
set_option maxHeartbeats 1000000 in
theorem Z4x (wt:Wt) (a1 a2 a3:Option Addr) (k1 k2 k3:Nat) (hw:wt.ok) (H:Z7) (R:Z4) [hR1:MemRows a1 3 (crows wt.counts) R] [hR2:MemRows a2 2 (bkrows wt.books) R] [hR3:MemRows a3 3 (sprows wt.spells) R] :
    Fn Tryz.prog 167 [(wt.v a1 a2 a3 k1 k2 k3)] H R (fun v H' R'=>∃ (bd m:Nat) (kv:KV),v = .pointer (some ⟨bd,0,none⟩)∧KvW wt kv∧H'=H∧R'=RowsA (some ⟨bd,0,none⟩) 15 [(wtl wt a1 a2 a3 k1 k2 k3++(Zj (wt.sums)++[.map (some m)]))]::MpF m kv::R):=by
 have hnc:=hw.nc
 have hnb:=hw.nb
 have hns:=hw.ns
 have hho:=hw.hours
 refine Z1G Tryz.func167 rfl Tryz.ntmps167 rfl ?_
 refine sqt 2 rfl (bx rfl rfl rfl (fun b1=>pur 1 rfl (sqt 6 rfl (spL rfl rfl (lhA (wtl wt a1 a2 a3 k1 k2 k3) Z1Y rfl rfl rfl) rfl ?_))))
 refine mkm rfl rfl true (fun m=>?_)
 refine sp rfl (PE.build (out:=(wtl wt a1 a2 a3 k1 k2 k3++(Zj (List.replicate 8 0)++[.map (some m)]))) ZjF Zk5 rfl (by kernel_rfl)) rfl (bx rfl rfl rfl (fun b14=>?_))
 refine Sy.heap (H':=(b14,cel 236 (wtl wt a1 a2 a3 k1 k2 k3++(Zj (Z2o wt 0)++[.map (some m)])))::(m,ZQ true [])::(b1,cel 126 (wtl wt a1 a2 a3 k1 k2 k3))::H) idH ?_
 refine alc rfl Zk2 rfl (fun b3=>?_)
 refine sto rfl rfl rfl Zjj rfl rfl rfl rfl ?_
 refine Z0 (sqt 4 rfl (sp rfl (PE.fA Z6u rfl) rfl (spL rfl rfl (lh Zej rfl rfl) rfl (sp rfl (PE.lenSl Z9V rfl) rfl (pur 1 rfl (Z1 ?_))))))
 refine Zc (ι:={k:Nat // k≤wt.books.length}) (fun k=>⟨[(1,.pointer (some ⟨b1,0,none⟩)),(3,.pointer (some ⟨b3,0,none⟩)),(16,.slice a2 wt.books.length k2),(17,.int .i64 wt.books.length),(18,.int .i64 k.1)],(b3,cel 181 [.pointer (some ⟨b14,0,none⟩)])::(b14,cel 236 (wtl wt a1 a2 a3 k1 k2 k3++(Zj (Z2o wt k.1)++[.map (some m)])))::(m,ZQ true [])::(b1,cel 126 (wtl wt a1 a2 a3 k1 k2 k3))::H,R⟩) (fun k=>wt.books.length-k.1) ⟨0,Nat.zero_le _⟩ ?_ (fun k=>?_)
 exact Zf idH
 ·
  obtain ⟨k,hk⟩:=k
  dsimp only at hk ⊢
  have hso:=Zes hw k
  refine sqt 1 rfl (pur 1 rfl (Z0 ?_))
  refine Z2 rfl ?_ ?_<;>intro hc0<;>try simp only [cS] at hc0
  obtain ⟨x,hx⟩:∃ x,wt.books[k]?=some x:=⟨_,List.getElem?_eq_getElem (by omega)⟩
  have hxb:=hw.bks x (List.mem_of_getElem? hx)
  have hst:=Zau hx
  refine Zl (a:=a2) (sz:=2) (rows:=bkrows wt.books) (by intro h0;simp [bkrows] at h0;simp [h0] at hx) (fun b off he=>?_)
  subst he
  refine Z3 (Z0 (Z1 (sqt 4 rfl (sp rfl (PE.indexAddr Zh3 rfl rfl (by omega) (by omega)) rfl (spL rfl rfl (lfA Zd1 (row:=bkrow x) (Zf5 hx) rfl) rfl (alc rfl ZaG rfl (fun b5=>?_)))))))
  refine sto rfl rfl rfl Zjk rfl rfl rfl rfl ?_
  refine sqt 10 rfl (sp rfl (PE.fA ZN rfl) rfl (spL rfl rfl (lh Z02 rfl rfl) rfl (sp rfl (PE.fA Z9N rfl) rfl (spL rfl rfl (lh sc3 rfl rfl) rfl ?_))))
  refine cl rfl Zgm rfl rfl (Zkf wt hw a1 k1 216 x.hour Zgn _ _ (fun y hy=>⟨y.hour-x.hour,ZiA y x.hour (by have:=(hw.cnt y hy).1;omega) (by omega) _ _,by omega,by omega⟩)) ?_
  rintro _ _ R1 ⟨is,rfl,his,_,rfl,hR1⟩
  obtain rfl:=hR1.symm
  clear hR1
  have hpl:wt.pos x.hour≤wt.counts.length:=ZhI _
  have hisl:is=true→wt.pos x.hour<wt.counts.length:=fun e=>by obtain ⟨y,hy,_⟩:=his e;exact (List.getElem?_eq_some_iff.1 hy).1
  refine pur 5 rfl (sqt 12 rfl (pur 3 rfl ?_))
  refine Zv 32 rfl ?_ ?_<;>intro g32
  try simp only [cS] at g32
  refine pur 2 rfl ?_
  refine Zv 34 rfl ?_ ?_<;>intro g34
  have hyes:(decide (0<wt.pos x.hour)&&decide (wt.pos x.hour<wt.counts.length))=true:=by have:=hisl g34;simp;omega
  refine pur 7 rfl ?_
  refine Z00 rfl ?_
  refine Zd [0,0,2,1,9,31,63,0,128,511,1,1025,4095,8191] (.ld 0 (tks 1 5 (.ld 6 (.tk 7 (.ld 8 (tks 9 4 (.big 13 .done))))))) Zq (by kernel_rfl) ?_
  have hyes2:=hyes
  simp only [Bool.and_eq_true,decide_eq_true_eq] at hyes2
  obtain ⟨q,hq⟩:∃ q,wt.pos x.hour=q+1:=⟨wt.pos x.hour-1,by omega⟩
  have hql:q<(Z2o wt k).length:=by rw [hso.len];omega
  have hqb:=hso.bd q
  have hst2:Z2o wt (k+1)=(Z2o wt k).set q (na0 (Z2o wt k) q+x.sacks):=by rw [hst];unfold Wt.bk1;rw [hyes,hq];rfl
  rw [hq]
  refine ld rfl rfl (lh Z2C rfl rfl) rfl (Zm 1 rfl (tk rfl (PE.sub rfl rfl (by omega)) rfl (tk rfl (PE.nilCheck rfl) rfl (tk rfl (PE.fA Z3u rfl) rfl (tk rfl (PE.indexArr Z8t rfl rfl (by omega) (by omega)) rfl (ld rfl rfl (lh sc3 rfl (ZdC (i:=q) (by show _=6+q;omega) hql)) rfl (tk rfl (PE.fA Z4L rfl) rfl (ld rfl rfl (lh sc3 rfl rfl) rfl (tk rfl (PE.add rfl rfl (by omega)) rfl (tk rfl (PE.nilCheck rfl) rfl (tk rfl (PE.fA Z3u rfl) rfl (tk rfl (PE.indexArr Z8t rfl rfl (by omega) (by omega)) rfl ?_))))))))))))
  refine Z03 (l':=(wtl wt a1 (some ⟨b,off,none⟩) a3 k1 k2 k3++(Zj ((Z2o wt k).set q (na0 (Z2o wt k) q+x.sacks))++[.map (some m)]))) rfl rfl rfl cn3 rfl rfl rfl (Zcq (i:=q) (by show _=6+q;omega) hql) (by rw [List.length_append,List.length_append,List.length_map];show _+1≤6+(_+1);omega) ?_
  refine bgT (sqr 2 rfl (sp rfl (PE.add rfl rfl (by omega)) rfl (pur 1 rfl ?_)))
  first
    | exact Ze ⟨k+1,by omega⟩ (by dsimp only;omega) (fun w h=>by dsimp only;rw [hst2];exact h.del b5)
    | exact Ze ⟨k+1,by omega⟩ (by dsimp only;omega) (fun w h=>by dsimp only;rw [show Z2o wt (k+1)=Z2o wt k from by rw [hst];unfold Wt.bk1;rw [hno];rfl];exact h.del b5)
  refine pur 1 rfl ?_
  refine spG rfl rfl rfl rfl (PE.fA ZN rfl) rfl ?_
  refine Z1b rfl rfl rfl rfl rfl (lh Z02 rfl rfl) rfl ?_
  refine spG rfl rfl rfl rfl (PE.lenSl Z0p rfl) rfl ?_
  refine pur 3 rfl ?_
  refine Z2 rfl ?_ ?_<;>intro hc1<;>try simp only [cS] at hc1
  have hyes:(decide (0<wt.pos x.hour)&&decide (wt.pos x.hour<wt.counts.length))=true:=by simp;omega
  refine Zd [0,0,2,1,9,31,63,0,128,511,1,1025,4095,8191] (.ld 0 (tks 1 5 (.ld 6 (.tk 7 (.ld 8 (tks 9 4 (.big 13 .done))))))) Zq (by kernel_rfl) ?_
  have hyes2:=hyes
  simp only [Bool.and_eq_true,decide_eq_true_eq] at hyes2
  obtain ⟨q,hq⟩:∃ q,wt.pos x.hour=q+1:=⟨wt.pos x.hour-1,by omega⟩
  have hql:q<(Z2o wt k).length:=by rw [hso.len];omega
  have hqb:=hso.bd q
  have hst2:Z2o wt (k+1)=(Z2o wt k).set q (na0 (Z2o wt k) q+x.sacks):=by rw [hst];unfold Wt.bk1;rw [hyes,hq];rfl
  rw [hq]
  refine ld rfl rfl (lh Z2C rfl rfl) rfl (Zm 1 rfl (tk rfl (PE.sub rfl rfl (by omega)) rfl (tk rfl (PE.nilCheck rfl) rfl (tk rfl (PE.fA Z3u rfl) rfl (tk rfl (PE.indexArr Z8t rfl rfl (by omega) (by omega)) rfl (ld rfl rfl (lh sc3 rfl (ZdC (i:=q) (by show _=6+q;omega) hql)) rfl (tk rfl (PE.fA Z4L rfl) rfl (ld rfl rfl (lh sc3 rfl rfl) rfl (tk rfl (PE.add rfl rfl (by omega)) rfl (tk rfl (PE.nilCheck rfl) rfl (tk rfl (PE.fA Z3u rfl) rfl (tk rfl (PE.indexArr Z8t rfl rfl (by omega) (by omega)) rfl ?_))))))))))))
  refine Z03 (l':=(wtl wt a1 (some ⟨b,off,none⟩) a3 k1 k2 k3++(Zj ((Z2o wt k).set q (na0 (Z2o wt k) q+x.sacks))++[.map (some m)]))) rfl rfl rfl cn3 rfl rfl rfl (Zcq (i:=q) (by show _=6+q;omega) hql) (by rw [List.length_append,List.length_append,List.length_map];show _+1≤6+(_+1);omega) ?_
  refine bgT (sqr 2 rfl (sp rfl (PE.add rfl rfl (by omega)) rfl (pur 1 rfl ?_)))
  first
    | exact Ze ⟨k+1,by omega⟩ (by dsimp only;omega) (fun w h=>by dsimp only;rw [hst2];exact h.del b5)
    | exact Ze ⟨k+1,by omega⟩ (by dsimp only;omega) (fun w h=>by dsimp only;rw [show Z2o wt (k+1)=Z2o wt k from by rw [hst];unfold Wt.bk1;rw [hno];rfl];exact h.del b5)
  have hno:(decide (0<wt.pos x.hour)&&decide (wt.pos x.hour<wt.counts.length))=false:=by rw [dF (show ¬ wt.pos x.hour<wt.counts.length by omega),Bool.and_false]
  refine Z3 (sqr 2 rfl (sp rfl (PE.add rfl rfl (by omega)) rfl (pur 1 rfl ?_)))
  first
    | exact Ze ⟨k+1,by omega⟩ (by dsimp only;omega) (fun w h=>by dsimp only;rw [hst2];exact h.del b5)
    | exact Ze ⟨k+1,by omega⟩ (by dsimp only;omega) (fun w h=>by dsimp only;rw [show Z2o wt (k+1)=Z2o wt k from by rw [hst];unfold Wt.bk1;rw [hno];rfl];exact h.del b5)
  try simp only [cS] at g32
  have hno:(decide (0<wt.pos x.hour)&&decide (wt.pos x.hour<wt.counts.length))=false:=by rw [dF (show ¬ 0<wt.pos x.hour by omega)];rfl
  refine pur 2 rfl ?_
  repeat refine spU rfl rfl rfl rfl rfl rfl rfl ?_
  refine pur 2 rfl ?_
  refine ZD rfl ?_
  refine Z3 (sqr 2 rfl (sp rfl (PE.add rfl rfl (by omega)) rfl (pur 1 rfl ?_)))
  first
    | exact Ze ⟨k+1,by omega⟩ (by dsimp only;omega) (fun w h=>by dsimp only;rw [hst2];exact h.del b5)
    | exact Ze ⟨k+1,by omega⟩ (by dsimp only;omega) (fun w h=>by dsimp only;rw [show Z2o wt (k+1)=Z2o wt k from by rw [hst];unfold Wt.bk1;rw [hno];rfl];exact h.del b5)
  ·
   obtain rfl:k=wt.books.length:=by omega
   rw [ZbS]
   refine Z8 (Za (Za (Zn (Z0 (sqt 5 rfl (spL rfl rfl (lh Z2C rfl rfl) rfl (sp rfl (PE.nilCheck rfl) rfl (sp rfl (PE.fA Z0D rfl) rfl (spL rfl rfl (lhA (wtl wt a1 a2 a3 k1 k2 k3) Z1Y rfl rfl rfl) rfl ?_)))))))))
   refine cl rfl Zcj rfl rfl (Zfm wt a1 a2 a3 k1 k2 k3 _ _) ?_
   rintro _ _ R1 ⟨qw,rfl,rfl,hR1⟩
   subst hR1
   refine Z1 ?_
   refine Z0o rfl Zcl (fun c0 bl0 bd0 hcp0 hca0 hcb0 hck0=>?_)
   refine ⟨fun st pend T R'=>st = .ready∧pend=none∧∃ kv:KV,KvW wt kv∧T=(bd0,.deferred (some []))::(b3,cel 181 [.pointer (some ⟨b14,0,none⟩)])::(b14,cel 236 (wtl wt a1 a2 a3 k1 k2 k3++(Zj (wt.sums)++[.map (some m)])))::(m,ZQ true kv)::(b1,cel 126 (wtl wt a1 a2 a3 k1 k2 k3))::H∧R'=RowsA (some ⟨qw,0,none⟩) 6 [(wtl wt a1 a2 a3 k1 k2 k3)]::R,
     Fn.mono (Zcb wt a1 a2 a3 k1 k2 k3 hw qw bl0 (fun k H' R'=>∃ (kv:KV) (s:Nat×Nat) (m0:Nat),KvP wt k s m0 kv∧(s∈(Z1D wt.counts.length).take k→m0=wt.thr s.1 s.2)∧(s∉(Z1D wt.counts.length).take k→m0=0)∧H'=(bl0,lob c0 .ready none)::(bd0,.deferred (some []))::(b3,cel 181 [.pointer (some ⟨b14,0,none⟩)])::(b14,cel 236 (wtl wt a1 a2 a3 k1 k2 k3++(Zj (wt.sums)++[.map (some m)])))::(m,ZQ true kv)::(b1,cel 126 (wtl wt a1 a2 a3 k1 k2 k3))::H∧R'=RowsA (some ⟨qw,0,none⟩) 6 [(wtl wt a1 a2 a3 k1 k2 k3)]::R) (fun _ _=>False)
       (fun k H' R' h=>by obtain ⟨kv,s,m0,_,_,_,rfl,rfl⟩:=h;simp)
       (fun k f t H' R' hft htn hk hI=>?_) _ _ ⟨[],(0,0),0,KvP.nil _ _,by simp,fun _=>rfl,rfl,rfl⟩) (fun v H' R' h=>?_),?_⟩
   rotate_left
   · rcases h with ⟨kv,s,m0,hkp,hm1,hm2,rfl,rfl⟩ | h
     · exact ⟨.ready,none,_,by simp,.refl _,rfl,rfl,kv,hkp.all (fun hs=>hm1 (by rw [List.take_length];exact hs)),rfl,rfl⟩
     · exact h.elim
   rotate_left
   obtain ⟨kv,s,m0,hkp0,hm1,hm2,rfl,rfl⟩:=hI
   have hkp:KvP wt k (f,t) (Z33 wt f t 0) kv:=hkp0.start (by
     by_cases hs:s∈(Z1D wt.counts.length).take k
     · rw [hm1 hs,show ((Z1D wt.counts.length).take k).contains s=true by simpa using hs];rfl
     · rw [hm2 hs,show ((Z1D wt.counts.length).take k).contains s=false by simpa using hs];rfl) hk
   clear hkp0 hm1 hm2
   refine Zc1 hcp0 hca0 hcb0 hck0 rfl ?_
   refine sqr 2 rfl (alc rfl Z2T rfl (fun b8=>?_))
   refine Z03 (l':=[.int .i64 (f:Nat),.int .i64 (t:Nat)]) rfl rfl rfl Z5w rfl rfl rfl rfl (nl rfl) ?_
   refine ZA ?_
   refine Z1 (sqt 4 rfl (sp rfl (PE.fA Z3s rfl) rfl (spL rfl rfl (lh Zao rfl rfl) rfl (sp rfl (PE.lenSl Z9W rfl) rfl (pur 1 rfl (Z1 ?_))))))
   refine Zc (ι:={x:Nat×KV // x.1≤wt.spells.length∧KvP wt k (f,t) (Z33 wt f t x.1) x.2}) (fun x=>⟨[(1,.pointer (some ⟨b1,0,none⟩)),(3,.pointer (some ⟨b3,0,none⟩)),(8,.pointer (some ⟨b8,0,none⟩)),(63,.slice a3 wt.spells.length k3),(64,.int .i64 wt.spells.length),(65,.int .i64 x.1.1)],(b8,cel 226 [.int .i64 (f:Nat),.int .i64 (t:Nat)])::(bl0,lob c0 .busy none)::(bd0,.deferred (some []))::(b3,cel 181 [.pointer (some ⟨b14,0,none⟩)])::(b14,cel 236 (wtl wt a1 a2 a3 k1 k2 k3++(Zj (wt.sums)++[.map (some m)])))::(m,ZQ true x.1.2)::(b1,cel 126 (wtl wt a1 a2 a3 k1 k2 k3))::H,RowsA (some ⟨qw,0,none⟩) 6 [(wtl wt a1 a2 a3 k1 k2 k3)]::R⟩) (fun x=>wt.spells.length-x.1.1) ⟨(0,kv),Nat.zero_le _,hkp⟩ ?_ (fun x=>?_)
   exact Zf idH
   obtain ⟨⟨j,kv1⟩,hj,hkp1⟩:=x
   dsimp only at hj hkp1 ⊢
   refine sqt 1 rfl (pur 1 rfl (Z0 ?_))
   refine Z2 rfl ?_ ?_<;>intro hc2<;>try simp only [cS] at hc2
   obtain ⟨x,hx⟩:∃ x,wt.spells[j]?=some x:=⟨_,List.getElem?_eq_getElem (by omega)⟩
   have hxb:=hw.spl x (List.mem_of_getElem? hx)
   have hst:=Z65 (f:=f) (t:=t) hx
   have htl:=Zaz hw f t j
   have hcf:wt.counts[f]?=some (wt.cn f):=Z0R (by omega)
   have hct:wt.counts[t]?=some (wt.cn t):=Z0R (by omega)
   refine Zl (a:=a3) (sz:=3) (rows:=sprows wt.spells) (by intro h0;simp [sprows] at h0;simp [h0] at hx) (fun b off he=>?_)
   subst he
   refine Zl (a:=a1) (sz:=3) (rows:=crows wt.counts) (by intro h0;simp [crows] at h0;simp [h0] at hcf) (fun bf of he=>?_)
   subst he
   refine Z3 (Z0 (Z1 (sqt 4 rfl (sp rfl (PE.indexAddr Zh4 rfl rfl (by omega) (by omega)) rfl (spL rfl rfl (lfA Zd2 (row:=sprow x) (ZhV hx) rfl) rfl (alc rfl Z8h rfl (fun b10=>?_)))))))
   refine sto rfl rfl rfl Zjl rfl rfl rfl rfl ?_
   refine Z0 ?_
   refine Zd [0,1,0,4,0,16,60,124,252,511,1023,2047,4095,2047,10239,2047,34815,124927,255999,518143,1048575,2097151] (.tk 0 (.ld 1 (.tk 2 (.ld 3 (.tk 4 (.ld 5 (.tk 6 (.tk 7 (.ld 8 (tks 9 3 (.ld 12 (.tk 13 (.ld 14 (.tk 15 (.ld 16 (.tk 17 (.tk 18 (.ld 19 (.tk 20 (.tk 21 .done)))))))))))))))))))) Zq (by kernel_rfl) ?_
   refine tk rfl (PE.fA Z6y rfl) rfl (ld rfl rfl (lh sc3 rfl rfl) rfl (tk rfl (PE.fA ZN rfl) rfl (ld rfl rfl (lh Z02 rfl rfl) rfl (tk rfl (PE.fA Z1Q rfl) rfl (ld rfl rfl (lh sc3 rfl rfl) rfl (tk rfl (PE.indexAddr Z2t rfl rfl (by omega) (by omega)) rfl (tk rfl (PE.fA Z0N rfl) rfl (ld rfl rfl (lf (x:=.int .i64 (wt.cn t).hour) sc3 (ZS hct) rfl) rfl (Zm 2 rfl ?_)))))))))
   refine Zv 79 rfl ?_ ?_<;>intro g79
   try simp only [cS] at g79
   refine tkG rfl rfl rfl rfl (PE.fA Z6z rfl) rfl ?_
   refine ldG rfl rfl rfl rfl rfl (lh sc3 rfl rfl) rfl ?_
   refine tkG rfl rfl rfl rfl (PE.fA ZN rfl) rfl ?_
   refine ldG rfl rfl rfl rfl rfl (lh Z02 rfl rfl) rfl ?_
   refine tkG rfl rfl rfl rfl (PE.fA Z2w rfl) rfl ?_
   refine ldG rfl rfl rfl rfl rfl (lh sc3 rfl rfl) rfl ?_
   refine tkG rfl rfl rfl rfl (PE.indexAddr Z2t rfl rfl (by omega) (by omega)) rfl ?_
   refine tkG rfl rfl rfl rfl (PE.fA Z0N rfl) rfl ?_
   refine ldG rfl rfl rfl rfl rfl (lf (x:=.int .i64 (wt.cn f).hour) sc3 (ZS hcf) rfl) rfl (Zm 2 rfl ?_)
   refine Z2 rfl ?_ ?_<;>intro hc3<;>try simp only [cS] at hc3
   have hyes:wt.over f t x=true:=by unfold Wt.over;rw [dT (by omega),dT (by omega)];rfl
   refine Zd [0,1,3,7,0,31,0,64,192,511,479,1503,4095] (.ld 0 (.tk 1 (.tk 2 (.ld 3 (.ld 4 (.ld 5 (.tk 6 (.ld 7 (.tk 8 (.tk 9 (.big 10 (.tk 11 (.big 12 .done))))))))))))) Zq (by kernel_rfl) ?_
   obtain ⟨hn,hhn⟩:∃ hn:Nat,x.hand=hn:=⟨x.hand.toNat,by omega⟩
   have hha:=hw.hands
   have hpw:(2:Nat) ^ hn<2 ^ 6:=Nat.pow_lt_pow_right (by decide) (by omega)
   have hor:=Nat.or_lt_two_pow htl hpw
   have hst2:Z33 wt f t (j+1)=Z33 wt f t j|||1*2 ^ hn:=by rw [hst];unfold ZaN;rw [hyes,hhn,Nat.one_mul];rfl
   have hgt:=hkp1.at_ f t
   simp only [decide_true,cond_true] at hgt
   have hkp2:=hkp1.put (m':=Z33 wt f t j)
   have hgt2:=hkp2.at_ f t
   simp only [decide_true,cond_true] at hgt2
   refine ld rfl rfl (lh Z2C rfl rfl) rfl (tk rfl (PE.nilCheck rfl) rfl (tk rfl (PE.fA Z4N rfl) rfl (ld rfl rfl (lh ZbL rfl (Z7e (by rw [(Z1W hw).len];rfl))) rfl (ld rfl rfl (lhA [_,_] Z0Y rfl rfl rfl) rfl ?_))))
   refine ldK rfl rfl rfl (by first | exact Z0n (b:=true) kv1 [(f:Int),(t:Int)] Z2J (KeyT.of Z26 Z2L) (Z0q zv3) rfl hkp1.len hgt | exact Z0n (b:=true) (kv1.put [(f:Int),(t:Int)] (.int .i64 (Z33 wt f t j:Nat))) [(f:Int),(t:Int)] Z2J (KeyT.of Z26 Z2L) (Z0q zv3) rfl hkp2.len hgt2) rfl ?_
   refine tk rfl (PE.fA Z9O rfl) rfl (ld rfl rfl (lh (v:=.int .i64 (hn:Nat)) sc3 rfl (by show some (Value.int .i64 x.hand)=_;rw [hhn])) rfl (tk rfl (PE.shlN (m:=1) (n:=hn) rfl rfl rfl (by omega) (by omega)) rfl (tk rfl (PE.orN (m:=Z33 wt f t j) (n:=1*2 ^ hn) rfl rfl (by omega) (by omega)) rfl ?_)))
   refine mpE kv1 [(f:Int),(t:Int)] (v0:=.int .i64 (Z33 wt f t j:Nat)) rfl Z2J (KeyT.of Z26 Z2L) (Z0q zv3) rfl rfl rfl hkp1.len hgt rfl (fun j9 hj9=>?_)
   refine bg (fun w hs=>⟨trivial,(by first | exact (Z0n (b:=true) kv1 [(f:Int),(t:Int)] Z2J (KeyT.of Z26 Z2L) (Z0q zv3) rfl hkp1.len hgt) w hs | exact (Z0n (b:=true) (kv1.put [(f:Int),(t:Int)] (.int .i64 (Z33 wt f t j:Nat))) [(f:Int),(t:Int)] Z2J (KeyT.of Z26 Z2L) (Z0q zv3) rfl hkp2.len hgt2) w hs),trivial,trivial,trivial,trivial⟩) ?_
   refine Zm 1 rfl ?_
   refine mpT _ [(f:Int),(t:Int)] (v:=.int .i64 ((Z33 wt f t j|||1*2 ^ hn:Nat):Int)) rfl rfl rfl rfl hj9 ?_
   refine bgT (sqr 2 rfl (sp rfl (PE.add rfl rfl (by omega)) rfl (pur 1 rfl ?_)))
   first
     | exact Ze ⟨(j+1,_),by dsimp only;omega,by dsimp only;rw [hst2];exact hkp1.put.put⟩ (by dsimp only;omega) (fun w h=>h.del b10)
     | exact Ze ⟨(j+1,kv1),by dsimp only;omega,by dsimp only;rw [show Z33 wt f t (j+1)=Z33 wt f t j from by rw [hst];unfold ZaN;rw [hno];rfl];exact hkp1⟩ (by dsimp only;omega) (fun w h=>h.del b10)
   have hno:wt.over f t x=false:=by unfold Wt.over;rw [dF (show ¬ (wt.cn f).hour<x.to by omega),Bool.and_false]
   refine Z3 (sqr 2 rfl (sp rfl (PE.add rfl rfl (by omega)) rfl (pur 1 rfl ?_)))
   first
     | exact Ze ⟨(j+1,_),by dsimp only;omega,by dsimp only;rw [hst2];exact hkp1.put.put⟩ (by dsimp only;omega) (fun w h=>h.del b10)
     | exact Ze ⟨(j+1,kv1),by dsimp only;omega,by dsimp only;rw [show Z33 wt f t (j+1)=Z33 wt f t j from by rw [hst];unfold ZaN;rw [hno];rfl];exact hkp1⟩ (by dsimp only;omega) (fun w h=>h.del b10)
   try simp only [cS] at g79
   have hno:wt.over f t x=false:=by unfold Wt.over;rw [dF (by omega)];rfl
   refine Zm 1 rfl ?_
   refine ldN rfl rfl rfl rfl rfl rfl rfl rfl ?_
   refine Zm 1 rfl ?_
   refine ldN rfl rfl rfl rfl rfl rfl rfl rfl ?_
   refine Zm 1 rfl ?_
   refine ldN rfl rfl rfl rfl rfl rfl rfl rfl ?_
   refine Zm 2 rfl ?_
   refine ldN rfl rfl rfl rfl rfl rfl rfl rfl ?_
   refine Zm 2 rfl ?_
   refine ZD rfl ?_
   refine Z3 (sqr 2 rfl (sp rfl (PE.add rfl rfl (by omega)) rfl (pur 1 rfl ?_)))
   first
     | exact Ze ⟨(j+1,_),by dsimp only;omega,by dsimp only;rw [hst2];exact hkp1.put.put⟩ (by dsimp only;omega) (fun w h=>h.del b10)
     | exact Ze ⟨(j+1,kv1),by dsimp only;omega,by dsimp only;rw [show Z33 wt f t (j+1)=Z33 wt f t j from by rw [hst];unfold ZaN;rw [hno];rfl];exact hkp1⟩ (by dsimp only;omega) (fun w h=>h.del b10)
   obtain rfl:j=wt.spells.length:=by omega
   rw [ZbY] at hkp1
   refine Z8 (Za (Za (Zn ?_)))
   exact Zi (.inl ⟨rfl,kv1,(f,t),wt.thr f t,hkp1.done hk,fun _=>rfl,(fun hn=>absurd (by rw [List.take_add_one,hk];simp) hn),rfl,rfl⟩) (fun w h=>h.del b8)
   rintro _ _ _ _ ⟨rfl,rfl,kv,hkv,rfl,rfl⟩
   refine Z40 ?_
   refine sqt 2 rfl (spL rfl rfl (lh Z2C rfl rfl) rfl (pur 1 rfl (Z5 ?_)))
   exact ZF [bd0] idH rfl (.cons (RV.tmp rfl) .nil) rfl ⟨b14,m,kv,rfl,hkv,rfl,rfl⟩ (fun w h=>St.rows (b:=b14) (e:=236) (sz:=15) (rows:=[(wtl wt a1 a2 a3 k1 k2 k3++(Zj (wt.sums)++[.map (some m)]))]) (rest:=[]) (by rw [show ([(wtl wt a1 a2 a3 k1 k2 k3++(Zj (wt.sums)++[.map (some m)]))]:List (List Value)).flatten++[]=(wtl wt a1 a2 a3 k1 k2 k3++(Zj (wt.sums)++[.map (some m)])) from by simp];exact St.pull b14 (St.freeze (St.pull m (((h.del b3).del b1).ftail)))) (by simp [wtl,(Z1W hw).len]))
theorem ZfC:cal Tryz.prog 132=true:=by kernel_rfl
theorem ZfD:cal Tryz.prog 133=true:=by kernel_rfl
theorem Z9i:cal Tryz.prog 137=true:=by kernel_rfl
theorem ZfS:cal Tryz.prog 166=true:=by kernel_rfl
theorem ZfT:cal Tryz.prog 167=true:=by kernel_rfl
theorem Z8r {α:Type} {l:List α} {p:α→Bool} (h:l.any p=false) {x:α} (hx:x∈l):p x=false:=by
 rw [List.any_eq_false] at h
 simpa using h x hx
theorem Ze2 {w:Wt} (hc:w.clash=false) {f t:Nat} (h:f<t) (ht:t<w.counts.length):(w.cn t).lo≤(w.cn f).hi+w.bk f t∧(0<w.gap f t→w.thr f t≠0):=by
 have h1:=Z8r hc (str_mem.2 ⟨h,ht⟩)
 simp only [Wt.bad,Bool.or_eq_false_iff,Bool.and_eq_false_iff,decide_eq_false_iff_not] at h1
 exact ⟨by omega,fun h2=>by rcases h1.2 with h3 | h3;exact absurd h2 h3;exact h3⟩
theorem Z23 (wt:Wt) (a1 a2 a3:Option Addr) (k1 k2 k3:Nat) (hw:wt.ok) (H:Z7) (R:Z4) [hR1:MemRows a1 3 (crows wt.counts) R] [hR2:MemRows a2 2 (bkrows wt.books) R] [hR3:MemRows a3 3 (sprows wt.spells) R] :
    Fn Tryz.prog 132 [(wt.v a1 a2 a3 k1 k2 k3)] H R (fun v H' R'=>∃ (bd m:Nat) (kv:KV),v = .tuple #[.pointer (some ⟨bd,0,none⟩),.int .i64 0]∧KvW wt kv∧H'=H∧R'=RowsA (some ⟨bd,0,none⟩) 15 [(wtl wt a1 a2 a3 k1 k2 k3++(Zj (wt.sums)++[.map (some m)]))]::MpF m kv::R):=by
 refine Z9 Tryz.func132 rfl Tryz.ntmps132 rfl ?_
 refine sqt 3 rfl (bx rfl rfl rfl (fun b1=>pur 2 rfl (Z0 (sqt 3 rfl (spL rfl rfl (lhA (wtl wt a1 a2 a3 k1 k2 k3) Z1Y rfl rfl rfl) rfl ?_)))))
 refine clV rfl ZfS rfl rfl (Z0M wt a1 a2 a3 k1 k2 k3 hw _ _) ?_
 refine pur 1 rfl (sqt 2 rfl (pur 2 rfl ?_))
 refine Z2 rfl ?_ ?_<;>intro hc0
 exact absurd hc0 (by simp)
 refine Z3 (sqt 4 rfl (spL rfl rfl (lhA (wtl wt a1 a2 a3 k1 k2 k3) Z1Y rfl rfl rfl) rfl ?_))
 refine cl rfl ZfT rfl rfl (Z4x wt a1 a2 a3 k1 k2 k3 hw _ _) ?_
 rintro _ _ R1 ⟨bd,m,kv,rfl,hkv,rfl,hR1⟩
 subst hR1
 refine pur 2 rfl (Z5 ?_)
 exact rtB rfl rfl rfl rfl ⟨bd,m,kv,rfl,hkv,rfl,rfl⟩ (fun w h=>h.del b1)
theorem Z8I (wt:Wt) (a1 a2 a3:Option Addr) (k1 k2 k3:Nat) (hw:wt.ok) (bd m:Nat) (kv:KV) (hkv:KvW wt kv) (hcl:wt.clash=false) (H:Z7) (R:Z4) [hD:MemRows (some ⟨bd,0,none⟩) 15 [(wtl wt a1 a2 a3 k1 k2 k3++(Zj (wt.sums)++[.map (some m)]))] R] [hR1:MemRows a1 3 (crows wt.counts) R] [hK:MemF (MpF m kv) R] :
    FnV Tryz.prog 133 [.pointer (some ⟨bd,0,none⟩)] H R (.tuple #[.agg #[.int .i64 0,.int .i64 0],.bool false]):=by
 have hnc:=hw.nc
 refine Z9 Tryz.func133 rfl Tryz.ntmps133 rfl ?_
 refine sqt 2 rfl (alc rfl Z2T rfl (fun b2=>pur 1 rfl (ZbV (sqt 1 rfl (alc rfl Z2T rfl (fun b4=>sqt 1 rfl (pur 1 rfl (Z0 (ZbU (Z0 (sqt 7 rfl ?_)))))))))))
 refine Zl (a:=a1) (sz:=3) (rows:=crows wt.counts) (by intro h0;have h9:=congrArg List.length h0;rw [Z79] at h9;have h8:wt.counts.length=0:=h9;omega) (fun bf of he=>?_)
 subst he
 refine pur 1 rfl (sp rfl (PE.nilCheck rfl) rfl (sp rfl (PE.fA Z0D rfl) rfl (sp rfl (PE.fA ZN rfl) rfl (spL rfl rfl (lfB (sz:=15) Z02 rfl) rfl (sp rfl (PE.lenSl Z0p rfl) rfl (pur 1 rfl (Z1 ?_)))))))
 refine Zc (ι:={f:Nat // f≤wt.counts.length}) (fun f=>⟨[(0,.pointer (some ⟨bd,0,none⟩)),(2,.pointer (some ⟨b2,0,none⟩)),(4,.pointer (some ⟨b4,0,none⟩)),(5,.bool false),(14,.slice (some ⟨bf,of,none⟩) wt.counts.length k1),(15,.int .i64 wt.counts.length),(16,.int .i64 f.1)],(b4,cel 226 [.int .i64 0,.int .i64 0])::(b2,cel 226 [.int .i64 0,.int .i64 0])::H,R⟩) (fun f=>wt.counts.length-f.1) ⟨0,Nat.zero_le _⟩ ?_ (fun f=>?_)
 exact Zf idH
 obtain ⟨f,hf⟩:=f
 dsimp only at hf ⊢
 refine sqt 1 rfl (pur 1 rfl (Z0 ?_))
 refine Z2 rfl ?_ ?_<;>intro hc0
 try simp only [cS] at hc0
 have hcf:wt.counts[f]?=some (wt.cn f):=Z0R (by omega)
 refine Z3 (Z0 (Z1 (sqt 6 rfl (pur 1 rfl (sp rfl (PE.indexAddr Z2t rfl rfl (by omega) (by omega)) rfl (spL rfl rfl (lfA Z0K (row:=crow (wt.cn f)) (ZS hcf) rfl) rfl (alc rfl Z3P rfl (fun b7=>pur 1 rfl ?_))))))))
 refine sto rfl rfl rfl Z9s rfl rfl rfl rfl ?_
 refine sqt 3 rfl (pur 1 rfl (sp rfl (PE.add rfl rfl (by omega)) rfl (pur 1 rfl (Z1 ?_))))
 refine Zc (ι:={t:Nat // f+1≤t∧t≤wt.counts.length}) (fun t=>⟨[(0,.pointer (some ⟨bd,0,none⟩)),(2,.pointer (some ⟨b2,0,none⟩)),(4,.pointer (some ⟨b4,0,none⟩)),(5,.bool false),(14,.slice (some ⟨bf,of,none⟩) wt.counts.length k1),(15,.int .i64 wt.counts.length),(16,.int .i64 f),(6,.int .i64 f),(7,.pointer (some ⟨b7,0,none⟩)),(8,.int .i64 t.1)],(b7,cel 188 (crow (wt.cn f)))::(b4,cel 226 [.int .i64 0,.int .i64 0])::(b2,cel 226 [.int .i64 0,.int .i64 0])::H,R⟩) (fun t=>wt.counts.length-t.1) ⟨f+1,Nat.le_refl _,by omega⟩ ?_ (fun t=>?_)
 exact Zf idH
 obtain ⟨t,ht1,ht2⟩:=t
 dsimp only at ht1 ht2 ⊢
 refine Z0 (sqt 8 rfl (pur 2 rfl (sp rfl (PE.nilCheck rfl) rfl (sp rfl (PE.fA Z0D rfl) rfl (sp rfl (PE.fA ZN rfl) rfl (spL rfl rfl (lfB (sz:=15) Z02 rfl) rfl (sp rfl (PE.lenSl Z0p rfl) rfl (pur 1 rfl ?_))))))))
 refine Z2 rfl ?_ ?_<;>intro hc1
 try simp only [cS] at hc1
 have hct:wt.counts[t]?=some (wt.cn t):=Z0R (by omega)
 obtain ⟨hnb1,hnb2⟩:=Ze2 hcl (f:=f) (t:=t) (by omega) (by omega)
 have hkw:=hkv.at_ f t (by omega) (by omega)
 have hbd:=ZaW hw (f:=f) (t:=t) (by omega) (by omega)
 have h2:=Z7R hw (i:=f) (by omega)
 have h3:=Z7R hw (i:=t) (by omega)
 refine Z3 (Z0 (Z1 (sqt 5 rfl (pur 2 rfl (sp rfl (PE.build (out:=[_,_]) Zby Z2T rfl rfl) rfl (alc rfl Z2T rfl (fun b9=>?_)))))))
 refine sto rfl rfl rfl Z5w rfl rfl rfl rfl ?_
 refine Z0 ?_
 refine Zd [0,1,3,7,15,0,63,127,255,511,0,1024,3072,0,0,24576,64512,131071,262143,524287,524287,2097151,4194303,8388607,16777215,33554431,67108863,134217727,16777215,536870911,1073741823,2147483647,4294967295] (tks 0 4 (.ld 4 (tks 5 4 (.ld 9 (.tk 10 (.tk 11 (.ld 12 (.tk 13 (.ld 14 (.big 15 (tks 16 4 (.ld 20 (.big 21 (tks 22 5 (.ld 27 (.ld 28 (.ld 29 (tks 30 3 .done)))))))))))))))))) Zq (by kernel_rfl) ?_
 refine Zm 1 rfl (tk rfl (PE.nilCheck rfl) rfl (tk rfl (PE.fA Z0D rfl) rfl (tk rfl (PE.fA ZN rfl) rfl (ld rfl rfl (lfB (sz:=15) Z02 rfl) rfl (Zm 1 rfl (tk rfl (PE.indexAddr Z2t rfl rfl (by omega) (by omega)) rfl (tk rfl (PE.fA Z1p rfl) rfl (tk rfl (PE.fA Z28 rfl) rfl (ld rfl rfl (lf (j:=1) (x:=.int .i64 (wt.cn t).lo) sc3 (ZS hct) rfl) rfl (tk rfl (PE.fA Z1p rfl) rfl (tk rfl (PE.fA Z29 rfl) rfl (ld rfl rfl (lh sc3 rfl rfl) rfl (Zm 1 rfl (ld rfl rfl (lhA [_,_] Z0Y rfl rfl rfl) rfl ?_))))))))))))))
 refine clV rfl Zck rfl rfl (Z8G wt (some ⟨bf,of,none⟩) a2 a3 k1 k2 k3 hw bd m f t (by omega) (by omega) _ _) ?_
 refine bg (fun w hs=>⟨trivial,(lh sc3 rfl rfl) w hs,(lf (j:=1) (x:=.int .i64 (wt.cn t).lo) sc3 (ZS hct) rfl) w hs,(lfB (sz:=15) Z02 rfl) w hs,trivial⟩) ?_
 refine tk rfl (PE.add rfl rfl (by omega)) rfl (Zm 2 rfl ?_)
 refine Zv 54 rfl ?_ ?_<;>intro g54
 exact absurd g54 (by simp;omega)
 refine Zm 1 rfl (ldG rfl rfl rfl rfl rfl (lhA [_,_] Z0Y rfl rfl rfl) rfl ?_)
 refine Z4A rfl rfl rfl rfl Z9i rfl rfl (Zdf wt (some ⟨bf,of,none⟩) a2 a3 k1 k2 k3 hw bd m f t (by omega) (by omega) _ _) ?_
 refine bgT (Zm 2 rfl ?_)
 refine Zv 59 rfl ?_ ?_<;>intro g59
 try simp only [cS] at g59
 have hnz:=hnb2 g59
 refine Zm 1 rfl ?_
 refine tkG rfl rfl rfl rfl (PE.nilCheck rfl) rfl ?_
 refine tkG rfl rfl rfl rfl (PE.fA Z4N rfl) rfl ?_
 refine ldG rfl rfl rfl rfl rfl (lfB (sz:=15) ZbL (Z7e (by rw [(Z1W hw).len];rfl))) rfl (ldG rfl rfl rfl rfl rfl (lhA [_,_] Z0Y rfl rfl rfl) rfl ?_)
 refine Zjy rfl rfl rfl rfl rfl rfl (Z4S (b:=true) kv [((f:Nat):Int),((t:Nat):Int)] Z2J (KeyT.of Z26 Z2L) (Z0q zv3) rfl hkv.len (fun w hs=>hs.now hK.mem) hkw) rfl ?_
 refine Zm 3 rfl ?_
 refine Z2 rfl ?_ ?_<;>intro hc2
 first | (exfalso;revert hc2;simp;done) | (exfalso;revert hc2;simp [hnz])
 refine Z3 (sqr 3 rfl (pur 1 rfl (sp rfl (PE.add rfl rfl (by omega)) rfl (pur 1 rfl ?_))))
 exact Zb ⟨t+1,by omega,by omega⟩ (fun w h=>h.del b9)
 refine Zm 3 rfl ?_
 repeat refine ldN rfl rfl rfl rfl rfl rfl rfl rfl ?_
 refine Zm 3 rfl ?_
 refine ZD rfl ?_
 refine Z3 (sqr 3 rfl (pur 1 rfl (sp rfl (PE.add rfl rfl (by omega)) rfl (pur 1 rfl ?_))))
 exact Zb ⟨t+1,by omega,by omega⟩ (fun w h=>h.del b9)
 refine Z8 (Za (Za (Zn (sqr 2 rfl (sp rfl (PE.add rfl rfl (by omega)) rfl (pur 1 rfl ?_))))))
 exact Zb ⟨f+1,by omega⟩ (fun w h=>h.del b7)
 refine Z8 (Za (Za (Zn (sqt 4 rfl (spL rfl rfl (lhA [_,_] Z0Y rfl rfl rfl) rfl (pur 1 rfl ?_))))))
 refine sto rfl rfl rfl Z5w rfl rfl rfl rfl ?_
 refine pur 1 rfl (Z5 ?_)
 exact Zk (vs:=[_,_]) rfl (.cons (RV.cell rfl (lhA [_,_] Z0Y rfl rfl rfl)) (.cons (RV.tmp rfl) .nil)) rfl ⟨rfl,rfl,rfl⟩ (fun w h=>(h.del b4).del b2)
theorem Z5s (wt:Wt) (a1 a2 a3:Option Addr) (k1 k2 k3:Nat) (hw:wt.ok) (hcl:wt.clash=false) (H:Z7) (R:Z4) [hR1:MemRows a1 3 (crows wt.counts) R] [hR2:MemRows a2 2 (bkrows wt.books) R] [hR3:MemRows a3 3 (sprows wt.spells) R] :
    Fn Tryz.prog 92 [(wt.v a1 a2 a3 k1 k2 k3),.bool false] H R (fun v H' R'=>∃ (bd m:Nat) (kv:KV),v = .tuple #[.pointer (some ⟨bd,0,none⟩),.int .i64 0]∧KvW wt kv∧H'=H∧R'=RowsA (some ⟨bd,0,none⟩) 15 [(wtl wt a1 a2 a3 k1 k2 k3++(Zj (wt.sums)++[.map (some m)]))]::MpF m kv::R):=by
 refine Z9 Tryz.func92 rfl Tryz.ntmps92 rfl ?_
 refine sqt 3 rfl (bx rfl rfl rfl (fun b2=>pur 2 rfl (sqt 7 rfl (spL rfl rfl (lhA (wtl wt a1 a2 a3 k1 k2 k3) Z1Y rfl rfl rfl) rfl ?_))))
 refine cl rfl ZfC rfl rfl (Z23 wt a1 a2 a3 k1 k2 k3 hw _ _) ?_
 rintro _ _ R1 ⟨bd,m,kv,rfl,hkv,rfl,hR1⟩
 subst hR1
 refine pur 5 rfl (Z0 (Z1 (sqt 3 rfl (pur 3 rfl ?_))))
 refine Z2 rfl ?_ ?_<;>intro hc0
 exact absurd hc0 (by simp)
 refine sqt 2 rfl (pur 2 rfl ?_)
 refine Z2 rfl ?_ ?_<;>intro hc1
 exact absurd hc1 (by simp)
 refine Z3 (Z0 (sqt 8 rfl (pur 1 rfl ?_)))
 refine clV rfl ZfD rfl rfl (Z8I wt a1 a2 a3 k1 k2 k3 hw bd m kv hkv hcl _ _) ?_
 refine pur 3 rfl (alc rfl Z2T rfl (fun b8=>?_))
 refine sto rfl rfl rfl Z5w rfl rfl rfl rfl ?_
 refine pur 1 rfl (sqt 1 rfl (pur 1 rfl ?_))
 refine Z2 rfl ?_ ?_<;>intro hc2
 exact absurd hc2 (by simp)
 refine Z3 (sqt 3 rfl (pur 3 rfl (Z5 ?_)))
 exact rtB rfl rfl rfl rfl ⟨bd,m,kv,rfl,hkv,rfl,rfl⟩ (fun w h=>(h.del b8).del b2)
theorem Z9h:cal Tryz.prog 126=true:=by kernel_rfl
theorem ZfH:cal Tryz.prog 139=true:=by kernel_rfl
theorem Z9j:cal Tryz.prog 161=true:=by kernel_rfl
theorem ZfU:cal Tryz.prog 170=true:=by kernel_rfl
theorem Zgo:cal Tryz.prog 217=true:=by kernel_rfl
theorem Z7V:elN Tryz.prog 184=some 2:=by kernel_rfl
theorem ik5:Z7Y Tryz.prog 5=some .u8:=by kernel_rfl
theorem Zho:Z2n Tryz.prog 184=true:=by kernel_rfl
theorem ZdP:Zbm Tryz.prog 9=true:=by kernel_rfl
theorem ZeC:(Tryz.prog.underlying 258).isSome=true:=by kernel_rfl
theorem us5:(Tryz.prog.underlying 5).isSome=true:=by kernel_rfl
def Zz (l:List (Int×Int)):List (List Value):=l.map fun x=>[.int .i64 x.1,.int .i64 x.2]
theorem Z1c (l:List (Int×Int)):(Zz l).length=l.length:=List.length_map _
theorem Z1u (l:List (Int×Int)):∀ r∈Zz l,r.length=2:=fun r hr=>by obtain ⟨x,_,rfl⟩:=List.mem_map.1 hr;rfl
theorem Z5U {l:List (Int×Int)} {k:Nat} {x:Int×Int} (h:l[k]?=some x):(Zz l)[k]?=some [.int .i64 x.1,.int .i64 x.2]:=by simp [Zz,h]
theorem Z2v {sz:Nat} {rows:List (List Value)} (hs:∀ r∈rows,r.length=sz) {k:Nat} {row:List Value} (h:rows[k]?=some row) (junk:List Value):∃ rest,(rows.flatten++junk).drop (k*sz)=row++rest:=by
 have hk:=(List.getElem?_eq_some_iff.1 h).1
 have e:rows=rows.take k++row::rows.drop (k+1):=by
   conv=>lhs;rw [← List.take_append_drop k rows]
   rw [List.drop_eq_getElem_cons hk,(List.getElem?_eq_some_iff.1 h).2]
 have hl:(rows.take k).flatten.length=k*sz:=by rw [ZH fun r hr=>hs r (List.mem_of_mem_take hr),List.length_take,Nat.min_eq_left (by omega)]
 refine ⟨(rows.drop (k+1)).flatten++junk,?_⟩
 conv=>lhs;rw [e]
 rw [List.flatten_append,List.flatten_cons,List.append_assoc,List.append_assoc,← hl,List.drop_left]
theorem Z54 (A M B J row:List Value) (h:row.length=M.length):spl ((A++(M++B))++J) A.length row=(A++(row++B))++J:=by
 unfold spl
 rw [List.append_assoc A,List.take_left,List.drop_length_add_append,h,List.append_assoc M,List.drop_left]
 simp only [List.append_assoc]
theorem Z48 {sz:Nat} {rows:List (List Value)} (hs:∀ r∈rows,r.length=sz) {k i:Nat} {row:List Value} (hk:k<rows.length) (hr:row.length=sz) (e:i=k*sz) (junk:List Value):spl (rows.flatten++junk) i row=(rows.set k row).flatten++junk:=by
 have hl:(rows.take k).flatten.length=k*sz:=by rw [ZH fun r hr=>hs r (List.mem_of_mem_take hr),List.length_take,Nat.min_eq_left (by omega)]
 have e1:rows.flatten=(rows.take k).flatten++(rows[k]++(rows.drop (k+1)).flatten):=by
   conv=>lhs;rw [← List.take_append_drop k rows]
   rw [List.drop_eq_getElem_cons hk,List.flatten_append,List.flatten_cons]
 have h2:rows[k].length=sz:=hs _ (List.getElem_mem hk)
 rw [List.set_eq_take_append_cons_drop,if_pos hk,List.flatten_append,List.flatten_cons,e1,e,← hl]
 exact Z54 _ _ _ _ _ (by rw [hr,h2])
theorem Z5V (l:List (Int×Int)) (k:Nat) (x:Int×Int):(Zz l).set k [.int .i64 x.1,.int .i64 x.2]=Zz (l.set k x):=by simp [Zz,List.map_set]
theorem Z3G (l:List (Int×Int)):(Zz l).flatten.length=l.length*2:=by rw [ZH (Z1u l),Z1c]
theorem Z6f (k:Nat) (hk:k≤12) (H:Z7) (R:Z4) :
    Fn Tryz.prog 161 [.int .u64 k] H R (fun v H' R'=>∃ z:Int,v = .int .i64 z∧H'=H∧R'=R):=by
 refine Z9 Tryz.func161 rfl Tryz.ntmps161 rfl ?_
 refine sqt 1 rfl (pur 1 rfl (Z0 (sqt 2 rfl (pur 1 rfl (sp rfl (PE.geq  rfl rfl) rfl ?_)))))
 refine Z2 rfl ?_ ?_<;>intro hc0
 simp only [decide_eq_true_eq] at hc0
 omega
 refine Z3 (Z0 (sqt 2 rfl (pur 1 rfl (sp rfl (PE.geq  rfl rfl) rfl ?_))))
 refine Z2 rfl ?_ ?_<;>intro hc1
 simp only [decide_eq_true_eq] at hc1
 omega
 refine Z3 (Z0 (sqt 2 rfl (pur 1 rfl (sp rfl (PE.geq  rfl rfl) rfl ?_))))
 refine Z2 rfl ?_ ?_<;>intro hc2
 simp only [decide_eq_true_eq] at hc2
 omega
 refine Z3 (sqt 7 rfl (pur 2 rfl ?_))
 refine sp rfl ((PE.convert ZeC ik5 rfl).to (by rw [Z4l (by omega) (by omega)])) rfl ?_
 refine spE rfl (PE.indexS (m:=256) ZdP rfl rfl (by kernel_rfl) (by omega)) rfl ?_
 rintro _ ⟨u22,rfl,hu22⟩
 refine sp rfl (PE.conv64 us5 ik3 rfl (by omega)) rfl (sp rfl (PE.add rfl rfl (by omega)) rfl (pur 1 rfl (Z5 ?_)))
 exact rtA rfl rfl rfl ⟨_,rfl,rfl,rfl⟩ idH
theorem Zdb (k:Nat) (hk:k≤12) (H:Z7) (R:Z4) :
    Fn Tryz.prog 126 [.int .u64 k] H R (fun v H' R'=>∃ z:Int,v = .int .i64 z∧H'=H∧R'=R):=by
 refine Z9 Tryz.func126 rfl Tryz.ntmps126 rfl ?_
 refine sqt 1 rfl (pur 1 rfl (Z0 ?_))
 refine ZD rfl ?_
 refine Z3 (sqt 3 rfl (pur 1 rfl ?_))
 refine cl rfl Z9j rfl rfl (Z6f k hk _ _) ?_
 rintro _ _ R1 ⟨z,rfl,rfl,hR1⟩
 obtain rfl:=hR1.symm
 clear hR1
 refine pur 1 rfl (Z5 ?_)
 exact rtA rfl rfl rfl ⟨_,rfl,rfl,rfl⟩ idH
theorem Z9c (x y:Int×Int) (H:Z7) (R:Z4) :
    Fn Tryz.prog 139 [.agg #[.int .i64 x.1,.int .i64 x.2],.agg #[.int .i64 y.1,.int .i64 y.2]] H R (fun v H' R'=>∃ z:Int,v = .int .i64 z∧H'=H∧R'=R):=by
 refine Z9 Tryz.func139 rfl Tryz.ntmps139 rfl ?_
 refine sqt 3 rfl (bx rfl rfl rfl (fun b2=>bx rfl rfl rfl (fun b3=>pur 1 rfl (sqt 13 rfl (sp rfl (PE.fA Z2w rfl) rfl (spL rfl rfl (lh sc3 rfl rfl) rfl (sp rfl (PE.fA Z2w rfl) rfl (spL rfl rfl (lh sc3 rfl rfl) rfl (sp rfl (PE.subW rfl rfl) rfl (sp rfl (PE.mulW rfl rfl) rfl (sp rfl (PE.fA Z1Q rfl) rfl (spL rfl rfl (lh sc3 rfl rfl) rfl (sp rfl (PE.addW rfl rfl) rfl (sp rfl (PE.fA Z1Q rfl) rfl (spL rfl rfl (lh sc3 rfl rfl) rfl ?_)))))))))))))))
 refine sp rfl (PE.subW rfl rfl) rfl (pur 1 rfl (Z5 ?_))
 exact rtA rfl rfl rfl ⟨_,rfl,rfl,rfl⟩ drp
theorem Z96 (l:List (Int×Int)) (n b cap:Nat) (junk:List Value) (hl:l.length=n) (hn:n≤12) (H:Z7) (R:Z4) :
    Fn Tryz.prog 217 [.slice (some ⟨b,0,none⟩) n cap,.int .i64 0,.int .i64 n,.func (.func 139) #[] #[]] ((b,cel 226 ((Zz l).flatten++junk))::H) R (fun v H' R'=>v = .tuple #[]∧H'=H∧R'=R):=by
 refine Z9 Tryz.func217 rfl Tryz.ntmps217 rfl ?_
 refine sqt 3 rfl (pur 1 rfl (sp rfl (PE.add rfl rfl (by omega)) rfl (pur 1 rfl (Z1 ?_))))
 refine Zc (ι:={x:Nat×List (Int×Int) // 1≤x.1∧x.1≤13∧x.2.length=n}) (fun x=>⟨[(0,.slice (some ⟨b,0,none⟩) n cap),(1,.int .i64 0),(2,.int .i64 n),(3,.func (.func 139) #[] #[]),(8,.int .i64 x.1.1)],(b,cel 226 ((Zz x.1.2).flatten++junk))::H,R⟩) (fun x=>n-x.1.1) ⟨(1,l),by omega,by omega,hl⟩ ?_ (fun x=>?_)
 exact Zf idH
 obtain ⟨⟨i,xs⟩,hi1,hi2,hxl⟩:=x
 dsimp only at hi1 hi2 hxl ⊢
 refine Z0 (sqt 3 rfl (pur 3 rfl ?_))
 refine Z2 rfl ?_ ?_<;>intro hc0
 try simp only [cS] at hc0
 refine Z3 (Z0 (Z1 (sqt 2 rfl (pur 2 rfl (Z1 ?_)))))
 refine Zc (ι:={x:Nat×List (Int×Int) // x.1≤i∧x.2.length=n}) (fun x=>⟨[(0,.slice (some ⟨b,0,none⟩) n cap),(1,.int .i64 0),(2,.int .i64 n),(3,.func (.func 139) #[] #[]),(8,.int .i64 i),(9,.int .i64 x.1.1)],(b,cel 226 ((Zz x.1.2).flatten++junk))::H,R⟩) (fun x=>x.1.1) ⟨(i,xs),Nat.le_refl _,hxl⟩ ?_ (fun x=>?_)
 exact Zf idH
 obtain ⟨⟨j,ys⟩,hji,hyl⟩:=x
 dsimp only at hji hyl ⊢
 refine Z0 (Z0 ?_)
 refine Zd [0,0,3,7,15,15,15,111,239,15,15,1039,3599,7695,16383,32767,65535] (tks 0 8 (.ld 8 (tks 9 4 (.ld 13 (.big 14 (.tk 15 (.tk 16 .done))))))) Zq (by kernel_rfl) ?_
 refine Zm 4 rfl ?_
 refine Zv 21 rfl ?_ ?_<;>intro g21
 try simp only [cS] at g21
 obtain ⟨x,hx⟩:∃ x,ys[j]?=some x:=⟨_,List.getElem?_eq_getElem (by omega)⟩
 obtain ⟨y,hy⟩:∃ y,ys[j-1]?=some y:=⟨_,List.getElem?_eq_getElem (by omega)⟩
 obtain ⟨rx,hrx⟩:∃ rest,((Zz ys).flatten++junk).drop (0+((j:Nat):Int).toNat*2)=[.int .i64 x.1,.int .i64 x.2]++rest:=by rw [Nat.zero_add,Int.toNat_natCast];exact Z2v (Z1u ys) (Z5U hx) junk
 obtain ⟨ry,hry⟩:∃ rest,((Zz ys).flatten++junk).drop (0+((j-1:Nat):Int).toNat*2)=[.int .i64 y.1,.int .i64 y.2]++rest:=by rw [Nat.zero_add,Int.toNat_natCast];exact Z2v (Z1u ys) (Z5U hy) junk
 refine Zm 3 rfl ?_
 refine tkG rfl rfl rfl rfl (PE.indexAddr Z7V rfl rfl (by omega) (by omega)) rfl ?_
 refine ldG rfl rfl rfl rfl rfl (lhA [.int .i64 x.1,.int .i64 x.2] Z0Y rfl (rest:=rx) hrx rfl) rfl (Zm 2 rfl ?_)
 refine tkG rfl rfl rfl rfl (PE.sub rfl rfl (by omega)) rfl ?_
 rw [show (j:Int)-1=((j-1:Nat):Int) from by omega]
 refine tkG rfl rfl rfl rfl (PE.indexAddr Z7V rfl rfl (by omega) (by omega)) rfl ?_
 refine ldG rfl rfl rfl rfl rfl (lhA [.int .i64 y.1,.int .i64 y.2] Z0Y rfl (rest:=ry) hry rfl) rfl ?_
 refine Zjd rfl rfl rfl rfl rfl (ZfH) rfl rfl (Z9c x y _ _) ?_
 rintro _ _ R1 ⟨z,rfl,rfl,hR1⟩
 obtain rfl:=hR1.symm
 clear hR1
 refine bgT (Zm 2 rfl ?_)
 refine Z2 rfl ?_ ?_<;>intro hc1
 refine Z3 (Z0 (Z1 ?_))
 refine Zd [0,0,0,0,8,0,0,64,224,480,0,0,3072,7168,16355,32739,65535,131071] (tks 0 9 (.ld 9 (tks 10 3 (.ld 13 (.tk 14 (.big 15 (.tk 16 (.big 17 .done)))))))) Zq (by kernel_rfl) ?_
 refine Zm 4 rfl (tk rfl (PE.sub rfl rfl (by omega)) rfl (Zm 2 rfl (tk rfl (PE.sub rfl rfl (by omega)) rfl ?_)))
 rw [show (j:Int)-1=((j-1:Nat):Int) from by omega]
 refine tk rfl (PE.indexAddr Z7V rfl rfl (by omega) (by omega)) rfl (ld rfl rfl (lhA [.int .i64 y.1,.int .i64 y.2] Z0Y rfl (rest:=ry) hry rfl) rfl (Zm 2 rfl (tk rfl (PE.indexAddr Z7V rfl rfl (by omega) (by omega)) rfl (ld rfl rfl (lhA [.int .i64 x.1,.int .i64 x.2] Z0Y rfl (rest:=rx) hrx rfl) rfl (tk rfl (PE.indexAddr Z7V rfl rfl (by omega) (by omega)) rfl ?_)))))
 refine Z03 (l:=(Zz (ys)).flatten++junk) (l':=(Zz ((ys).set j y)).flatten++junk) rfl rfl rfl Z5w rfl rfl rfl (by rw [← Z5V (ys) j y];exact Z48 (k:=j) (rows:=Zz (ys)) (Z1u _) (by rw [Z1c];omega) rfl (by rw [Nat.zero_add,Int.toNat_natCast]) junk) (by show 0+((j:Nat):Int).toNat*2+2≤((Zz (ys)).flatten++junk).length;rw [List.length_append,Z3G,Int.toNat_natCast];omega) ?_
 refine bgT (tk rfl (PE.indexAddr Z7V rfl rfl (by omega) (by omega)) rfl ?_)
 refine Z03 (l:=(Zz (ys.set j y)).flatten++junk) (l':=(Zz ((ys.set j y).set (j-1) x)).flatten++junk) rfl rfl rfl Z5w rfl rfl rfl (by rw [← Z5V (ys.set j y) (j-1) x];exact Z48 (k:=(j-1)) (rows:=Zz (ys.set j y)) (Z1u _) (by rw [Z1c,List.length_set];omega) rfl (by rw [Nat.zero_add,Int.toNat_natCast]) junk) (by show 0+(((j-1):Nat):Int).toNat*2+2≤((Zz (ys.set j y)).flatten++junk).length;rw [List.length_append,Z3G,List.length_set,Int.toNat_natCast];omega) ?_
 refine bgT (sqr 3 rfl (pur 1 rfl (sp rfl (PE.sub rfl rfl (by omega)) rfl (pur 1 rfl ?_))))
 rw [show (j:Int)-1=((j-1:Nat):Int) from by omega]
 exact Zb ⟨(j-1,(ys.set j y).set (j-1) x),by dsimp only;omega,by simp [hyl]⟩ idH
 refine Z8 (Za (Za (Zn (sqr 3 rfl (pur 1 rfl (sp rfl (PE.add rfl rfl (by omega)) rfl (pur 1 rfl ?_)))))))
 exact Zb ⟨(i+1,ys),by dsimp only;omega,by dsimp only;omega,hyl⟩ idH
 refine Zm 4 rfl ?_
 refine ldN rfl rfl rfl rfl rfl rfl rfl rfl ?_
 refine Zm 4 rfl ?_
 refine ldN rfl rfl rfl rfl rfl rfl rfl rfl ?_
 refine spN rfl rfl rfl rfl rfl rfl rfl rfl ?_
 refine bgT (Zm 2 rfl ?_)
 refine ZD rfl ?_
 refine Z8 (Za (Za (Zn (sqr 3 rfl (pur 1 rfl (sp rfl (PE.add rfl rfl (by omega)) rfl (pur 1 rfl ?_)))))))
 exact Zb ⟨(i+1,ys),by dsimp only;omega,by dsimp only;omega,hyl⟩ idH
 refine Z8 (Za (Za (Zn ?_)))
 exact Z0Q (vs:=[]) rfl .nil rfl ⟨rfl,rfl,rfl⟩ (fun w h=>h.tail)
theorem Z97 (H:Z7) (R:Z4) :
    FnV Tryz.prog 217 [.slice none 0 0,.int .i64 0,.int .i64 ((0:Nat):Int),.func (.func 139) #[] #[]] H R (.tuple #[]):=by
 refine Z9 Tryz.func217 rfl Tryz.ntmps217 rfl ?_
 refine sqt 3 rfl (pur 1 rfl (sp rfl (PE.add rfl rfl (by omega)) rfl (pur 1 rfl (Z1 ?_))))
 refine Zc (ι:=Unit) (fun _=>⟨[(2,.int .i64 ((0:Nat):Int)),(8,.int .i64 1)],H,R⟩) (fun x=>0) () ?_ (fun x=>?_)
 exact Zf idH
 refine Z0 (sqt 3 rfl (pur 3 rfl ?_))
 refine Z2 rfl ?_ ?_<;>intro hc0
 exact absurd hc0 (by simp)
 refine Z8 (Za (Za (Zn ?_)))
 exact Z0Q (vs:=[]) rfl .nil rfl ⟨rfl,rfl,rfl⟩ idH
theorem Zdh (l:List (Int×Int)) (o:OSl 226 2 (Zz l)) (hl:l.length≤12) (H:Z7) (R:Z4):Fn Tryz.prog 217 [o.fs,.int .i64 0,.int .i64 l.length,.func (.func 139) #[] #[]] (o.G++H) R (fun v H' R'=>v = .tuple #[]∧H'=H∧R'=R):=by
 rcases o.is with ⟨h1,h2,h3⟩ | ⟨b,cap,junk,h2,h3,hj,hc,hm⟩
 · have hx:l=[]:=List.map_eq_nil_iff.1 h1
   subst hx
   rw [h2,h3]
   exact Z97 H R
 · rw [Z1c] at h2
   rw [h2,h3]
   exact Z96 l l.length b cap junk rfl hl H R
theorem Zdk (l:List (Int×Int)) (o:OSl 226 2 (Zz l)) (hl:l.length≤12) (z:Int) (H:Z7) (R:Z4) :
    Fn Tryz.prog 170 [o.fs,.int .i64 0,.int .i64 l.length,.int .i64 z,.func (.func 139) #[] #[]] (o.G++H) R (fun v H' R'=>v = .tuple #[]∧H'=H∧R'=R):=by
 refine Z9 Tryz.func170 rfl Tryz.ntmps170 rfl ?_
 refine sqt 1 rfl (pur 1 rfl (sqt 1 rfl (pur 1 rfl (Z1 ?_))))
 refine Zc (ι:=Unit) (fun _=>⟨[(0,o.fs),(1,.int .i64 0),(2,.int .i64 l.length),(4,.func (.func 139) #[] #[])],o.G++H,R⟩) (fun x=>0) () ?_ (fun x=>?_)
 exact Zf idH
 refine Z1 (sqt 4 rfl (pur 2 rfl (sp rfl (PE.sub rfl rfl (by omega)) rfl (pur 1 rfl (Z0 (sqt 2 rfl (pur 2 rfl ?_)))))))
 refine Z2 rfl ?_ ?_<;>intro hc0
 refine sqt 5 rfl (pur 4 rfl ?_)
 refine cl rfl Zgo rfl rfl (Zdh l o hl _ _) ?_
 rintro _ _ R1 ⟨rfl,rfl,hR1⟩
 obtain rfl:=hR1.symm
 clear hR1
 refine Z5 ?_
 exact Zk (vs:=[]) rfl .nil rfl ⟨rfl,rfl,rfl⟩ idH
 simp only [decide_eq_false_iff_not] at hc0
 omega
theorem Z6g (l:List (Int×Int)) (o:OSl 226 2 (Zz l)) (hl:l.length≤12) (H:Z7) (R:Z4) :
    Fn Tryz.prog 138 [o.fs,.func (.func 139) #[] #[]] (o.G++H) R (fun v H' R'=>v = .tuple #[]∧H'=H∧R'=R):=by
 obtain ⟨a,c,he⟩:∃ a c,o.fs = .slice a l.length c:=by
   rcases o.is with ⟨h1,h2,_⟩ | ⟨b,c,j,h,_⟩
   · exact ⟨none,0,by rw [h2,show l=[] from List.map_eq_nil_iff.1 h1];rfl⟩
   · rw [Z1c] at h;exact ⟨_,_,h⟩
 refine Z9 Tryz.func138 rfl Tryz.ntmps138 rfl ?_
 refine sqt 3 rfl (pur 1 rfl (sp rfl (PE.lenSl Zho (congrArg some he)) rfl (pur 1 rfl (sqr 7 rfl (pur 3 rfl ?_)))))
 refine sp rfl ((PE.convert us3 Zbj rfl).to (by rw [Z1X (by omega) (by omega)])) rfl ?_
 refine cl rfl Z9h rfl rfl (Zdb l.length hl _ _) ?_
 rintro _ _ R1 ⟨z,rfl,rfl,hR1⟩
 obtain rfl:=hR1.symm
 clear hR1
 refine pur 1 rfl ?_
 refine cl rfl ZfU rfl rfl (Zdk l o hl z _ _) ?_
 rintro _ _ R1 ⟨rfl,rfl,hR1⟩
 obtain rfl:=hR1.symm
 clear hR1
 exact Z0Q (vs:=[]) rfl .nil rfl ⟨rfl,rfl,rfl⟩ idH
end Go.Proofs.YthijcgkicjljhaaGreat.Hn
