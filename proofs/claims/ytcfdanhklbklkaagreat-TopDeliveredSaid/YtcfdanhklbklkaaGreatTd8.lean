/- Walks of the functions of the program, and the laws that join them: what the last theorem of this claim needs, in order. -/
import Derived.Test.YtcfdanhklbklkaaGreatTd7
namespace Go.Proofs.YtcfdanhklbklkaaGreat.Sk
set_option linter.unusedSimpArgs false
set_option linter.unusedVariables false
structure Spn where
 lo:Int
 hi:Int
 deriving DecidableEq
structure SBin where
 holds:Int
 fst:Spn
structure SMov where
 day:Int
 fr:Int
 to:Int
 s:Spn
structure SLev where
 day:Int
 bin:Int
 s:Spn
structure Yrd where
 days:Nat
 bins:List SBin
 moves:List SMov
 levels:List SLev
def Spn.ok (s:Spn):Prop:=0≤s.lo∧s.lo≤s.hi∧s.hi≤300
structure Yrd.ok (y:Yrd):Prop where
 days:1≤y.days∧y.days≤5
 bins:1≤y.bins.length∧y.bins.length≤4
 nm:y.moves.length≤10
 nl:y.levels.length≤8
 bin:∀ x∈y.bins,(0≤x.holds∧x.holds≤300)∧x.fst.ok
 mov:∀ m∈y.moves,(0≤m.day∧m.day<y.days)∧(-1≤m.fr∧m.fr<y.bins.length)∧(-1≤m.to∧m.to<y.bins.length)∧m.fr≠m.to∧m.s.ok
 lev:∀ l∈y.levels,(0≤l.day∧l.day≤y.days)∧(0≤l.bin∧l.bin<y.bins.length)∧l.s.ok
def Yrd.cells (y:Yrd):Nat:=y.bins.length*y.days
def Yrd.cell (y:Yrd) (bin:Int) (day:Nat):Nat:=bif decide (bin = -1) then y.cells else bin.toNat*y.days+day
def Z1i (b t:Nat) (f:Fl) (l:SLev):Fl:=bif decide (l.bin=(b:Int))&&decide (l.day=(t:Int)) then ⟨f.fr,f.to,max f.lo l.s.lo,min f.hi l.s.hi⟩ else f
def Yrd.base (y:Yrd) (b t:Nat) (x:SBin):Fl:=⟨bif decide (0<t) then b*y.days+(t-1) else y.cells,bif decide (t<y.days) then b*y.days+t else y.cells,bif decide (0<t) then 0 else max 0 x.fst.lo,bif decide (0<t) then x.holds else min x.holds x.fst.hi⟩
def Yrd.keptF (y:Yrd) (b:Nat) (x:SBin) (t:Nat):Fl:=y.levels.foldl (Z1i b t) (y.base b t x)
def Yrd.binD (y:Yrd) (b:Nat):SBin:=y.bins.getD b ⟨0,⟨0,0⟩⟩
def Yrd.keptB (y:Yrd) (b:Nat):List Fl:=(List.range (y.days+1)).map (y.keptF b (y.binD b))
def Yrd.keptN (y:Yrd) (k:Nat):List Fl:=((List.range k).map y.keptB).flatten
def Yrd.movF (y:Yrd) (m:SMov):Fl:=⟨y.cell m.fr m.day.toNat,y.cell m.to m.day.toNat,m.s.lo,m.s.hi⟩
def Yrd.flows (y:Yrd):List Fl:=y.keptN y.bins.length++y.moves.map y.movF
theorem Z6X (b t:Nat):∀ (ls:List SLev) (f:Fl),(ls.foldl (Z1i b t) f).fr=f.fr∧(ls.foldl (Z1i b t) f).to=f.to
 | [],f=>⟨rfl,rfl⟩
 | l::ls,f=>by
   obtain ⟨h1,h2⟩:=Z6X b t ls (Z1i b t f l)
   rw [List.foldl_cons,h1,h2]
   unfold Z1i
   cases decide (l.bin=(b:Int))&&decide (l.day=(t:Int))<;>exact ⟨rfl,rfl⟩
theorem Zdr (y:Yrd) (b:Nat):(y.keptB b).length=y.days+1:=by simp [Yrd.keptB]
theorem ZT (y:Yrd):∀ k,(y.keptN k).length=k*(y.days+1)
 | 0=>by simp [Yrd.keptN]
 | k+1=>by
   have ih:=ZT y k
   unfold Yrd.keptN at ih ⊢
   rw [List.range_succ,List.map_append,List.flatten_append,List.length_append,ih]
   simp only [List.map_cons,List.map_nil,List.flatten_cons,List.flatten_nil,List.append_nil,Zdr]
   rw [Nat.add_mul,Nat.one_mul]
theorem Z63 (y:Yrd) (k:Nat):y.keptN (k+1)=y.keptN k++y.keptB k:=by
 unfold Yrd.keptN
 rw [List.range_succ,List.map_append,List.flatten_append]
 simp
theorem Z3X {y:Yrd} {b k t:Nat} (hb:b<k) (ht:t≤y.days):b*(y.days+1)+t<k*(y.days+1):=by
 have h:(b+1)*(y.days+1)≤k*(y.days+1):=Nat.mul_le_mul_right _ hb
 rw [Nat.add_mul] at h
 omega
theorem Zah {y:Yrd} {b t:Nat} (ht:t≤y.days):∀ {k},b<k→(y.keptN k)[b*(y.days+1)+t]?=some (y.keptF b (y.binD b) t)
 | k+1,hb=>by
   rw [Z63]
   by_cases e:b=k
   · subst e
     rw [List.getElem?_append_right (by rw [ZT];omega),ZT,show b*(y.days+1)+t-b*(y.days+1)=t by omega]
     unfold Yrd.keptB
     rw [List.getElem?_map,List.getElem?_range (by omega)];rfl
   · rw [List.getElem?_append_left (by rw [ZT];exact Z3X (by omega) ht)]
     exact Zah ht (by omega)
theorem Z5X {y:Yrd} {b t:Nat} (hb:b<y.bins.length) (ht:t≤y.days):y.flows[b*(y.days+1)+t]?=some (y.keptF b (y.binD b) t):=by
 unfold Yrd.flows
 rw [List.getElem?_append_left (by rw [ZT];exact Z3X hb ht)]
 exact Zah ht hb
theorem Z7U {y:Yrd} {i:Nat} {m:SMov} (h:y.moves[i]?=some m):y.flows[y.bins.length*(y.days+1)+i]?=some (y.movF m):=by
 unfold Yrd.flows
 rw [List.getElem?_append_right (by rw [ZT];omega),ZT,show y.bins.length*(y.days+1)+i-y.bins.length*(y.days+1)=i by omega,List.getElem?_map,h];rfl
theorem Z1P {y:Yrd} {i:Nat} {f:Fl} (h:y.flows[i]?=some f):(∃ b t,b<y.bins.length∧t≤y.days∧i=b*(y.days+1)+t∧f=y.keptF b (y.binD b) t)∨∃ j m,y.moves[j]?=some m∧i=y.bins.length*(y.days+1)+j∧f=y.movF m:=by
 by_cases hi:i<y.bins.length*(y.days+1)
 · left
   have hb:i / (y.days+1)<y.bins.length:=Nat.div_lt_of_lt_mul (by rw [Nat.mul_comm];exact hi)
   have ht:i%(y.days+1)<y.days+1:=Nat.mod_lt _ (by omega)
   have he:i=i / (y.days+1)*(y.days+1)+i%(y.days+1):=by rw [Nat.mul_comm];exact (Nat.div_add_mod _ _).symm
   refine ⟨i / (y.days+1),i%(y.days+1),hb,by omega,he,?_⟩
   have h2:=Z5X (y:=y) hb (show i%(y.days+1)≤y.days by omega)
   rw [← he,h] at h2
   exact Option.some.inj h2
 · right
   unfold Yrd.flows at h
   rw [List.getElem?_append_right (by rw [ZT];omega),ZT,List.getElem?_map] at h
   cases hm:y.moves[i-y.bins.length*(y.days+1)]? with
   | none=>rw [hm] at h;cases h
   | some m =>
     rw [hm] at h
     exact ⟨_,m,hm,by omega,(Option.some.inj h).symm⟩
theorem Z0i {y:Yrd} (hy:y.ok):∀ f∈y.flows,(f.fr<y.cells+1∧f.to<y.cells+1)∧f.fr≠f.to:=fun f hf=>by
 obtain ⟨i,hi⟩:=List.mem_iff_getElem?.1 hf
 have hd:=hy.days
 rcases Z1P hi with ⟨b,t,hb,ht,_,rfl⟩ | ⟨j,m,hm,_,rfl⟩
 · obtain ⟨e1,e2⟩:=Z6X b t y.levels (y.base b t (y.binD b))
   unfold Yrd.keptF
   rw [e1,e2]
   have hc:(b+1)*y.days≤y.bins.length*y.days:=Nat.mul_le_mul_right _ hb
   rw [Nat.add_mul] at hc
   unfold Yrd.base Yrd.cells
   dsimp only
   by_cases h1:0<t<;>by_cases h2:t<y.days
   · rw [decide_eq_true h1,decide_eq_true h2];simp only [cond_true];omega
   · rw [decide_eq_true h1,decide_eq_false h2];simp only [cond_true,cond_false];omega
   · rw [decide_eq_false h1,decide_eq_true h2];simp only [cond_true,cond_false];omega
   · omega
 · obtain ⟨h1,h2,h3,h4,_⟩:=hy.mov m (List.mem_of_getElem? hm)
   have key:∀ x:Int,-1≤x→x<y.bins.length→y.cell x m.day.toNat<y.cells+1∧(x ≠ -1→y.cell x m.day.toNat=x.toNat*y.days+m.day.toNat∧x.toNat*y.days+m.day.toNat<y.cells):=fun x a1 a2=>by
     unfold Yrd.cell
     by_cases e:x = -1
     · rw [decide_eq_true e,cond_true];exact ⟨by omega,fun h=>absurd e h⟩
     · rw [decide_eq_false e,cond_false]
       have hc:(x.toNat+1)*y.days≤y.bins.length*y.days:=Nat.mul_le_mul_right _ (by omega)
       rw [Nat.add_mul] at hc
       unfold Yrd.cells
       exact ⟨by omega,fun _=>⟨rfl,by omega⟩⟩
   have k1:=key m.fr h2.1 h2.2
   have k2:=key m.to h3.1 h3.2
   refine ⟨⟨k1.1,k2.1⟩,?_⟩
   show y.cell m.fr m.day.toNat≠y.cell m.to m.day.toNat
   by_cases e1:m.fr = -1
   · by_cases e2:m.to = -1
     · omega
     · rw [(k2.2 e2).1,show y.cell m.fr m.day.toNat=y.cells from by unfold Yrd.cell;rw [decide_eq_true e1];rfl]
       have:=(k2.2 e2).2;omega
   · by_cases e2:m.to = -1
     · rw [(k1.2 e1).1,show y.cell m.to m.day.toNat=y.cells from by unfold Yrd.cell;rw [decide_eq_true e2];rfl]
       have:=(k1.2 e1).2;omega
     · rw [(k1.2 e1).1,(k2.2 e2).1]
       intro e
       have h5:m.fr.toNat*y.days=m.to.toNat*y.days:=by omega
       have h6:=Nat.eq_of_mul_eq_mul_right (by omega) h5
       omega
def apB (W:Nat→Bool) (b:Int):Bool:=decide (b = -1)||W b.toNat
def Yrd.off (y:Yrd) (W:Nat→Bool):Yrd:=⟨y.days,(List.range y.bins.length).map fun b=>bif W b then y.binD b else ⟨0,⟨0,0⟩⟩,y.moves.filter (fun m=>apB W m.fr&&apB W m.to),y.levels.filter fun l=>apB W l.bin⟩
def Yrd.N0 (y:Yrd):Nat:=y.bins.length*(y.days+1)
def Yrd.KM (y:Yrd) (W:Nat→Bool) (j:Nat):Bool:=match y.moves[j]? with
 | some m=>apB W m.fr&&apB W m.to
 | none=>false
def Yrd.K (y:Yrd) (W:Nat→Bool) (i:Nat):Bool:=bif decide (i<y.N0) then W (i / (y.days+1)) else y.KM W (i-y.N0)
def Yrd.U (y:Yrd) (W:Nat→Bool) (c:Nat):Bool:=decide (c<y.cells)&&W (c / y.days)
theorem Zjl {A:List Int} {N i:Nat} (h:i<N):na (A.take N) i=na A i:=by
 unfold na;rw [List.getD_eq_getElem?_getD,List.getD_eq_getElem?_getD,List.getElem?_take,if_pos h]
theorem Z93 {A:List Int} {N j:Nat}:na (A.drop N) j=na A (N+j):=by
 unfold na;rw [List.getD_eq_getElem?_getD,List.getD_eq_getElem?_getD,List.getElem?_drop]
theorem ZdK {A B:List Int} {i:Nat} (h:i<A.length):na (A++B) i=na A i:=by
 unfold na;rw [List.getD_eq_getElem?_getD,List.getD_eq_getElem?_getD,List.getElem?_append_left h]
theorem Z92 {A B:List Int} {j:Nat}:na (A++B) (A.length+j)=na B j:=by
 unfold na;rw [List.getD_eq_getElem?_getD,List.getD_eq_getElem?_getD,List.getElem?_append_right (by omega),show A.length+j-A.length=j by omega]
theorem Z3n (y:Yrd):y.flows.length=y.N0+y.moves.length:=by unfold Yrd.flows;rw [List.length_append,ZT,List.length_map];rfl
def Grt (n:Nat) (F:List Fl) (wt:Nat→Int) (v:Int):Prop:=(∃ A,Feas n F A∧Z0b wt A=v)∧∀ B,Feas n F B→Z0b wt B≤v
def Lst (n:Nat) (F:List Fl) (wt:Nat→Int) (v:Int):Prop:=(∃ A,Feas n F A∧Z0b wt A=v)∧∀ B,Feas n F B→v≤Z0b wt B
theorem Grt.uniq {n:Nat} {F:List Fl} {wt:Nat→Int} {u v:Int} (h:Grt n F wt u) (h':Grt n F wt v):u=v:=by
 obtain ⟨⟨A,a1,a2⟩,a3⟩:=h
 obtain ⟨⟨B,b1,b2⟩,b3⟩:=h'
 have:=a3 B b1
 have:=b3 A a1
 omega
theorem Lst.uniq {n:Nat} {F:List Fl} {wt:Nat→Int} {u v:Int} (h:Lst n F wt u) (h':Lst n F wt v):u=v:=by
 obtain ⟨⟨A,a1,a2⟩,a3⟩:=h
 obtain ⟨⟨B,b1,b2⟩,b3⟩:=h'
 have:=a3 B b1
 have:=b3 A a1
 omega
theorem Z7w:∀ (A:List Int) (w:Nat→Int),Z0b (fun i => -w i) A = -Z0b w A
 | [],_=>rfl
 | a::A,w=>by
   show -w 0*a+Z0b (fun i => -w (i+1)) A = -(w 0*a+Z0b (fun i=>w (i+1)) A)
   rw [Z7w A (fun i=>w (i+1)),Int.neg_mul];omega
theorem Znl {n:Nat} {F:List Fl} {wt:Nat→Int} {A:List Int} (hA:Feas n F A) (h:∀ B,Feas n F B→Z0b (fun i => -wt i) B≤Z0b (fun i => -wt i) A):Lst n F wt (Z0b wt A) :=
 ⟨⟨A,hA,rfl⟩,fun B hB=>by have:=h B hB;rw [Z7w,Z7w] at this;omega⟩
theorem Z8u:∀ (A:List Int) (w:Nat→Int),(∀ i,w i=0)→Z0b w A=0
 | [],_,_=>rfl
 | a::A,w,h=>by
   show w 0*a+Z0b (fun i=>w (i+1)) A=0
   rw [Z8u A _ (fun i=>h (i+1)),h 0,Int.zero_mul];rfl
open Go
theorem ZhO:Z0W Tryz.prog 102=some 4:=by kernel_rfl
theorem Z6h:Z0W Tryz.prog 307=some 4:=by kernel_rfl
theorem Zot:Z0W Tryz.prog 62=some 3:=by kernel_rfl
theorem Zk3:Z0W Tryz.prog 83=some 5:=by kernel_rfl
theorem Z4d:cal Tryz.prog 182=true:=by kernel_rfl
theorem Zma:cal Tryz.prog 243=true:=by kernel_rfl
theorem Zmb:cal Tryz.prog 244=true:=by kernel_rfl
theorem Zmc:cal Tryz.prog 245=true:=by kernel_rfl
theorem Zmd:cal Tryz.prog 246=true:=by kernel_rfl
theorem Zme:cal Tryz.prog 247=true:=by kernel_rfl
theorem Zmf:cal Tryz.prog 248=true:=by kernel_rfl
theorem Zmx:cal Tryz.prog 273=true:=by kernel_rfl
theorem Zmy:cal Tryz.prog 274=true:=by kernel_rfl
theorem Zmz:cal Tryz.prog 275=true:=by kernel_rfl
theorem ZmA:cal Tryz.prog 276=true:=by kernel_rfl
theorem ZmB:cal Tryz.prog 277=true:=by kernel_rfl
theorem ZmD:cal Tryz.prog 279=true:=by kernel_rfl
theorem Zb3:elN Tryz.prog 236=some 4:=by kernel_rfl
theorem Zqp:elN Tryz.prog 56=some 3:=by kernel_rfl
theorem Zqq:elN Tryz.prog 57=some 5:=by kernel_rfl
theorem Zqr:elN Tryz.prog 58=some 4:=by kernel_rfl
theorem ZH:ZG Tryz.prog 37 0=some 0:=by kernel_rfl
theorem ZI:ZG Tryz.prog 37 1=some 1:=by kernel_rfl
theorem Z0T:ZG Tryz.prog 60 0=some 0:=by kernel_rfl
theorem Z24:ZG Tryz.prog 60 1=some 1:=by kernel_rfl
theorem Zdm:Z2o Tryz.prog 236=true:=by kernel_rfl
theorem Z86:Z2o Tryz.prog 56=true:=by kernel_rfl
theorem Zj6:Z2o Tryz.prog 57=true:=by kernel_rfl
theorem Zj7:Z2o Tryz.prog 58=true:=by kernel_rfl
theorem ZpP:Z0c Tryz.prog 298=true:=by kernel_rfl
theorem sc3:Z0c Tryz.prog 3=true:=by kernel_rfl
theorem ZpQ:Z0c Tryz.prog 300=true:=by kernel_rfl
theorem ZpR:Z0c Tryz.prog 302=true:=by kernel_rfl
theorem ZpT:Z0c Tryz.prog 342=true:=by kernel_rfl
theorem Zec:Z0c Tryz.prog 56=true:=by kernel_rfl
@[reducible] def inR (n lo hi : Int) : Bool := decide (lo ≤ n) && decide (n ≤ hi)
abbrev irows (l:List Int):List (List Value):=l.map fun z=>[.int .i64 z]
def spv (s:Spn):Value:=.agg #[.int .i64 s.lo,.int .i64 s.hi]
def bnrow (x:SBin):List Value:=[.int .i64 x.holds,.int .i64 x.fst.lo,.int .i64 x.fst.hi]
abbrev bnrows (l:List SBin):List (List Value):=l.map bnrow
def mvrow (x:SMov):List Value:=[.int .i64 x.day,.int .i64 x.fr,.int .i64 x.to,.int .i64 x.s.lo,.int .i64 x.s.hi]
abbrev mvrows (l:List SMov):List (List Value):=l.map mvrow
def Z3r (x:SLev):List Value:=[.int .i64 x.day,.int .i64 x.bin,.int .i64 x.s.lo,.int .i64 x.s.hi]
abbrev lvrows (l:List SLev):List (List Value):=l.map Z3r
def Z0d (f:Fl):List Value:=[.int .i64 (f.fr:Int),.int .i64 (f.to:Int),.int .i64 f.lo,.int .i64 f.hi]
abbrev ZN (l:List Fl):List (List Value):=l.map Z0d
def ydl (y:Yrd) (a1 a2 a3:Option Addr) (k1 k2 k3:Nat):List Value:=[.int .i64 (y.days:Int),.slice a1 y.bins.length k1,.slice a2 y.moves.length k2,.slice a3 y.levels.length k3]
def Yrd.v (y:Yrd) (a1 a2 a3:Option Addr) (k1 k2 k3:Nat):Value:=.agg (ydl y a1 a2 a3 k1 k2 k3).toArray
theorem irl (l:List Int):(irows l).length=l.length:=List.length_map _
theorem ir_get {l:List Int} {k:Nat} {x:Int} (h:l[k]?=some x):(irows l)[k]?=some [.int .i64 x]:=by simp [irows,h]
theorem ints_length (l:List Int):(Ze l).length=l.length:=by simp [Ze]
theorem Z0u {l:List Int} {k:Nat} {v:Int} (h:l[k]?=some v):(Ze l)[k]?=some (.int .i64 v):=by simp [Ze,h]
theorem Z8Z {n lo hi:Int} (h:lo≤n∧n≤hi):inR n lo hi=true:=by simp [inR,h]
theorem Zo {α:Type} {xs:List α} {p:α→Bool} {k:Nat} {x:α} (hx:xs[k]?=some x) (hn:∀ y∈xs.take k,p y=false) (h:p x=true):xs.findIdx? p=some k:=by
 induction xs generalizing k with
 | nil=>simp at hx
 | cons y ys ih =>
   cases k with
   | zero=>simp only [List.getElem?_cons_zero,Option.some.injEq] at hx;subst hx;simp [List.findIdx?_cons,h]
   | succ k =>
     have hy:=hn y (by simp)
     have:=ih (by simpa using hx) (fun z hz=>hn z (by simp [hz]))
     simp [List.findIdx?_cons,hy,this]
theorem Zm {α:Type} {xs:List α} {p:α→Bool} (hn:∀ y∈xs,p y=false):xs.findIdx? p=none:=by
 rw [List.findIdx?_eq_none_iff];exact hn
theorem ZB {α:Type} {xs:List α} {p:α→Bool} {k:Nat} {x:α} (hx:xs[k]?=some x) (hn:∀ y∈xs.take k,p y=false) (h:p x=false):∀ y∈xs.take (k+1),p y=false:=by
 intro y hy
 rw [List.take_add_one,hx] at hy
 rcases List.mem_append.1 hy with h1 | h1
 · exact hn y h1
 · simp only [Option.toList_some,List.mem_singleton] at h1;subst h1;exact h
theorem Z00 {α:Type} (xs:List α) (p:α→Bool):Value.bool (decide (0≤(match xs.findIdx? p with | some k=>(k:Int) | none => -1))) = .bool (xs.any p):=by
 congr 1
 cases h:xs.findIdx? p with
 | none =>
   have:=List.findIdx?_eq_none_iff.1 h
   have h2:xs.any p=false:=by simpa using this
   rw [h2];rfl
 | some k =>
   have h2:xs.any p=true:=by
     rw [← Bool.not_eq_false];intro h3
     have:xs.findIdx? p=none:=List.findIdx?_eq_none_iff.2 (by simpa using h3)
     rw [this] at h;cases h
   rw [h2];simp
theorem Zu {α:Type} (xs:List α) (p:α→Bool):Value.bool (!xs.any fun x=>!p x) = .bool (xs.all p):=by
 congr 1
 induction xs with
 | nil=>rfl
 | cons x xs ih=>simp [← ih]
theorem Z3K (n lo hi:Int) (H:Z6) (R:Z5) :
    FnV Tryz.prog 182 [.int .i64 n,.int .i64 lo,.int .i64 hi] H R (.bool (inR n lo hi)):=by
 refine Zc Tryz.func182 rfl Tryz.ntmps182 rfl ?_
 refine sqt 1 rfl (pur 1 rfl (sqt 9 rfl (pur 4 rfl ?_)))
 refine Zq 10 rfl ?_ ?_<;>intro g10
 refine pur 5 rfl (Z4 ?_)
 exact rtA rfl rfl rfl ⟨by simp_all only [ZC,inR,Bool.true_and,Bool.false_and,cond_true,cond_false],rfl,rfl⟩ drp
 refine pur 5 rfl (Z4 ?_)
 exact rtA rfl rfl rfl ⟨by simp_all only [ZC,inR,Bool.true_and,Bool.false_and,cond_true,cond_false],rfl,rfl⟩ drp
theorem Z3O (n lo hi:Int) (h:lo≤n∧n≤hi) (H:Z6) (R:Z5):FnV Tryz.prog 182 [.int .i64 n,.int .i64 lo,.int .i64 hi] H R (.bool true):=by
 have:=Z3K n lo hi H R
 rwa [Z8Z h] at this
theorem Z52 (xs:List SBin) (a:Option Addr) (c g:Nat) (fst cap:List Value) (p:SBin→Bool) (hg:cal Tryz.prog g=true) (hl:xs.length≤9223372036854775807) (H:Z6) (R:Z5) [hR:MemRows a 3 (bnrows xs) R] (hp:∀ x,x∈xs→FnV Tryz.prog g (fst++[.agg (bnrow x).toArray]++cap) H R (.bool (p x))) :
    FnV Tryz.prog 273 [.slice a xs.length c,.func (.func g) fst.toArray cap.toArray] H R (.int .i64 (match xs.findIdx? p with | some k=>(k:Int) | none => -1)):=by
 refine Zc Tryz.func273 rfl Tryz.ntmps273 rfl ?_
 refine sqt 1 rfl (pur 1 rfl (Z0 (sqt 3 rfl (pur 1 rfl (sp rfl (PE.lenSl Z86 rfl) rfl (pur 1 rfl (Z2 ?_)))))))
 refine Zd (ι:={k:Nat // k≤xs.length∧∀ x∈xs.take k,p x=false}) (fun k=>⟨[(0,.slice a xs.length c),(1,.func (.func g) fst.toArray cap.toArray),(7,.int .i64 xs.length),(8,.int .i64 k.1)],H,R⟩) (fun k=>xs.length-k.1) ⟨0,by simp⟩ ?_ (fun k=>?_)
 exact Zf idH
 obtain ⟨k,hk,hn⟩:=k
 dsimp only
 refine sqt 1 rfl (pur 1 rfl (Z0 ?_))
 refine Z1 rfl ?_ ?_<;>intro hc0
 simp only [cS] at hc0
 obtain ⟨x,hx⟩:∃ x,xs[k]?=some x:=⟨_,List.getElem?_eq_getElem (by omega)⟩
 have hxm:=List.mem_of_getElem? hx
 refine Zj (a:=a) (sz:=3) (rows:=bnrows xs) (by cases xs<;>simp_all [bnrows]) (fun b off he=>?_)
 subst he
 refine Z3 (Z0 (Z2 (sqt 2 rfl (pur 2 rfl (sqt 6 rfl (pur 3 rfl (sp rfl (PE.indexAddr Zqp rfl rfl (by omega) (by omega)) rfl (spL rfl rfl (lfA Zot (row:=bnrow x) (by simp [bnrows,hx]) rfl) rfl ?_))))))))
 refine Z2c rfl rfl (hg) rfl rfl (hp x hxm) ?_
 refine Z1 rfl ?_ ?_<;>intro hc1
 refine sqt 2 rfl (pur 2 rfl (Z4 ?_))
 first | (exact rtA rfl rfl rfl ⟨by rw [Zo hx hn hc1];rfl,rfl,rfl⟩ idH) | (exact rtA rfl rfl rfl ⟨by rw [Zm (by simpa using hn)];rfl,rfl,rfl⟩ idH)
 refine Z3 (sqr 2 rfl (sp rfl (PE.add rfl rfl (by omega)) rfl (pur 1 rfl ?_)))
 exact Zb ⟨k+1,by omega,ZB hx hn hc1⟩ idH
 simp only [cS] at hc0
 obtain rfl:k=xs.length:=by omega
 refine Z7 (Z8 (Z8 (Zi (sqt 1 rfl (pur 1 rfl (Z4 ?_))))))
 first | (exact rtA rfl rfl rfl ⟨by rw [Zo hx hn hc1];rfl,rfl,rfl⟩ idH) | (exact rtA rfl rfl rfl ⟨by rw [Zm (by simpa using hn)];rfl,rfl,rfl⟩ idH)
theorem Z51 (xs:List SBin) (a:Option Addr) (c g:Nat) (fst cap:List Value) (p:SBin→Bool) (hg:cal Tryz.prog g=true) (hl:xs.length≤9223372036854775807) (H:Z6) (R:Z5) [hR:MemRows a 3 (bnrows xs) R] (hp:∀ x,x∈xs→FnV Tryz.prog g (fst++[.agg (bnrow x).toArray]++cap) H R (.bool (p x))) :
    FnV Tryz.prog 243 [.slice a xs.length c,.func (.func g) fst.toArray cap.toArray] H R (.bool (xs.any p)):=by
 refine Zc Tryz.func243 rfl Tryz.ntmps243 rfl ?_
 refine sqt 1 rfl (pur 1 rfl (sqt 5 rfl (pur 2 rfl ?_)))
 refine clV rfl Zmx rfl rfl (Z52 xs a c g fst cap p hg hl _ _ hp) ?_
 refine pur 2 rfl (Z4 ?_)
 exact rtA rfl rfl rfl ⟨by simp only [ZC];exact Z00 _ _,rfl,rfl⟩ drp
theorem Z4U (x:SBin) (g bf:Nat) (fst cap:List Value) (p:Bool) (hg:cal Tryz.prog g=true) (H:Z6) (R:Z5) [hM:Mem1 bf (cel 298 [.func (.func g) fst.toArray cap.toArray]) H] (hp:∀ b,FnV Tryz.prog g (fst++[.agg (bnrow x).toArray]++cap) ((b,cel 62 (bnrow x))::H) R (.bool p)) :
    FnV Tryz.prog 244 [.agg (bnrow x).toArray,.pointer (some ⟨bf,0,none⟩)] H R (.bool !p):=by
 refine Zc Tryz.func244 rfl Tryz.ntmps244 rfl ?_
 refine sqt 2 rfl (bx rfl rfl rfl (fun b2=>pur 1 rfl (sqt 5 rfl (spL rfl rfl (lh ZpP rfl rfl) rfl (spL rfl rfl (lhA [_,_,_] Zot rfl rfl rfl) rfl ?_)))))
 refine Z2c rfl rfl (hg) rfl rfl (hp _) ?_
 refine pur 2 rfl (Z4 ?_)
 exact rtA rfl rfl rfl ⟨rfl,rfl,rfl⟩ drp
theorem Z15 (xs:List SBin) (a:Option Addr) (c g:Nat) (fst cap:List Value) (p:SBin→Bool) (hg:cal Tryz.prog g=true) (hl:xs.length≤9223372036854775807) (H:Z6) (R:Z5) [hR:MemRows a 3 (bnrows xs) R] (hp:∀ b b2 x,x∈xs→FnV Tryz.prog g (fst++[.agg (bnrow x).toArray]++cap) ((b2,cel 62 (bnrow x))::(b,cel 298 [.func (.func g) fst.toArray cap.toArray])::H) R (.bool (p x))) :
    FnV Tryz.prog 183 [.slice a xs.length c,.func (.func g) fst.toArray cap.toArray] H R (.bool (xs.all p)):=by
 refine Zc Tryz.func183 rfl Tryz.ntmps183 rfl ?_
 refine sqt 2 rfl (bx rfl rfl rfl (fun b3=>pur 1 rfl (sqt 5 rfl (pur 1 rfl (sp rfl (PE.makeFunc rfl rfl) rfl ?_)))))
 refine clV rfl Zma rfl rfl (Z51 xs a c 244 [] [_] (fun x=>!p x) Zmb hl _ _ (hp:=fun x hx=>Z4U x g _ fst cap (p x) hg _ _ (hp:=fun b=>hp _ _ x hx))) ?_
 refine pur 2 rfl (Z4 ?_)
 exact rtA rfl rfl rfl ⟨by simp only [ZC];rw [Zu],rfl,rfl⟩ drp
theorem Zcf (xs:List SMov) (a:Option Addr) (c g:Nat) (fst cap:List Value) (p:SMov→Bool) (hg:cal Tryz.prog g=true) (hl:xs.length≤9223372036854775807) (H:Z6) (R:Z5) [hR:MemRows a 5 (mvrows xs) R] (hp:∀ x,x∈xs→FnV Tryz.prog g (fst++[.agg (mvrow x).toArray]++cap) H R (.bool (p x))) :
    FnV Tryz.prog 274 [.slice a xs.length c,.func (.func g) fst.toArray cap.toArray] H R (.int .i64 (match xs.findIdx? p with | some k=>(k:Int) | none => -1)):=by
 refine Zc Tryz.func274 rfl Tryz.ntmps274 rfl ?_
 refine sqt 1 rfl (pur 1 rfl (Z0 (sqt 3 rfl (pur 1 rfl (sp rfl (PE.lenSl Zj6 rfl) rfl (pur 1 rfl (Z2 ?_)))))))
 refine Zd (ι:={k:Nat // k≤xs.length∧∀ x∈xs.take k,p x=false}) (fun k=>⟨[(0,.slice a xs.length c),(1,.func (.func g) fst.toArray cap.toArray),(7,.int .i64 xs.length),(8,.int .i64 k.1)],H,R⟩) (fun k=>xs.length-k.1) ⟨0,by simp⟩ ?_ (fun k=>?_)
 exact Zf idH
 obtain ⟨k,hk,hn⟩:=k
 dsimp only
 refine sqt 1 rfl (pur 1 rfl (Z0 ?_))
 refine Z1 rfl ?_ ?_<;>intro hc0
 simp only [cS] at hc0
 obtain ⟨x,hx⟩:∃ x,xs[k]?=some x:=⟨_,List.getElem?_eq_getElem (by omega)⟩
 have hxm:=List.mem_of_getElem? hx
 refine Zj (a:=a) (sz:=5) (rows:=mvrows xs) (by cases xs<;>simp_all [mvrows]) (fun b off he=>?_)
 subst he
 refine Z3 (Z0 (Z2 (sqt 2 rfl (pur 2 rfl (sqt 6 rfl (pur 3 rfl (sp rfl (PE.indexAddr Zqq rfl rfl (by omega) (by omega)) rfl (spL rfl rfl (lfA Zk3 (row:=mvrow x) (by simp [mvrows,hx]) rfl) rfl ?_))))))))
 refine Z2c rfl rfl (hg) rfl rfl (hp x hxm) ?_
 refine Z1 rfl ?_ ?_<;>intro hc1
 refine sqt 2 rfl (pur 2 rfl (Z4 ?_))
 first | (exact rtA rfl rfl rfl ⟨by rw [Zo hx hn hc1];rfl,rfl,rfl⟩ idH) | (exact rtA rfl rfl rfl ⟨by rw [Zm (by simpa using hn)];rfl,rfl,rfl⟩ idH)
 refine Z3 (sqr 2 rfl (sp rfl (PE.add rfl rfl (by omega)) rfl (pur 1 rfl ?_)))
 exact Zb ⟨k+1,by omega,ZB hx hn hc1⟩ idH
 simp only [cS] at hc0
 obtain rfl:k=xs.length:=by omega
 refine Z7 (Z8 (Z8 (Zi (sqt 1 rfl (pur 1 rfl (Z4 ?_))))))
 first | (exact rtA rfl rfl rfl ⟨by rw [Zo hx hn hc1];rfl,rfl,rfl⟩ idH) | (exact rtA rfl rfl rfl ⟨by rw [Zm (by simpa using hn)];rfl,rfl,rfl⟩ idH)
theorem Zc7 (xs:List SMov) (a:Option Addr) (c g:Nat) (fst cap:List Value) (p:SMov→Bool) (hg:cal Tryz.prog g=true) (hl:xs.length≤9223372036854775807) (H:Z6) (R:Z5) [hR:MemRows a 5 (mvrows xs) R] (hp:∀ x,x∈xs→FnV Tryz.prog g (fst++[.agg (mvrow x).toArray]++cap) H R (.bool (p x))) :
    FnV Tryz.prog 245 [.slice a xs.length c,.func (.func g) fst.toArray cap.toArray] H R (.bool (xs.any p)):=by
 refine Zc Tryz.func245 rfl Tryz.ntmps245 rfl ?_
 refine sqt 1 rfl (pur 1 rfl (sqt 5 rfl (pur 2 rfl ?_)))
 refine clV rfl Zmy rfl rfl (Zcf xs a c g fst cap p hg hl _ _ hp) ?_
 refine pur 2 rfl (Z4 ?_)
 exact rtA rfl rfl rfl ⟨by simp only [ZC];exact Z00 _ _,rfl,rfl⟩ drp
theorem ZbZ (x:SMov) (g bf:Nat) (fst cap:List Value) (p:Bool) (hg:cal Tryz.prog g=true) (H:Z6) (R:Z5) [hM:Mem1 bf (cel 300 [.func (.func g) fst.toArray cap.toArray]) H] (hp:∀ b,FnV Tryz.prog g (fst++[.agg (mvrow x).toArray]++cap) ((b,cel 83 (mvrow x))::H) R (.bool p)) :
    FnV Tryz.prog 246 [.agg (mvrow x).toArray,.pointer (some ⟨bf,0,none⟩)] H R (.bool !p):=by
 refine Zc Tryz.func246 rfl Tryz.ntmps246 rfl ?_
 refine sqt 2 rfl (bx rfl rfl rfl (fun b2=>pur 1 rfl (sqt 5 rfl (spL rfl rfl (lh ZpQ rfl rfl) rfl (spL rfl rfl (lhA [_,_,_,_,_] Zk3 rfl rfl rfl) rfl ?_)))))
 refine Z2c rfl rfl (hg) rfl rfl (hp _) ?_
 refine pur 2 rfl (Z4 ?_)
 exact rtA rfl rfl rfl ⟨rfl,rfl,rfl⟩ drp
theorem Z1M (xs:List SMov) (a:Option Addr) (c g:Nat) (fst cap:List Value) (p:SMov→Bool) (hg:cal Tryz.prog g=true) (hl:xs.length≤9223372036854775807) (H:Z6) (R:Z5) [hR:MemRows a 5 (mvrows xs) R] (hp:∀ b b2 x,x∈xs→FnV Tryz.prog g (fst++[.agg (mvrow x).toArray]++cap) ((b2,cel 83 (mvrow x))::(b,cel 300 [.func (.func g) fst.toArray cap.toArray])::H) R (.bool (p x))) :
    FnV Tryz.prog 186 [.slice a xs.length c,.func (.func g) fst.toArray cap.toArray] H R (.bool (xs.all p)):=by
 refine Zc Tryz.func186 rfl Tryz.ntmps186 rfl ?_
 refine sqt 2 rfl (bx rfl rfl rfl (fun b3=>pur 1 rfl (sqt 5 rfl (pur 1 rfl (sp rfl (PE.makeFunc rfl rfl) rfl ?_)))))
 refine clV rfl Zmc rfl rfl (Zc7 xs a c 246 [] [_] (fun x=>!p x) Zmd hl _ _ (hp:=fun x hx=>ZbZ x g _ fst cap (p x) hg _ _ (hp:=fun b=>hp _ _ x hx))) ?_
 refine pur 2 rfl (Z4 ?_)
 exact rtA rfl rfl rfl ⟨by simp only [ZC];rw [Zu],rfl,rfl⟩ drp
theorem Zcd (xs:List SLev) (a:Option Addr) (c g:Nat) (fst cap:List Value) (p:SLev→Bool) (hg:cal Tryz.prog g=true) (hl:xs.length≤9223372036854775807) (H:Z6) (R:Z5) [hR:MemRows a 4 (lvrows xs) R] (hp:∀ x,x∈xs→FnV Tryz.prog g (fst++[.agg (Z3r x).toArray]++cap) H R (.bool (p x))) :
    FnV Tryz.prog 275 [.slice a xs.length c,.func (.func g) fst.toArray cap.toArray] H R (.int .i64 (match xs.findIdx? p with | some k=>(k:Int) | none => -1)):=by
 refine Zc Tryz.func275 rfl Tryz.ntmps275 rfl ?_
 refine sqt 1 rfl (pur 1 rfl (Z0 (sqt 3 rfl (pur 1 rfl (sp rfl (PE.lenSl Zj7 rfl) rfl (pur 1 rfl (Z2 ?_)))))))
 refine Zd (ι:={k:Nat // k≤xs.length∧∀ x∈xs.take k,p x=false}) (fun k=>⟨[(0,.slice a xs.length c),(1,.func (.func g) fst.toArray cap.toArray),(7,.int .i64 xs.length),(8,.int .i64 k.1)],H,R⟩) (fun k=>xs.length-k.1) ⟨0,by simp⟩ ?_ (fun k=>?_)
 exact Zf idH
 obtain ⟨k,hk,hn⟩:=k
 dsimp only
 refine sqt 1 rfl (pur 1 rfl (Z0 ?_))
 refine Z1 rfl ?_ ?_<;>intro hc0
 simp only [cS] at hc0
 obtain ⟨x,hx⟩:∃ x,xs[k]?=some x:=⟨_,List.getElem?_eq_getElem (by omega)⟩
 have hxm:=List.mem_of_getElem? hx
 refine Zj (a:=a) (sz:=4) (rows:=lvrows xs) (by cases xs<;>simp_all [lvrows]) (fun b off he=>?_)
 subst he
 refine Z3 (Z0 (Z2 (sqt 2 rfl (pur 2 rfl (sqt 6 rfl (pur 3 rfl (sp rfl (PE.indexAddr Zqr rfl rfl (by omega) (by omega)) rfl (spL rfl rfl (lfA ZhO (row:=Z3r x) (by simp [lvrows,hx]) rfl) rfl ?_))))))))
 refine Z2c rfl rfl (hg) rfl rfl (hp x hxm) ?_
 refine Z1 rfl ?_ ?_<;>intro hc1
 refine sqt 2 rfl (pur 2 rfl (Z4 ?_))
 first | (exact rtA rfl rfl rfl ⟨by rw [Zo hx hn hc1];rfl,rfl,rfl⟩ idH) | (exact rtA rfl rfl rfl ⟨by rw [Zm (by simpa using hn)];rfl,rfl,rfl⟩ idH)
 refine Z3 (sqr 2 rfl (sp rfl (PE.add rfl rfl (by omega)) rfl (pur 1 rfl ?_)))
 exact Zb ⟨k+1,by omega,ZB hx hn hc1⟩ idH
 simp only [cS] at hc0
 obtain rfl:k=xs.length:=by omega
 refine Z7 (Z8 (Z8 (Zi (sqt 1 rfl (pur 1 rfl (Z4 ?_))))))
 first | (exact rtA rfl rfl rfl ⟨by rw [Zo hx hn hc1];rfl,rfl,rfl⟩ idH) | (exact rtA rfl rfl rfl ⟨by rw [Zm (by simpa using hn)];rfl,rfl,rfl⟩ idH)
theorem Zc5 (xs:List SLev) (a:Option Addr) (c g:Nat) (fst cap:List Value) (p:SLev→Bool) (hg:cal Tryz.prog g=true) (hl:xs.length≤9223372036854775807) (H:Z6) (R:Z5) [hR:MemRows a 4 (lvrows xs) R] (hp:∀ x,x∈xs→FnV Tryz.prog g (fst++[.agg (Z3r x).toArray]++cap) H R (.bool (p x))) :
    FnV Tryz.prog 247 [.slice a xs.length c,.func (.func g) fst.toArray cap.toArray] H R (.bool (xs.any p)):=by
 refine Zc Tryz.func247 rfl Tryz.ntmps247 rfl ?_
 refine sqt 1 rfl (pur 1 rfl (sqt 5 rfl (pur 2 rfl ?_)))
 refine clV rfl Zmz rfl rfl (Zcd xs a c g fst cap p hg hl _ _ hp) ?_
 refine pur 2 rfl (Z4 ?_)
 exact rtA rfl rfl rfl ⟨by simp only [ZC];exact Z00 _ _,rfl,rfl⟩ drp
theorem ZbX (x:SLev) (g bf:Nat) (fst cap:List Value) (p:Bool) (hg:cal Tryz.prog g=true) (H:Z6) (R:Z5) [hM:Mem1 bf (cel 302 [.func (.func g) fst.toArray cap.toArray]) H] (hp:∀ b,FnV Tryz.prog g (fst++[.agg (Z3r x).toArray]++cap) ((b,cel 102 (Z3r x))::H) R (.bool p)) :
    FnV Tryz.prog 248 [.agg (Z3r x).toArray,.pointer (some ⟨bf,0,none⟩)] H R (.bool !p):=by
 refine Zc Tryz.func248 rfl Tryz.ntmps248 rfl ?_
 refine sqt 2 rfl (bx rfl rfl rfl (fun b2=>pur 1 rfl (sqt 5 rfl (spL rfl rfl (lh ZpR rfl rfl) rfl (spL rfl rfl (lhA [_,_,_,_] ZhO rfl rfl rfl) rfl ?_)))))
 refine Z2c rfl rfl (hg) rfl rfl (hp _) ?_
 refine pur 2 rfl (Z4 ?_)
 exact rtA rfl rfl rfl ⟨rfl,rfl,rfl⟩ drp
theorem Z31 (xs:List SLev) (a:Option Addr) (c g:Nat) (fst cap:List Value) (p:SLev→Bool) (hg:cal Tryz.prog g=true) (hl:xs.length≤9223372036854775807) (H:Z6) (R:Z5) [hR:MemRows a 4 (lvrows xs) R] (hp:∀ b b2 x,x∈xs→FnV Tryz.prog g (fst++[.agg (Z3r x).toArray]++cap) ((b2,cel 102 (Z3r x))::(b,cel 302 [.func (.func g) fst.toArray cap.toArray])::H) R (.bool (p x))) :
    FnV Tryz.prog 188 [.slice a xs.length c,.func (.func g) fst.toArray cap.toArray] H R (.bool (xs.all p)):=by
 refine Zc Tryz.func188 rfl Tryz.ntmps188 rfl ?_
 refine sqt 2 rfl (bx rfl rfl rfl (fun b3=>pur 1 rfl (sqt 5 rfl (pur 1 rfl (sp rfl (PE.makeFunc rfl rfl) rfl ?_)))))
 refine clV rfl Zme rfl rfl (Zc5 xs a c 248 [] [_] (fun x=>!p x) Zmf hl _ _ (hp:=fun x hx=>ZbX x g _ fst cap (p x) hg _ _ (hp:=fun b=>hp _ _ x hx))) ?_
 refine pur 2 rfl (Z4 ?_)
 exact rtA rfl rfl rfl ⟨by simp only [ZC];rw [Zu],rfl,rfl⟩ drp
theorem Zc9 (xs:List Fl) (a:Option Addr) (c g:Nat) (fst cap:List Value) (p:Fl→Bool) (hg:cal Tryz.prog g=true) (hl:xs.length≤9223372036854775807) (H:Z6) (R:Z5) [hR:MemRows a 4 (ZN xs) R] (hp:∀ x,x∈xs→FnV Tryz.prog g (fst++[.agg (Z0d x).toArray]++cap) H R (.bool (p x))) :
    FnV Tryz.prog 279 [.slice a xs.length c,.func (.func g) fst.toArray cap.toArray] H R (.int .i64 (match xs.findIdx? p with | some k=>(k:Int) | none => -1)):=by
 refine Zc Tryz.func279 rfl Tryz.ntmps279 rfl ?_
 refine sqt 1 rfl (pur 1 rfl (Z0 (sqt 3 rfl (pur 1 rfl (sp rfl (PE.lenSl Zdm rfl) rfl (pur 1 rfl (Z2 ?_)))))))
 refine Zd (ι:={k:Nat // k≤xs.length∧∀ x∈xs.take k,p x=false}) (fun k=>⟨[(0,.slice a xs.length c),(1,.func (.func g) fst.toArray cap.toArray),(7,.int .i64 xs.length),(8,.int .i64 k.1)],H,R⟩) (fun k=>xs.length-k.1) ⟨0,by simp⟩ ?_ (fun k=>?_)
 exact Zf idH
 obtain ⟨k,hk,hn⟩:=k
 dsimp only
 refine sqt 1 rfl (pur 1 rfl (Z0 ?_))
 refine Z1 rfl ?_ ?_<;>intro hc0
 simp only [cS] at hc0
 obtain ⟨x,hx⟩:∃ x,xs[k]?=some x:=⟨_,List.getElem?_eq_getElem (by omega)⟩
 have hxm:=List.mem_of_getElem? hx
 refine Zj (a:=a) (sz:=4) (rows:=ZN xs) (by cases xs<;>simp_all [ZN]) (fun b off he=>?_)
 subst he
 refine Z3 (Z0 (Z2 (sqt 2 rfl (pur 2 rfl (sqt 6 rfl (pur 3 rfl (sp rfl (PE.indexAddr Zb3 rfl rfl (by omega) (by omega)) rfl (spL rfl rfl (lfA Z6h (row:=Z0d x) (by simp [ZN,hx]) rfl) rfl ?_))))))))
 refine Z2c rfl rfl (hg) rfl rfl (hp x hxm) ?_
 refine Z1 rfl ?_ ?_<;>intro hc1
 refine sqt 2 rfl (pur 2 rfl (Z4 ?_))
 first | (exact rtA rfl rfl rfl ⟨by rw [Zo hx hn hc1];rfl,rfl,rfl⟩ idH) | (exact rtA rfl rfl rfl ⟨by rw [Zm (by simpa using hn)];rfl,rfl,rfl⟩ idH)
 refine Z3 (sqr 2 rfl (sp rfl (PE.add rfl rfl (by omega)) rfl (pur 1 rfl ?_)))
 exact Zb ⟨k+1,by omega,ZB hx hn hc1⟩ idH
 simp only [cS] at hc0
 obtain rfl:k=xs.length:=by omega
 refine Z7 (Z8 (Z8 (Zi (sqt 1 rfl (pur 1 rfl (Z4 ?_))))))
 first | (exact rtA rfl rfl rfl ⟨by rw [Zo hx hn hc1];rfl,rfl,rfl⟩ idH) | (exact rtA rfl rfl rfl ⟨by rw [Zm (by simpa using hn)];rfl,rfl,rfl⟩ idH)
theorem Zc1 (xs:List Fl) (a:Option Addr) (c g:Nat) (fst cap:List Value) (p:Fl→Bool) (hg:cal Tryz.prog g=true) (hl:xs.length≤9223372036854775807) (H:Z6) (R:Z5) [hR:MemRows a 4 (ZN xs) R] (hp:∀ x,x∈xs→FnV Tryz.prog g (fst++[.agg (Z0d x).toArray]++cap) H R (.bool (p x))) :
    FnV Tryz.prog 276 [.slice a xs.length c,.func (.func g) fst.toArray cap.toArray] H R (.bool (xs.any p)):=by
 refine Zc Tryz.func276 rfl Tryz.ntmps276 rfl ?_
 refine sqt 1 rfl (pur 1 rfl (sqt 5 rfl (pur 2 rfl ?_)))
 refine clV rfl ZmD rfl rfl (Zc9 xs a c g fst cap p hg hl _ _ hp) ?_
 refine pur 2 rfl (Z4 ?_)
 exact rtA rfl rfl rfl ⟨by simp only [ZC];exact Z00 _ _,rfl,rfl⟩ drp
theorem ZbT (x:Fl) (g bf:Nat) (fst cap:List Value) (p:Bool) (hg:cal Tryz.prog g=true) (H:Z6) (R:Z5) [hM:Mem1 bf (cel 342 [.func (.func g) fst.toArray cap.toArray]) H] (hp:∀ b,FnV Tryz.prog g (fst++[.agg (Z0d x).toArray]++cap) ((b,cel 307 (Z0d x))::H) R (.bool p)) :
    FnV Tryz.prog 277 [.agg (Z0d x).toArray,.pointer (some ⟨bf,0,none⟩)] H R (.bool !p):=by
 refine Zc Tryz.func277 rfl Tryz.ntmps277 rfl ?_
 refine sqt 2 rfl (bx rfl rfl rfl (fun b2=>pur 1 rfl (sqt 5 rfl (spL rfl rfl (lh ZpT rfl rfl) rfl (spL rfl rfl (lhA [_,_,_,_] Z6h rfl rfl rfl) rfl ?_)))))
 refine Z2c rfl rfl (hg) rfl rfl (hp _) ?_
 refine pur 2 rfl (Z4 ?_)
 exact rtA rfl rfl rfl ⟨rfl,rfl,rfl⟩ drp
theorem Z8H (xs:List Fl) (a:Option Addr) (c g:Nat) (fst cap:List Value) (p:Fl→Bool) (hg:cal Tryz.prog g=true) (hl:xs.length≤9223372036854775807) (H:Z6) (R:Z5) [hR:MemRows a 4 (ZN xs) R] (hp:∀ b b2 x,x∈xs→FnV Tryz.prog g (fst++[.agg (Z0d x).toArray]++cap) ((b2,cel 307 (Z0d x))::(b,cel 342 [.func (.func g) fst.toArray cap.toArray])::H) R (.bool (p x))) :
    FnV Tryz.prog 252 [.slice a xs.length c,.func (.func g) fst.toArray cap.toArray] H R (.bool (xs.all p)):=by
 refine Zc Tryz.func252 rfl Tryz.ntmps252 rfl ?_
 refine sqt 2 rfl (bx rfl rfl rfl (fun b3=>pur 1 rfl (sqt 5 rfl (pur 1 rfl (sp rfl (PE.makeFunc rfl rfl) rfl ?_)))))
 refine clV rfl ZmA rfl rfl (Zc1 xs a c 277 [] [_] (fun x=>!p x) ZmB hl _ _ (hp:=fun x hx=>ZbT x g _ fst cap (p x) hg _ _ (hp:=fun b=>hp _ _ x hx))) ?_
 refine pur 2 rfl (Z4 ?_)
 exact rtA rfl rfl rfl ⟨by simp only [ZC];rw [Zu],rfl,rfl⟩ drp
theorem Z5K (y:Yrd) (a1 a2 a3:Option Addr) (k1 k2 k3:Nat) (q:Int) (hq:0≤q∧q<y.bins.length) (hn:y.bins.length≤4) (H:Z6) (R:Z5) :
    FnV Tryz.prog 130 [(y.v a1 a2 a3 k1 k2 k3),.int .i64 q] H R (.bool true):=by
 refine Zc Tryz.func130 rfl Tryz.ntmps130 rfl ?_
 refine sqt 2 rfl (bx rfl rfl rfl (fun b2=>pur 1 rfl (sqt 7 rfl (pur 1 rfl (sp rfl (PE.fA Z24 rfl) rfl (spL rfl rfl (lh Zec rfl rfl) rfl (sp rfl (PE.lenSl Z86 rfl) rfl (sp rfl (PE.sub rfl rfl (by omega)) rfl ?_))))))))
 refine clV rfl Z4d rfl rfl (Z3O _ _ _ (by omega) _ _) ?_
 refine pur 1 rfl (Z4 ?_)
 exact rtA rfl rfl rfl ⟨rfl,rfl,rfl⟩ drp
theorem ZkM (y:Yrd) (a1 a2 a3:Option Addr) (k1 k2 k3:Nat) (q:Int) (hq:0≤q∧q≤y.days) (H:Z6) (R:Z5) :
    FnV Tryz.prog 192 [(y.v a1 a2 a3 k1 k2 k3),.int .i64 q] H R (.bool true):=by
 refine Zc Tryz.func192 rfl Tryz.ntmps192 rfl ?_
 refine sqt 2 rfl (bx rfl rfl rfl (fun b2=>pur 1 rfl (sqt 5 rfl (pur 1 rfl (sp rfl (PE.fA Z0T rfl) rfl (spL rfl rfl (lh sc3 rfl rfl) rfl ?_))))))
 refine clV rfl Z4d rfl rfl (Z3O _ _ _ (by omega) _ _) ?_
 refine pur 1 rfl (Z4 ?_)
 exact rtA rfl rfl rfl ⟨rfl,rfl,rfl⟩ drp
theorem Z4S (s:Spn) (hs:s.ok) (H:Z6) (R:Z5) :
    FnV Tryz.prog 185 [spv s] H R (.bool true):=by
 obtain ⟨h1,h2,h3⟩:=hs
 refine Zc Tryz.func185 rfl Tryz.ntmps185 rfl ?_
 refine sqt 2 rfl (bx rfl rfl rfl (fun b1=>pur 1 rfl (sqt 9 rfl (sp rfl (PE.fA ZH rfl) rfl (spL rfl rfl (lh sc3 rfl rfl) rfl ?_)))))
 refine clV rfl Z4d rfl rfl (Z3O _ _ _ (by omega) _ _) ?_
 refine pur 1 rfl ?_
 refine Zq 6 rfl ?_ ?_<;>intro g6
 refine spG rfl rfl rfl rfl (PE.fA ZI rfl) rfl ?_
 refine Z0e rfl rfl rfl rfl rfl (lh sc3 rfl rfl) rfl ?_
 refine Z6x rfl rfl rfl rfl Z4d rfl rfl (Z3O _ _ _ (by omega) _ _) ?_
 refine pur 2 rfl (Z4 ?_)
 exact rtA rfl rfl rfl ⟨rfl,rfl,rfl⟩ drp
 exact absurd g6 (by simp)
theorem Z6r (s:Spn) (hs:s.ok) (H:Z6) (R:Z5) :
    FnV Tryz.prog 195 [spv s] H R (.bool true):=by
 obtain ⟨h1,h2,h3⟩:=hs
 refine Zc Tryz.func195 rfl Tryz.ntmps195 rfl ?_
 refine sqt 2 rfl (bx rfl rfl rfl (fun b1=>pur 1 rfl (sqt 6 rfl (sp rfl (PE.fA ZH rfl) rfl (spL rfl rfl (lh sc3 rfl rfl) rfl (sp rfl (PE.fA ZI rfl) rfl (spL rfl rfl (lh sc3 rfl rfl) rfl (pur 2 rfl (Z4 ?_)))))))))
 exact rtA rfl rfl rfl ⟨by simp [ZC];omega,rfl,rfl⟩ drp
theorem Z2R:Z0W Tryz.prog 37=some 2:=by kernel_rfl
theorem ZeN:Z0W Tryz.prog 60=some 4:=by kernel_rfl
theorem ZgP:cal Tryz.prog 130=true:=by kernel_rfl
theorem ZgU:cal Tryz.prog 181=true:=by kernel_rfl
theorem Zcp:cal Tryz.prog 185=true:=by kernel_rfl
theorem ZlC:cal Tryz.prog 192=true:=by kernel_rfl
theorem Zcr:cal Tryz.prog 195=true:=by kernel_rfl
theorem ZcQ:ZG Tryz.prog 102 0=some 0:=by kernel_rfl
theorem ZcR:ZG Tryz.prog 102 1=some 1:=by kernel_rfl
theorem Z6L:ZG Tryz.prog 102 2=some 2:=by kernel_rfl
theorem Zd1:ZG Tryz.prog 62 0=some 0:=by kernel_rfl
theorem Za9:ZG Tryz.prog 62 1=some 1:=by kernel_rfl
theorem Zd5:ZG Tryz.prog 83 0=some 0:=by kernel_rfl
theorem Zd6:ZG Tryz.prog 83 1=some 1:=by kernel_rfl
theorem Zd7:ZG Tryz.prog 83 2=some 2:=by kernel_rfl
theorem Z5Z:ZG Tryz.prog 83 3=some 3:=by kernel_rfl
theorem Z1G:Z0c Tryz.prog 100=true:=by kernel_rfl
theorem Zfc (y:Yrd) (a1 a2 a3:Option Addr) (k1 k2 k3:Nat) (hn:y.bins.length≤4) (b3:Nat) (q:Int) (hq : -1≤q∧q<y.bins.length) (H:Z6) (R:Z5) [hN:Mem1 b3 (cel 100 [.func (.func 130) #[(y.v a1 a2 a3 k1 k2 k3)] #[]]) H] :
    FnV Tryz.prog 181 [.int .i64 q,.pointer (some ⟨b3,0,none⟩)] H R (.bool true):=by
 refine Zc Tryz.func181 rfl Tryz.ntmps181 rfl ?_
 refine sqt 1 rfl (pur 1 rfl (sqt 8 rfl (pur 3 rfl ?_)))
 refine Zq 6 rfl ?_ ?_<;>intro g6
 refine pur 5 rfl (Z4 ?_)
 exact rtA rfl rfl rfl ⟨rfl,rfl,rfl⟩ drp
 have h9:q ≠ -1:=by simpa using g6
 refine Z0e rfl rfl rfl rfl rfl (lh Z1G rfl rfl) rfl (pur 1 rfl ?_)
 refine ZaZ rfl rfl rfl rfl rfl (ZgP) rfl rfl (Z5K y a1 a2 a3 k1 k2 k3 q (by omega) hn _ _) ?_
 refine pur 2 rfl (Z4 ?_)
 exact rtA rfl rfl rfl ⟨rfl,rfl,rfl⟩ drp
theorem Zii (x:SBin) (hx:(0≤x.holds∧x.holds≤300)∧x.fst.ok) (H:Z6) (R:Z5) :
    FnV Tryz.prog 184 [.agg (bnrow x).toArray] H R (.bool true):=by
 refine Zc Tryz.func184 rfl Tryz.ntmps184 rfl ?_
 refine sqt 2 rfl (bx rfl rfl rfl (fun b1=>pur 1 rfl (sqt 9 rfl (sp rfl (PE.fA Zd1 rfl) rfl (spL rfl rfl (lh (v:=.int .i64 x.holds) sc3 rfl rfl) rfl ?_)))))
 refine clV rfl Z4d rfl rfl (Z3O _ _ _ (by omega) _ _) ?_
 refine pur 1 rfl ?_
 refine Zq 6 rfl ?_ ?_<;>intro g6
 refine spG rfl rfl rfl rfl (PE.fA Za9 rfl) rfl ?_
 refine Z0e rfl rfl rfl rfl rfl (lhA [.int .i64 x.fst.lo,.int .i64 x.fst.hi] Z2R rfl rfl rfl) rfl ?_
 refine Z6x rfl rfl rfl rfl Zcp rfl rfl (Z4S x.fst hx.2 _ _) ?_
 refine pur 2 rfl (Z4 ?_)
 exact rtA rfl rfl rfl ⟨rfl,rfl,rfl⟩ drp
 exact absurd g6 (by simp)
theorem Zij (x:SMov) (hx:x.s.ok) (H:Z6) (R:Z5) :
    FnV Tryz.prog 187 [.agg (mvrow x).toArray] H R (.bool true):=by
 refine Zc Tryz.func187 rfl Tryz.ntmps187 rfl ?_
 refine sqt 2 rfl (bx rfl rfl rfl (fun b1=>pur 1 rfl (sqt 4 rfl (sp rfl (PE.fA Z5Z rfl) rfl (spL rfl rfl (lhA [.int .i64 x.s.lo,.int .i64 x.s.hi] Z2R rfl rfl rfl) rfl ?_)))))
 refine clV rfl Zcp rfl rfl (Z4S x.s hx _ _) ?_
 refine pur 1 rfl (Z4 ?_)
 exact rtA rfl rfl rfl ⟨rfl,rfl,rfl⟩ drp
theorem ZoB (x:SLev) (hx:x.s.ok) (H:Z6) (R:Z5) :
    FnV Tryz.prog 189 [.agg (Z3r x).toArray] H R (.bool true):=by
 refine Zc Tryz.func189 rfl Tryz.ntmps189 rfl ?_
 refine sqt 2 rfl (bx rfl rfl rfl (fun b1=>pur 1 rfl (sqt 4 rfl (sp rfl (PE.fA Z6L rfl) rfl (spL rfl rfl (lhA [.int .i64 x.s.lo,.int .i64 x.s.hi] Z2R rfl rfl rfl) rfl ?_)))))
 refine clV rfl Zcp rfl rfl (Z4S x.s hx _ _) ?_
 refine pur 1 rfl (Z4 ?_)
 exact rtA rfl rfl rfl ⟨rfl,rfl,rfl⟩ drp
theorem ZoE (x:SMov) (hx:x.fr≠x.to) (H:Z6) (R:Z5) :
    FnV Tryz.prog 193 [.agg (mvrow x).toArray] H R (.bool true):=by
 refine Zc Tryz.func193 rfl Tryz.ntmps193 rfl ?_
 refine sqt 2 rfl (bx rfl rfl rfl (fun b1=>pur 1 rfl (sqt 6 rfl (sp rfl (PE.fA Zd6 rfl) rfl (spL rfl rfl (lh sc3 rfl rfl) rfl (sp rfl (PE.fA Zd7 rfl) rfl (spL rfl rfl (lh sc3 rfl rfl) rfl (pur 2 rfl (Z4 ?_)))))))))
 exact rtA rfl rfl rfl ⟨by simp only [ZC];congr 1;simpa using hx,rfl,rfl⟩ drp
theorem ZoF (x:SBin) (hx:x.fst.ok) (H:Z6) (R:Z5) :
    FnV Tryz.prog 194 [.agg (bnrow x).toArray] H R (.bool true):=by
 refine Zc Tryz.func194 rfl Tryz.ntmps194 rfl ?_
 refine sqt 2 rfl (bx rfl rfl rfl (fun b1=>pur 1 rfl (sqt 4 rfl (sp rfl (PE.fA Za9 rfl) rfl (spL rfl rfl (lhA [.int .i64 x.fst.lo,.int .i64 x.fst.hi] Z2R rfl rfl rfl) rfl ?_)))))
 refine clV rfl Zcr rfl rfl (Z6r x.fst hx _ _) ?_
 refine pur 1 rfl (Z4 ?_)
 exact rtA rfl rfl rfl ⟨rfl,rfl,rfl⟩ drp
theorem ZoG (x:SMov) (hx:x.s.ok) (H:Z6) (R:Z5) :
    FnV Tryz.prog 196 [.agg (mvrow x).toArray] H R (.bool true):=by
 refine Zc Tryz.func196 rfl Tryz.ntmps196 rfl ?_
 refine sqt 2 rfl (bx rfl rfl rfl (fun b1=>pur 1 rfl (sqt 4 rfl (sp rfl (PE.fA Z5Z rfl) rfl (spL rfl rfl (lhA [.int .i64 x.s.lo,.int .i64 x.s.hi] Z2R rfl rfl rfl) rfl ?_)))))
 refine clV rfl Zcr rfl rfl (Z6r x.s hx _ _) ?_
 refine pur 1 rfl (Z4 ?_)
 exact rtA rfl rfl rfl ⟨rfl,rfl,rfl⟩ drp
theorem Zkv (x:SLev) (hx:x.s.ok) (H:Z6) (R:Z5) :
    FnV Tryz.prog 197 [.agg (Z3r x).toArray] H R (.bool true):=by
 refine Zc Tryz.func197 rfl Tryz.ntmps197 rfl ?_
 refine sqt 2 rfl (bx rfl rfl rfl (fun b1=>pur 1 rfl (sqt 4 rfl (sp rfl (PE.fA Z6L rfl) rfl (spL rfl rfl (lhA [.int .i64 x.s.lo,.int .i64 x.s.hi] Z2R rfl rfl rfl) rfl ?_)))))
 refine clV rfl Zcr rfl rfl (Z6r x.s hx _ _) ?_
 refine pur 1 rfl (Z4 ?_)
 exact rtA rfl rfl rfl ⟨rfl,rfl,rfl⟩ drp
theorem ZoC (y:Yrd) (a1 a2 a3:Option Addr) (k1 k2 k3:Nat) (hn:y.bins.length≤4) (hd:y.days≤5) (b1 bf3 b4:Nat) (x:SMov) (hx:(0≤x.day∧x.day<y.days)∧(-1≤x.fr∧x.fr<y.bins.length)∧(-1≤x.to∧x.to<y.bins.length)) (H:Z6) (R:Z5) [hM:Mem1 b1 (cel 60 (ydl y a1 a2 a3 k1 k2 k3)) H] [hN3:Mem1 bf3 (cel 100 [.func (.func 130) #[(y.v a1 a2 a3 k1 k2 k3)] #[]]) H] [hN:Mem1 b4 (cel 100 [.func (.func 181) ([]:List Value).toArray ([.pointer (some ⟨bf3,0,none⟩)]:List Value).toArray]) H] :
    FnV Tryz.prog 190 [.agg (mvrow x).toArray,.pointer (some ⟨b1,0,none⟩),.pointer (some ⟨b4,0,none⟩)] H R (.bool true):=by
 refine Zc Tryz.func190 rfl Tryz.ntmps190 rfl ?_
 refine sqt 2 rfl (bx rfl rfl rfl (fun b3=>pur 1 rfl (sqt 19 rfl (sp rfl (PE.fA Zd5 rfl) rfl (spL rfl rfl (lh (v:=.int .i64 x.day) sc3 rfl rfl) rfl (sp rfl (PE.fA Z0T rfl) rfl (spL rfl rfl (lh (v:=.int .i64 (y.days:Int)) sc3 rfl rfl) rfl (sp rfl (PE.sub rfl rfl (by omega)) rfl ?_))))))))
 refine clV rfl Z4d rfl rfl (Z3O _ _ _ (by omega) _ _) ?_
 refine pur 1 rfl ?_
 refine Zq 11 rfl ?_ ?_<;>intro g11
 refine Z0e rfl rfl rfl rfl rfl (lh Z1G rfl rfl) rfl ?_
 refine spG rfl rfl rfl rfl (PE.fA Zd6 rfl) rfl ?_
 refine Z0e rfl rfl rfl rfl rfl (lh (v:=.int .i64 x.fr) sc3 rfl rfl) rfl ?_
 refine ZaZ rfl rfl rfl rfl rfl (ZgU) rfl rfl (Zfc y a1 a2 a3 k1 k2 k3 hn bf3 x.fr (by omega) _ _) ?_
 refine pur 2 rfl ?_
 refine Zq 17 rfl ?_ ?_<;>intro g17
 refine Z0e rfl rfl rfl rfl rfl (lh Z1G rfl rfl) rfl ?_
 refine spG rfl rfl rfl rfl (PE.fA Zd7 rfl) rfl ?_
 refine Z0e rfl rfl rfl rfl rfl (lh (v:=.int .i64 x.to) sc3 rfl rfl) rfl ?_
 refine ZaZ rfl rfl rfl rfl rfl (ZgU) rfl rfl (Zfc y a1 a2 a3 k1 k2 k3 hn bf3 x.to (by omega) _ _) ?_
 refine pur 2 rfl (Z4 ?_)
 exact rtA rfl rfl rfl ⟨rfl,rfl,rfl⟩ drp
 exact absurd g17 (by simp)
 exact absurd g11 (by simp)
theorem ZoD (y:Yrd) (a1 a2 a3:Option Addr) (k1 k2 k3:Nat) (hn:y.bins.length≤4) (b1 bf3:Nat) (x:SLev) (hx:(0≤x.day∧x.day≤y.days)∧(0≤x.bin∧x.bin<y.bins.length)) (H:Z6) (R:Z5) [hM:Mem1 b1 (cel 60 (ydl y a1 a2 a3 k1 k2 k3)) H] [hN:Mem1 bf3 (cel 100 [.func (.func 130) #[(y.v a1 a2 a3 k1 k2 k3)] #[]]) H] :
    FnV Tryz.prog 191 [.agg (Z3r x).toArray,.pointer (some ⟨b1,0,none⟩),.pointer (some ⟨bf3,0,none⟩)] H R (.bool true):=by
 refine Zc Tryz.func191 rfl Tryz.ntmps191 rfl ?_
 refine sqt 2 rfl (bx rfl rfl rfl (fun b3=>pur 1 rfl (sqt 11 rfl (spL rfl rfl (lhA (ydl y a1 a2 a3 k1 k2 k3) ZeN rfl rfl rfl) rfl (sp rfl (PE.fA ZcQ rfl) rfl (spL rfl rfl (lh (v:=.int .i64 x.day) sc3 rfl rfl) rfl ?_))))))
 refine clV rfl ZlC rfl rfl (ZkM y a1 a2 a3 k1 k2 k3 x.day (by omega) _ _) ?_
 refine pur 1 rfl ?_
 refine Zq 9 rfl ?_ ?_<;>intro g9
 refine Z0e rfl rfl rfl rfl rfl (lh Z1G rfl rfl) rfl ?_
 refine spG rfl rfl rfl rfl (PE.fA ZcR rfl) rfl ?_
 refine Z0e rfl rfl rfl rfl rfl (lh (v:=.int .i64 x.bin) sc3 rfl rfl) rfl ?_
 refine ZaZ rfl rfl rfl rfl rfl (ZgP) rfl rfl (Z5K y a1 a2 a3 k1 k2 k3 x.bin (by omega) hn _ _) ?_
 refine pur 2 rfl (Z4 ?_)
 exact rtA rfl rfl rfl ⟨rfl,rfl,rfl⟩ drp
 exact absurd g9 (by simp)
theorem ZgV:cal Tryz.prog 183=true:=by kernel_rfl
theorem Zlx:cal Tryz.prog 184=true:=by kernel_rfl
theorem Z9J:cal Tryz.prog 186=true:=by kernel_rfl
theorem Zly:cal Tryz.prog 187=true:=by kernel_rfl
theorem Zcq:cal Tryz.prog 188=true:=by kernel_rfl
theorem Zlz:cal Tryz.prog 189=true:=by kernel_rfl
theorem ZlA:cal Tryz.prog 190=true:=by kernel_rfl
theorem ZlB:cal Tryz.prog 191=true:=by kernel_rfl
theorem ZlD:cal Tryz.prog 193=true:=by kernel_rfl
theorem ZlE:cal Tryz.prog 194=true:=by kernel_rfl
theorem ZlF:cal Tryz.prog 196=true:=by kernel_rfl
theorem ZlG:cal Tryz.prog 197=true:=by kernel_rfl
theorem Zfy:Zz Tryz.prog 100=some 1:=by kernel_rfl
theorem Z2l:ZG Tryz.prog 60 2=some 2:=by kernel_rfl
theorem Z7Z:ZG Tryz.prog 60 3=some 3:=by kernel_rfl
theorem Zgn:Z0c Tryz.prog 57=true:=by kernel_rfl
theorem ZnJ:Z0c Tryz.prog 58=true:=by kernel_rfl
theorem Zgw:Zp Tryz.prog 100=some ([.nilFunc]):=by kernel_rfl
set_option maxHeartbeats 600000 in
theorem Z1K (y:Yrd) (a1 a2 a3:Option Addr) (k1 k2 k3:Nat) (hy:y.ok) (H:Z6) (R:Z5) [hR1:MemRows a1 3 (bnrows y.bins) R] [hR2:MemRows a2 5 (mvrows y.moves) R] [hR3:MemRows a3 4 (lvrows y.levels) R] :
    FnV Tryz.prog 113 [(y.v a1 a2 a3 k1 k2 k3)] H R (.int .i64 0):=by
 have hd:=hy.days
 have hb:=hy.bins
 have hm:=hy.nm
 have hv:=hy.nl
 refine Zc Tryz.func113 rfl Tryz.ntmps113 rfl ?_
 refine sqt 2 rfl (bx rfl rfl rfl (fun b1=>pur 1 rfl (sqt 4 rfl (spL rfl rfl (lhA (ydl y a1 a2 a3 k1 k2 k3) ZeN rfl rfl rfl) rfl (sp rfl (PE.makeFunc rfl rfl) rfl (alc rfl Zgw rfl (fun b3=>?_)))))))
 refine sto rfl rfl rfl Zfy rfl rfl rfl rfl ?_
 refine sqt 3 rfl (sp rfl (PE.makeFunc rfl rfl) rfl (alc rfl Zgw rfl (fun b4=>?_)))
 refine sto rfl rfl rfl Zfy rfl rfl rfl rfl ?_
 refine Z0 (Z2 (sqt 24 rfl (sp rfl (PE.fA Z0T rfl) rfl (spL rfl rfl (lh (v:=.int .i64 (y.days:Int)) sc3 rfl rfl) rfl ?_))))
 refine clV rfl Z4d rfl rfl (Z3O _ _ _ (by omega) _ _) ?_
 refine pur 2 rfl ?_
 refine Zq 13 rfl ?_ ?_<;>intro g13
 exact absurd g13 (by simp)
 refine spG rfl rfl rfl rfl (PE.fA Z24 rfl) rfl ?_
 refine Z0e rfl rfl rfl rfl rfl (lh Zec rfl rfl) rfl ?_
 refine spG rfl rfl rfl rfl (PE.lenSl Z86 rfl) rfl ?_
 refine Z6x rfl rfl rfl rfl Z4d rfl rfl (Z3O _ _ _ (by omega) _ _) ?_
 refine pur 3 rfl ?_
 refine Zq 20 rfl ?_ ?_<;>intro g20
 exact absurd g20 (by simp)
 refine spG rfl rfl rfl rfl (PE.fA Z2l rfl) rfl ?_
 refine Z0e rfl rfl rfl rfl rfl (lh Zgn rfl rfl) rfl ?_
 refine spG rfl rfl rfl rfl (PE.lenSl Zj6 rfl) rfl ?_
 refine pur 3 rfl ?_
 refine Zq 26 rfl ?_ ?_<;>intro g26
 exact absurd g26 (by simp;omega)
 refine spG rfl rfl rfl rfl (PE.fA Z7Z rfl) rfl ?_
 refine Z0e rfl rfl rfl rfl rfl (lh ZnJ rfl rfl) rfl ?_
 refine spG rfl rfl rfl rfl (PE.lenSl Zj7 rfl) rfl ?_
 refine pur 3 rfl ?_
 refine Z1 rfl ?_ ?_<;>intro hc0
 exact absurd hc0 (by simp;omega)
 refine sqt 5 rfl (sp rfl (PE.fA Z24 rfl) rfl (spL rfl rfl (lh Zec rfl rfl) rfl ?_))
 refine cl rfl ZgV rfl rfl (Z15 y.bins a1 k1 184 [] [] (fun _=>true) Zlx (by omega) _ _ (fun b9 b8 x hx=>Zii x (hy.bin x hx) _ _)) ?_
 rintro _ _ R1 ⟨rfl,rfl,hR1⟩
 obtain rfl:=hR1.symm
 clear hR1
 rw [show (y.bins.all fun _=>true)=true by simp]
 refine pur 2 rfl ?_
 refine Z1 rfl ?_ ?_<;>intro hc1
 exact absurd hc1 (by simp)
 refine sqt 11 rfl (sp rfl (PE.fA Z2l rfl) rfl (spL rfl rfl (lh Zgn rfl rfl) rfl ?_))
 refine cl rfl Z9J rfl rfl (Z1M y.moves a2 k2 187 [] [] (fun _=>true) Zly (by omega) _ _ (fun b9 b8 x hx=>Zij x (hy.mov x hx).2.2.2.2 _ _)) ?_
 rintro _ _ R1 ⟨rfl,rfl,hR1⟩
 obtain rfl:=hR1.symm
 clear hR1
 rw [show (y.moves.all fun _=>true)=true by simp]
 refine pur 2 rfl ?_
 refine Zq 42 rfl ?_ ?_<;>intro g42
 exact absurd g42 (by simp)
 refine spG rfl rfl rfl rfl (PE.fA Z7Z rfl) rfl ?_
 refine Z0e rfl rfl rfl rfl rfl (lh ZnJ rfl rfl) rfl ?_
 refine clG rfl rfl rfl rfl Zcq rfl rfl (Z31 y.levels a3 k3 189 [] [] (fun _=>true) Zlz (by omega) _ _ (fun b9 b8 x hx=>ZoB x (hy.lev x hx).2.2 _ _)) ?_
 rintro _ _ R1 ⟨rfl,rfl,hR1⟩
 obtain rfl:=hR1.symm
 clear hR1
 rw [show (y.levels.all fun _=>true)=true by simp]
 refine pur 3 rfl ?_
 refine Z1 rfl ?_ ?_<;>intro hc2
 exact absurd hc2 (by simp)
 refine sqt 6 rfl (sp rfl (PE.fA Z2l rfl) rfl (spL rfl rfl (lh Zgn rfl rfl) rfl (sp rfl (PE.makeFunc rfl rfl) rfl ?_)))
 refine cl rfl Z9J rfl rfl (Z1M y.moves a2 k2 190 [] [.pointer (some ⟨b1,0,none⟩),.pointer (some ⟨b4,0,none⟩)] (fun _=>true) ZlA (by omega) _ _ (fun b9 b8 x hx=>ZoC y a1 a2 a3 k1 k2 k3 hb.2 hd.2 b1 b3 b4 x ⟨(hy.mov x hx).1,(hy.mov x hx).2.1,(hy.mov x hx).2.2.1⟩ _ _)) ?_
 rintro _ _ R1 ⟨rfl,rfl,hR1⟩
 obtain rfl:=hR1.symm
 clear hR1
 rw [show (y.moves.all fun _=>true)=true by simp]
 refine pur 2 rfl ?_
 refine Z1 rfl ?_ ?_<;>intro hc3
 exact absurd hc3 (by simp)
 refine sqt 6 rfl (sp rfl (PE.fA Z7Z rfl) rfl (spL rfl rfl (lh ZnJ rfl rfl) rfl (sp rfl (PE.makeFunc rfl rfl) rfl ?_)))
 refine cl rfl Zcq rfl rfl (Z31 y.levels a3 k3 191 [] [.pointer (some ⟨b1,0,none⟩),.pointer (some ⟨b3,0,none⟩)] (fun _=>true) ZlB (by omega) _ _ (fun b9 b8 x hx=>ZoD y a1 a2 a3 k1 k2 k3 hb.2 b1 b3 x ⟨(hy.lev x hx).1,(hy.lev x hx).2.1⟩ _ _)) ?_
 rintro _ _ R1 ⟨rfl,rfl,hR1⟩
 obtain rfl:=hR1.symm
 clear hR1
 rw [show (y.levels.all fun _=>true)=true by simp]
 refine pur 2 rfl ?_
 refine Z1 rfl ?_ ?_<;>intro hc4
 exact absurd hc4 (by simp)
 refine sqt 5 rfl (sp rfl (PE.fA Z2l rfl) rfl (spL rfl rfl (lh Zgn rfl rfl) rfl ?_))
 refine cl rfl Z9J rfl rfl (Z1M y.moves a2 k2 193 [] [] (fun _=>true) ZlD (by omega) _ _ (fun b9 b8 x hx=>ZoE x (hy.mov x hx).2.2.2.1 _ _)) ?_
 rintro _ _ R1 ⟨rfl,rfl,hR1⟩
 obtain rfl:=hR1.symm
 clear hR1
 rw [show (y.moves.all fun _=>true)=true by simp]
 refine pur 2 rfl ?_
 refine Z1 rfl ?_ ?_<;>intro hc5
 exact absurd hc5 (by simp)
 refine sqt 17 rfl (sp rfl (PE.fA Z24 rfl) rfl (spL rfl rfl (lh Zec rfl rfl) rfl ?_))
 refine cl rfl ZgV rfl rfl (Z15 y.bins a1 k1 194 [] [] (fun _=>true) ZlE (by omega) _ _ (fun b9 b8 x hx=>ZoF x (hy.bin x hx).2 _ _)) ?_
 rintro _ _ R1 ⟨rfl,rfl,hR1⟩
 obtain rfl:=hR1.symm
 clear hR1
 rw [show (y.bins.all fun _=>true)=true by simp]
 refine pur 2 rfl ?_
 refine Zq 70 rfl ?_ ?_<;>intro g70
 exact absurd g70 (by simp)
 refine spG rfl rfl rfl rfl (PE.fA Z2l rfl) rfl ?_
 refine Z0e rfl rfl rfl rfl rfl (lh Zgn rfl rfl) rfl ?_
 refine clG rfl rfl rfl rfl Z9J rfl rfl (Z1M y.moves a2 k2 196 [] [] (fun _=>true) ZlF (by omega) _ _ (fun b9 b8 x hx=>ZoG x (hy.mov x hx).2.2.2.2 _ _)) ?_
 rintro _ _ R1 ⟨rfl,rfl,hR1⟩
 obtain rfl:=hR1.symm
 clear hR1
 rw [show (y.moves.all fun _=>true)=true by simp]
 refine pur 3 rfl ?_
 refine Zq 76 rfl ?_ ?_<;>intro g76
 exact absurd g76 (by simp)
 refine spG rfl rfl rfl rfl (PE.fA Z7Z rfl) rfl ?_
 refine Z0e rfl rfl rfl rfl rfl (lh ZnJ rfl rfl) rfl ?_
 refine clG rfl rfl rfl rfl Zcq rfl rfl (Z31 y.levels a3 k3 197 [] [] (fun _=>true) ZlG (by omega) _ _ (fun b9 b8 x hx=>Zkv x (hy.lev x hx).2.2 _ _)) ?_
 rintro _ _ R1 ⟨rfl,rfl,hR1⟩
 obtain rfl:=hR1.symm
 clear hR1
 rw [show (y.levels.all fun _=>true)=true by simp]
 refine pur 3 rfl ?_
 refine Z1 rfl ?_ ?_<;>intro hc6
 exact absurd hc6 (by simp)
 refine Z3 (sqt 1 rfl (pur 1 rfl (Z4 ?_)))
 exact rtA rfl rfl rfl ⟨rfl,rfl,rfl⟩ (fun w h=>((h.del b4).del b3).del b1)
theorem ZhP:Z0W Tryz.prog 231=some 8:=by kernel_rfl
theorem Zki:arN Tryz.prog 231=some (8,1):=by kernel_rfl
theorem Z4e:cal Tryz.prog 250=true:=by kernel_rfl
theorem Zpj:Zz Tryz.prog 231=some 8:=by kernel_rfl
theorem Z8P:Zz Tryz.prog 307=some 4:=by kernel_rfl
theorem cn4:Zz Tryz.prog 4=some 1:=by kernel_rfl
theorem Z0D:elN Tryz.prog 23=some 1:=by kernel_rfl
theorem ZcV:ZG Tryz.prog 235 0=some 0:=by kernel_rfl
theorem ZiZ:ZG Tryz.prog 235 1=some 1:=by kernel_rfl
theorem Z1U:ZG Tryz.prog 238 0=some 0:=by kernel_rfl
theorem Z1u:ZG Tryz.prog 238 1=some 4:=by kernel_rfl
theorem Z0E:ZG Tryz.prog 238 2=some 5:=by kernel_rfl
theorem Z3R:ZG Tryz.prog 307 0=some 0:=by kernel_rfl
theorem Z3S:ZG Tryz.prog 307 1=some 1:=by kernel_rfl
theorem Z35:ZG Tryz.prog 307 2=some 2:=by kernel_rfl
theorem Z3T:ZG Tryz.prog 307 3=some 3:=by kernel_rfl
theorem Z2k:ZG Tryz.prog 312 0=some 0:=by kernel_rfl
theorem Z6Q:ZG Tryz.prog 312 1=some 1:=by kernel_rfl
theorem ZO:Z2o Tryz.prog 23=true:=by kernel_rfl
theorem Z2w:Z0c Tryz.prog 23=true:=by kernel_rfl
theorem Z4s:Z0c Tryz.prog 236=true:=by kernel_rfl
theorem sc4:Z0c Tryz.prog 4=true:=by kernel_rfl
theorem ub4:Tryz.prog.underlying 4=some .bool:=by kernel_rfl
theorem Zo4:Zp Tryz.prog 231=some ([.bool false,.bool false,.bool false,.bool false,.bool false,.bool false,.bool false,.bool false]):=by kernel_rfl
theorem Z4a:Zp Tryz.prog 307=some ([.int .i64 0,.int .i64 0,.int .i64 0,.int .i64 0]):=by kernel_rfl
def DKp (b:Nat) (l:List Value) (H:Z6) (R:Z5):Prop:=∀ w,St H R w→∀ j v,l[j]?=some v→w.cell? ⟨b,j,none⟩=some v
theorem DKp.t {b:Nat} {l:List Value} {H:Z6} {R:Z5} {p:Nat×Obj} (h:DKp b l H R):DKp b l (p::H) R:=fun w hs=>h w hs.tail
theorem DKp.fact {b sz:Nat} {l x row:List Value} {H:Z6} {R:Z5} [m:MemRows (some ⟨b,0,none⟩) sz [row] R] (e:row=l++x):DKp b l H R:=fun w hs j v hv=>by
 have h1:=Z1c (hs.now m.mem) (i:=0) (row:=row) rfl (j:=j) (x:=v) (by rw [e,List.getElem?_append_left (List.getElem?_eq_some_iff.1 hv).1];exact hv)
 simpa using h1
theorem DKp.held {b e:Nat} {l x:List Value} {H:Z6} {R:Z5} [m:Mem1 b (cel e (l++x)) H]:DKp b l H R:=fun w hs j v hv=>by
 rw [Z16 (hs.held _ m.mem)]
 simp only [List.getElem?_toArray]
 rw [List.getElem?_append_left (List.getElem?_eq_some_iff.1 hv).1];exact hv
theorem lDK {P:Program} {T b j:Nat} {l:List Value} {x:Value} {H:Z6} {R:Z5} (h:DKp b l H R) (hT:Z0c P T=true) (hx:l[j]?=some x):∀ w,St H R w→Ld P T ⟨b,j,none⟩ x w:=fun w hs=>Z4O hT (h w hs _ _ hx)
structure DD where
 y:Yrd
 a1:Option Addr
 a2:Option Addr
 a3:Option Addr
 k1:Nat
 k2:Nat
 k3:Nat
 fb:Nat
 cf:Nat
 bd:Nat
 ba:Nat
 ca:Nat
 J:List Value
def DD.l (d:DD):List Value:=ydl d.y d.a1 d.a2 d.a3 d.k1 d.k2 d.k3++[.slice (some ⟨d.fb,0,none⟩) d.y.flows.length d.cf,.slice (some ⟨d.ba,0,none⟩) d.y.flows.length d.ca]
def wyr (w:Wy):List Value:=[.int .i64 (w.i:Int),.bool w.more]
def wyv (w:Wy):Value:=.agg (wyr w).toArray
abbrev Zr (l:List Wy):List (List Value):=l.map wyr
theorem Z61 {l:List Fl} {k:Nat} {f:Fl} (h:l[k]?=some f):(ZN l)[k]?=some (Z0d f):=by simp [ZN,h]
theorem frl (l:List Fl):(ZN l).length=l.length:=List.length_map _
theorem Z4b {l:List SBin} {k:Nat} {f:SBin} (h:l[k]?=some f):(bnrows l)[k]?=some (bnrow f):=by simp [bnrows,h]
theorem Zht {l:List SMov} {k:Nat} {f:SMov} (h:l[k]?=some f):(mvrows l)[k]?=some (mvrow f):=by simp [mvrows,h]
theorem Zhp {l:List SLev} {k:Nat} {f:SLev} (h:l[k]?=some f):(lvrows l)[k]?=some (Z3r f):=by simp [lvrows,h]
theorem Z28 {l:List Wy} {k:Nat} {f:Wy} (h:l[k]?=some f):(Zr l)[k]?=some (wyr f):=by simp [Zr,h]
theorem Z0v {l:List Int} {k:Nat} (h:k<l.length):l[k]?=some (na l k):=by
 unfold na;rw [List.getD_eq_getElem?_getD,List.getElem?_eq_getElem h];rfl
theorem Z94 {l:List Int} {k:Nat} {x:Int} (h:l[k]?=some x):na l k=x:=by
 unfold na;rw [List.getD_eq_getElem?_getD,h];rfl
theorem Z26 {A:List Int} {J:List Value} {k i:Nat} (hk:k<A.length) (e:i=k):(Ze A++J)[i]?=some (.int .i64 (na A k)):=by
 subst e;rw [List.getElem?_append_left (by rw [ints_length];exact hk)];exact Z0u (Z0v hk)
theorem ZdL {l:List Int} {k:Nat} (h:l.length≤k):na l k=0:=by
 unfold na;rw [List.getD_eq_getElem?_getD,List.getElem?_eq_none h];rfl
structure AOk (F:List Fl) (A:List Int):Prop where
 len:A.length=F.length
 bnd:∀ i,0≤na A i∧na A i≤300
theorem Zhn {b t:Nat}:∀ (ls:List SLev) (f:Fl),(∀ l∈ls,l.s.ok)→(0≤f.lo∧f.lo≤300)∧0≤f.hi∧f.hi≤300→(0≤(ls.foldl (Z1i b t) f).lo∧(ls.foldl (Z1i b t) f).lo≤300)∧0≤(ls.foldl (Z1i b t) f).hi∧(ls.foldl (Z1i b t) f).hi≤300
 | [],f,_,h=>h
 | l::ls,f,hl,h=>by
   rw [List.foldl_cons]
   refine Zhn ls _ (fun x hx=>hl x (by simp [hx])) ?_
   obtain ⟨h1,h2,h3⟩:=hl l (by simp)
   unfold Z1i
   cases decide (l.bin=(b:Int))&&decide (l.day=(t:Int))
   · exact h
   · simp only [cond_true];omega
theorem Z8C {y:Yrd} (hy:y.ok) {b:Nat} (hb:b<y.bins.length):((0≤(y.binD b).holds∧(y.binD b).holds≤300)∧(y.binD b).fst.ok)∧y.bins[b]?=some (y.binD b):=by
 have h:y.bins[b]?=some (y.binD b):=by unfold Yrd.binD;rw [List.getD_eq_getElem?_getD,List.getElem?_eq_getElem hb];rfl
 exact ⟨hy.bin _ (List.mem_of_getElem? h),h⟩
theorem Zi3 {y:Yrd} {b t:Nat} {x:SBin} (h:(0≤x.holds∧x.holds≤300)∧x.fst.ok):(0≤(y.base b t x).lo∧(y.base b t x).lo≤300)∧0≤(y.base b t x).hi∧(y.base b t x).hi≤300:=by
 obtain ⟨h1,h2,h3,h4⟩:=h
 unfold Yrd.base
 cases decide (0<t)<;>simp only [cond_true,cond_false]<;>omega
theorem Z6J {y:Yrd} (hy:y.ok):∀ f∈y.flows,(0≤f.lo∧f.lo≤300)∧0≤f.hi∧f.hi≤300:=fun f hf=>by
 obtain ⟨i,hi⟩:=List.mem_iff_getElem?.1 hf
 rcases Z1P hi with ⟨b,t,hb,ht,_,rfl⟩ | ⟨j,m,hm,_,rfl⟩
 · exact Zhn _ _ (fun l hl=>(hy.lev l hl).2.2) (Zi3 (Z8C hy hb).1)
 · obtain ⟨h1,h2,h3⟩:=(hy.mov m (List.mem_of_getElem? hm)).2.2.2.2
   unfold Yrd.movF;dsimp only;omega
theorem Z07 {y:Yrd} (hy:y.ok):2≤y.flows.length∧y.flows.length≤34:=by
 have h1:=hy.days;have h2:=hy.bins;have h3:=hy.nm
 have e:y.flows.length=y.bins.length*(y.days+1)+y.moves.length:=by unfold Yrd.flows;rw [List.length_append,ZT,List.length_map]
 have h4:y.bins.length*(y.days+1)≤4*6:=Nat.mul_le_mul h2.2 (by omega)
 have h5:1*2≤y.bins.length*(y.days+1):=Nat.mul_le_mul h2.1 (by omega)
 omega
theorem Z2H {y:Yrd} (hy:y.ok):1≤y.cells∧y.cells≤20:=by
 have h1:=hy.days;have h2:=hy.bins
 have h4:y.bins.length*y.days≤4*5:=Nat.mul_le_mul h2.2 (by omega)
 have h5:1*1≤y.bins.length*y.days:=Nat.mul_le_mul h2.1 (by omega)
 unfold Yrd.cells;omega
theorem Zcx (y:Yrd):(y.bins.length:Int)*(y.days:Int)=((y.cells:Nat):Int):=by unfold Yrd.cells;rw [Int.natCast_mul]
theorem Zhu {y:Yrd} (hy:y.ok) {b:Int} (h:0≤b∧b<y.bins.length):0≤b*(y.days:Int)∧b*(y.days:Int)≤20∧0≤b*((y.days:Int)+1)∧b*((y.days:Int)+1)≤24:=by
 have h1:=hy.days;have h2:=hy.bins
 have h3:b*(y.days:Int)≤4*5:=Int.mul_le_mul (by omega) (by omega) (by omega) (by omega)
 have h4:b*((y.days:Int)+1)≤4*6:=Int.mul_le_mul (by omega) (by omega) (by omega) (by omega)
 exact ⟨Int.mul_nonneg h.1 (by omega),by omega,Int.mul_nonneg h.1 (by omega),by omega⟩
theorem Zfw {y:Yrd} {b:Int} {t:Int} (hb:0≤b) (ht:0≤t):b*(y.days:Int)+t=((y.cell b t.toNat:Nat):Int):=by
 unfold Yrd.cell
 rw [decide_eq_false (by omega),cond_false,Int.natCast_add,Int.natCast_mul,Int.toNat_of_nonneg hb,Int.toNat_of_nonneg ht]
def wtl (S:Nat→Bool) (less:Bool) (i:Nat):Int:=bif S i then (bif less then -1 else 1) else 0
theorem Zgs (S:Nat→Bool) (less:Bool) (w:Wy):w.g (wtl S less)=bif S w.i then (bif (!(w.more == less)) then 1 else -1) else 0:=by
 unfold Wy.g Wy.s wtl
 cases S w.i<;>cases w.more<;>cases less<;>rfl
theorem Zq1 (S:Nat→Bool) (less:Bool) (w:Wy) : -1≤w.g (wtl S less)∧w.g (wtl S less)≤1:=by
 rw [Zgs];cases S w.i<;>cases (!(w.more == less))<;>decide
theorem ZmM {k i:Nat} (h:k<8) (e:i=k):spl (List.replicate k (Value.bool true)++List.replicate (8-k) (Value.bool false)) i [.bool true]=List.replicate (k+1) (Value.bool true)++List.replicate (8-(k+1)) (Value.bool false):=by
 subst e
 match i,h with
 | 0,_=>rfl
 | 1,_=>rfl
 | 2,_=>rfl
 | 3,_=>rfl
 | 4,_=>rfl
 | 5,_=>rfl
 | 6,_=>rfl
 | 7,_=>rfl
def Z84 (g:Nat) (vf vc:List Value) (less:Bool):List Value:=[.func (.func g) vf.toArray vc.toArray,.bool less]
theorem Z2g (y:Yrd) (a1 a2 a3:Option Addr) (k1 k2 k3:Nat) (hy:y.ok) (bd:Nat) (H:Z6) (R:Z5) (hK:DKp bd (ydl y a1 a2 a3 k1 k2 k3) H R) :
    FnV Tryz.prog 250 [.pointer (some ⟨bd,0,none⟩)] H R (.int .i64 (y.cells:Int)):=by
 have hm:=Zcx y
 have hc:=Z2H hy
 refine Zc Tryz.func250 rfl Tryz.ntmps250 rfl ?_
 refine sqt 1 rfl (pur 1 rfl (Z0 ?_))
 refine Za [0,1,3,7,15,31,0,64,192,448,960,2047,4095] (tks 0 4 (.ld 4 (tks 5 5 (.ld 10 (.tk 11 (.tk 12 .done)))))) Zl (by kernel_rfl) ?_
 refine Zg 1 rfl (tk rfl (PE.nilCheck rfl) rfl (tk rfl (PE.fA Z1U rfl) rfl (tk rfl (PE.fA Z24 rfl) rfl (ld rfl rfl (lDK hK Zec rfl) rfl (tk rfl (PE.lenSl Z86 rfl) rfl (Zg 1 rfl (tk rfl (PE.nilCheck rfl) rfl (tk rfl (PE.fA Z1U rfl) rfl (tk rfl (PE.fA Z0T rfl) rfl (ld rfl rfl (lDK hK sc3 rfl) rfl (tk rfl (PE.mul rfl rfl (by omega)) rfl (Zg 1 rfl (Z4 ?_)))))))))))))
 exact rtA rfl rfl rfl ⟨congrArg (Value.int .i64) hm,rfl,rfl⟩ drp
theorem Z9G (y:Yrd) (a1 a2 a3:Option Addr) (k1 k2 k3:Nat) (hy:y.ok) (bd:Nat) (b t:Int) (hb : -1≤b∧b<y.bins.length) (ht:0≤t∧t≤y.days) (H:Z6) (R:Z5) (hK:DKp bd (ydl y a1 a2 a3 k1 k2 k3) H R) :
    FnV Tryz.prog 251 [.pointer (some ⟨bd,0,none⟩),.int .i64 b,.int .i64 t] H R (.int .i64 ((y.cell b t.toNat:Nat):Int)):=by
 refine Zc Tryz.func251 rfl Tryz.ntmps251 rfl ?_
 refine sqt 1 rfl (pur 1 rfl (Z0 (sqt 2 rfl (pur 2 rfl ?_))))
 refine Z1 rfl ?_ ?_<;>intro hc0<;>try simp only [cS] at hc0
 refine sqt 3 rfl (pur 1 rfl ?_)
 refine clV rfl Z4e rfl rfl (Z2g y a1 a2 a3 k1 k2 k3 hy bd _ _ hK) ?_
 refine pur 1 rfl (Z4 ?_)
 exact rtA rfl rfl rfl ⟨by simp only [ZC];unfold Yrd.cell;rw [hc0];rfl,rfl,rfl⟩ drp
 have hmb:=Zhu hy (b:=b) (by omega)
 have hday:=hy.days
 refine Z3 (sqt 10 rfl (pur 2 rfl (sp rfl (PE.nilCheck rfl) rfl (sp rfl (PE.fA Z1U rfl) rfl (sp rfl (PE.fA Z0T rfl) rfl (spL rfl rfl (lDK hK sc3 rfl) rfl (sp rfl (PE.mul rfl rfl (by omega)) rfl (pur 1 rfl (sp rfl (PE.add rfl rfl (by omega)) rfl (pur 1 rfl (Z4 ?_)))))))))))
 exact rtA rfl rfl rfl ⟨congrArg (Value.int .i64) (Zfw (y:=y) (by omega) ht.1),rfl,rfl⟩ drp
theorem Zkz (y:Yrd) (a1 a2 a3:Option Addr) (k1 k2 k3:Nat) (hy:y.ok) (bd:Nat) (b t:Nat) (hb:b<y.bins.length) (ht:t≤y.days) (H:Z6) (R:Z5) (hK:DKp bd (ydl y a1 a2 a3 k1 k2 k3) H R) :
    FnV Tryz.prog 57 [.pointer (some ⟨bd,0,none⟩),.int .i64 (b:Int),.int .i64 (t:Int)] H R (.int .i64 ((b*(y.days+1)+t:Nat):Int)):=by
 have hmb:=Zhu hy (b:=(b:Int)) (by omega)
 have hday:=hy.days
 refine Zc Tryz.func57 rfl Tryz.ntmps57 rfl ?_
 refine sqt 1 rfl (pur 1 rfl (sqt 11 rfl (pur 2 rfl (sp rfl (PE.nilCheck rfl) rfl (sp rfl (PE.fA Z1U rfl) rfl (sp rfl (PE.fA Z0T rfl) rfl (spL rfl rfl (lDK hK sc3 rfl) rfl (sp rfl (PE.add rfl rfl (by omega)) rfl (sp rfl (PE.mul rfl rfl (by omega)) rfl (pur 1 rfl (sp rfl (PE.add rfl rfl (by omega)) rfl (pur 1 rfl (Z4 ?_)))))))))))))
 exact rtA rfl rfl rfl ⟨congrArg (Value.int .i64) (by rw [Int.natCast_add,Int.natCast_mul];rfl),rfl,rfl⟩ drp
theorem Z32 (n x:Int) (b c:Nat) (H:Z6) (R:Z5) [hM:Mem1 b (cel 3 [.int .i64 x]) H] :
    FnV Tryz.prog 202 [.int .i64 n,.slice (some ⟨b,0,none⟩) 1 c] H R (.int .i64 (min n x)):=by
 refine Zc Tryz.func202 rfl Tryz.ntmps202 rfl ?_
 refine sqt 1 rfl (pur 1 rfl (Z0 (sqt 3 rfl (pur 1 rfl (sp rfl (PE.lenSl ZO rfl) rfl (pur 1 rfl (Z2 ?_)))))))
 refine Zd (ι:={k:Nat // k≤1}) (fun k=>⟨[(0,.int .i64 (bif Nat.beq k.1 0 then n else min n x)),(7,.slice (some ⟨b,0,none⟩) 1 c),(8,.int .i64 1),(9,.int .i64 (k.1:Int))],H,R⟩) (fun k=>1-k.1) ⟨0,by decide⟩ ?_ (fun k=>?_)
 exact Zf idH
 obtain ⟨k,hk⟩:=k
 dsimp only
 refine sqt 1 rfl (pur 1 rfl (Z0 ?_))
 refine Z1 rfl ?_ ?_<;>intro hc0<;>try simp only [cS] at hc0
 obtain rfl:k=0:=by omega
 refine Z3 (Z0 (Z2 (sqt 3 rfl (sp rfl (PE.indexAddr Z0D rfl rfl (by decide) (by decide)) rfl (spL rfl rfl (lh sc3 rfl rfl) rfl (pur 1 rfl (sqr 4 rfl (pur 2 rfl (sp rfl (PE.min rfl rfl) rfl (pur 1 rfl (sqr 2 rfl (sp rfl (PE.add rfl rfl (by decide)) rfl (pur 1 rfl ?_)))))))))))))
 exact Zb ⟨1,by decide⟩ idH
 obtain rfl:k=1:=by omega
 refine Z7 (Z8 (Z8 (Zi (sqt 2 rfl (pur 2 rfl (Z4 ?_))))))
 exact rtA rfl rfl rfl ⟨rfl,rfl,rfl⟩ drp
theorem Zkr (H:Z6) (R:Z5) :
    FnV Tryz.prog 115 [] H R (.agg (List.replicate 8 (Value.bool true)).toArray):=by
 refine Zc Tryz.func115 rfl Tryz.ntmps115 rfl ?_
 refine sqt 1 rfl (alc rfl Zo4 rfl (fun b0=>sqt 1 rfl (alc rfl Zo4 rfl (fun b1=>Z0 (sqt 1 rfl (pur 1 rfl (Z2 ?_)))))))
 refine Zd (ι:={k:Nat // k≤8}) (fun k=>⟨[(0,.pointer (some ⟨b0,0,none⟩)),(1,.pointer (some ⟨b1,0,none⟩)),(3,.int .i64 (k.1:Int))],(b1,cel 231 (List.replicate k.1 (Value.bool true)++List.replicate (8-k.1) (Value.bool false)))::(b0,cel 231 (List.replicate 8 (Value.bool false)))::H,R⟩) (fun k=>8-k.1) ⟨0,by decide⟩ ?_ (fun k=>?_)
 exact Zf idH
 obtain ⟨k,hk⟩:=k
 dsimp only
 refine sqt 1 rfl (pur 1 rfl (Z0 ?_))
 refine Z1 rfl ?_ ?_<;>intro hc0<;>try simp only [cS] at hc0
 refine Z3 (Z0 (Z2 (sqt 2 rfl (pur 2 rfl (sqr 3 rfl (pur 1 rfl (sp rfl (PE.indexArr Zki rfl rfl (by omega) (by omega)) rfl ?_)))))))
 refine Zy (l':=List.replicate (k+1) (Value.bool true)++List.replicate (8-(k+1)) (Value.bool false)) rfl rfl rfl cn4 rfl rfl rfl (ZmM (k:=k) (by omega) (by show 0+((k:Nat):Int).toNat*1=_;omega)) (by rw [List.length_append,List.length_replicate,List.length_replicate];show 0+((k:Nat):Int).toNat*1+1≤_;omega) ?_
 refine sqr 2 rfl (sp rfl (PE.add rfl rfl (by omega)) rfl (pur 1 rfl ?_))
 exact Zb ⟨k+1,by omega⟩ idH
 obtain rfl:k=8:=by omega
 refine Z7 (Z8 (Z8 (Zi (sqt 2 rfl (spL rfl rfl (lhA (List.replicate 8 (Value.bool true)) ZhP rfl (rest:=[]) rfl rfl) rfl ?_)))))
 refine sto rfl rfl rfl Zpj rfl rfl rfl rfl ?_
 refine Z4 ?_
 exact Z9 (vs:=[_]) rfl (.cons (RV.cell rfl (lhA (List.replicate 8 (Value.bool true)) ZhP rfl (rest:=[]) rfl rfl)) .nil) rfl ⟨rfl,rfl,rfl⟩ (fun w h=>(h.del b1).del b0)
theorem Z6q (d:DD) (w9:Wy) (hw:w9.i<d.y.flows.length) (H:Z6) (R:Z5) [hD:MemRows (some ⟨d.bd,0,none⟩) 6 [d.l] R] [hF:MemRows (some ⟨d.fb,0,none⟩) 4 (ZN d.y.flows) R] :
    FnV Tryz.prog 257 [.pointer (some ⟨d.bd,0,none⟩),wyv w9] H R (.int .i64 (w9.fr d.y.flows:Int)):=by
 have hfg:=Z4h hw
 refine Zc Tryz.func257 rfl Tryz.ntmps257 rfl ?_
 refine sqt 2 rfl (bx rfl rfl rfl (fun b3=>pur 1 rfl (Z0 (sqt 2 rfl (sp rfl (PE.fA Z6Q rfl) rfl (spL rfl rfl (lh (v:=.bool w9.more) sc4 rfl rfl) rfl ?_))))))
 refine Z1 rfl ?_ ?_<;>intro hc0<;>try simp only [cS] at hc0
 refine Z0 ?_
 refine Za [0,1,3,7,0,16,63,127,255,511] (tks 0 3 (.ld 3 (.tk 4 (.ld 5 (.tk 6 (.tk 7 (.ld 8 (.tk 9 .done)))))))) Zl (by kernel_rfl) ?_
 refine Zg 1 rfl (tk rfl (PE.nilCheck rfl) rfl (tk rfl (PE.fA Z1u rfl) rfl (ld rfl rfl (lfB (sz:=6) Z4s rfl) rfl (tk rfl (PE.fA Z2k rfl) rfl (ld rfl rfl (lh (v:=.int .i64 (w9.i:Int)) sc3 rfl rfl) rfl (tk rfl (PE.indexAddr Zb3 rfl rfl (by omega) (by omega)) rfl (tk rfl (PE.fA Z3R rfl) rfl (ld rfl rfl (lf sc3 (Z61 hfg) rfl) rfl (Zg 1 rfl (Z4 ?_))))))))))
 exact rtA rfl rfl rfl ⟨by simp only [ZC];unfold Wy.fr;rw [hc0];rfl,rfl,rfl⟩ drp
 refine Z3 (Z0 ?_)
 refine Za [0,1,3,7,0,16,63,127,255,511] (tks 0 3 (.ld 3 (.tk 4 (.ld 5 (.tk 6 (.tk 7 (.ld 8 (.tk 9 .done)))))))) Zl (by kernel_rfl) ?_
 refine Zg 1 rfl (tk rfl (PE.nilCheck rfl) rfl (tk rfl (PE.fA Z1u rfl) rfl (ld rfl rfl (lfB (sz:=6) Z4s rfl) rfl (tk rfl (PE.fA Z2k rfl) rfl (ld rfl rfl (lh (v:=.int .i64 (w9.i:Int)) sc3 rfl rfl) rfl (tk rfl (PE.indexAddr Zb3 rfl rfl (by omega) (by omega)) rfl (tk rfl (PE.fA Z3S rfl) rfl (ld rfl rfl (lf sc3 (Z61 hfg) rfl) rfl (Zg 1 rfl (Z4 ?_))))))))))
 exact rtA rfl rfl rfl ⟨by simp only [ZC];unfold Wy.fr;rw [hc0];rfl,rfl,rfl⟩ drp
theorem Zfe (d:DD) (hy:d.y.ok) (w9:Wy) (hw:w9.i<d.y.flows.length) (A:List Int) (hA:AOk d.y.flows A) (H:Z6) (R:Z5) [hD:MemRows (some ⟨d.bd,0,none⟩) 6 [d.l] R] [hF:MemRows (some ⟨d.fb,0,none⟩) 4 (ZN d.y.flows) R] [hM:Mem1 d.ba (cel 3 (Ze A++d.J)) H] :
    FnV Tryz.prog 201 [.pointer (some ⟨d.bd,0,none⟩),wyv w9] H R (.tuple #[.int .i64 (w9.to d.y.flows:Int),.int .i64 (w9.res d.y.flows A)]):=by
 have hfg:=Z4h hw
 have hab:=hA.bnd w9.i
 have hfb:=Z6J hy _ (List.mem_of_getElem? hfg)
 refine Zc Tryz.func201 rfl Tryz.ntmps201 rfl ?_
 refine sqt 3 rfl (bx rfl rfl rfl (fun b3=>pur 2 rfl (Z0 ?_)))
 refine Za [0,1,3,7,0,16,63,127,0,511] (tks 0 3 (.ld 3 (.tk 4 (.ld 5 (.tk 6 (.ld 7 (.big 8 (.big 9 .done)))))))) Zl (by kernel_rfl) ?_
 refine Zg 1 rfl (tk rfl (PE.nilCheck rfl) rfl (tk rfl (PE.fA Z1u rfl) rfl (ld rfl rfl (lfB (sz:=6) Z4s rfl) rfl (tk rfl (PE.fA Z2k rfl) rfl (ld rfl rfl (lh (v:=.int .i64 (w9.i:Int)) sc3 rfl rfl) rfl (tk rfl (PE.indexAddr Zb3 rfl rfl (by omega) (by omega)) rfl (ld rfl rfl (lfA Z6h (Z61 hfg) rfl) rfl (alc rfl Z4a rfl (fun b6=>?_)))))))))
 refine bg (fun w hs=>⟨(lfA Z6h (Z61 hfg) rfl) w hs,(lh (v:=.int .i64 (w9.i:Int)) sc3 rfl rfl) w hs,(lfB (sz:=6) Z4s rfl) w hs,trivial⟩) ?_
 refine sto rfl rfl rfl Z8P rfl rfl rfl rfl ?_
 refine bgT (Z0 (sqt 2 rfl (sp rfl (PE.fA Z6Q rfl) rfl (spL rfl rfl (lh (v:=.bool w9.more) sc4 rfl rfl) rfl ?_))))
 refine Z1 rfl ?_ ?_<;>intro hc0<;>try simp only [cS] at hc0
 refine Z0 ?_
 refine Za [0,1,0,4,0,16,48,112,0,256,1008,2032,4092,3,16383] (.tk 0 (.ld 1 (.tk 2 (.ld 3 (tks 4 3 (.ld 7 (.tk 8 (.ld 9 (.tk 10 (.ld 11 (tks 12 3 .done))))))))))) Zl (by kernel_rfl) ?_
 refine tk rfl (PE.fA Z3S rfl) rfl (ld rfl rfl (lh sc3 rfl rfl) rfl (tk rfl (PE.fA Z3T rfl) rfl (ld rfl rfl (lh sc3 rfl rfl) rfl (Zg 1 rfl (tk rfl (PE.nilCheck rfl) rfl (tk rfl (PE.fA Z0E rfl) rfl (ld rfl rfl (lfB (sz:=6) Z2w rfl) rfl (tk rfl (PE.fA Z2k rfl) rfl (ld rfl rfl (lh (v:=.int .i64 (w9.i:Int)) sc3 rfl rfl) rfl (tk rfl (PE.indexAddr Z0D rfl rfl (by omega) (by omega)) rfl (ld rfl rfl (lh sc3 rfl (Z26 (k:=w9.i) (by rw [hA.len];exact hw) (by show 0+((w9.i:Nat):Int).toNat*1=_;omega))) rfl (tk rfl (PE.sub rfl rfl (by omega)) rfl (Zg 2 rfl (Z4 ?_))))))))))))))
 exact rtB rfl rfl rfl rfl ⟨by simp only [ZC];unfold Wy.to Wy.res;rw [hc0];rfl,rfl,rfl⟩ drp
 refine Z3 (Z0 ?_)
 refine Za [0,1,0,4,12,28,0,64,252,508,0,1024,4092,3,16383] (.tk 0 (.ld 1 (tks 2 3 (.ld 5 (.tk 6 (.ld 7 (.tk 8 (.ld 9 (.tk 10 (.ld 11 (tks 12 3 .done))))))))))) Zl (by kernel_rfl) ?_
 refine tk rfl (PE.fA Z3R rfl) rfl (ld rfl rfl (lh sc3 rfl rfl) rfl (Zg 1 rfl (tk rfl (PE.nilCheck rfl) rfl (tk rfl (PE.fA Z0E rfl) rfl (ld rfl rfl (lfB (sz:=6) Z2w rfl) rfl (tk rfl (PE.fA Z2k rfl) rfl (ld rfl rfl (lh (v:=.int .i64 (w9.i:Int)) sc3 rfl rfl) rfl (tk rfl (PE.indexAddr Z0D rfl rfl (by omega) (by omega)) rfl (ld rfl rfl (lh sc3 rfl (Z26 (k:=w9.i) (by rw [hA.len];exact hw) (by show 0+((w9.i:Nat):Int).toNat*1=_;omega))) rfl (tk rfl (PE.fA Z35 rfl) rfl (ld rfl rfl (lh sc3 rfl rfl) rfl (tk rfl (PE.sub rfl rfl (by omega)) rfl (Zg 2 rfl (Z4 ?_))))))))))))))
 exact rtB rfl rfl rfl rfl ⟨by simp only [ZC];unfold Wy.to Wy.res;rw [hc0];rfl,rfl,rfl⟩ drp
theorem Zcn (g:Nat) (vf vc:List Value) (S:Nat→Bool) (less:Bool) (G:Z5) (hcal:cal Tryz.prog g=true) (hg:∀ (i:Nat) (H:Z6) (R:Z5) [SubF G R],FnV Tryz.prog g (vf++[.int .i64 (i:Int)]++vc) H R (.bool (S i))) (w9:Wy) (H:Z6) (R:Z5) [hG:SubF G R] :
    FnV Tryz.prog 259 [.agg (Z84 g vf vc less).toArray,wyv w9] H R (.int .i64 (w9.g (wtl S less))):=by
 refine Zc Tryz.func259 rfl Tryz.ntmps259 rfl ?_
 refine sqt 3 rfl (bx rfl rfl rfl (fun b2=>bx rfl rfl rfl (fun b3=>pur 1 rfl (Z0 (sqt 6 rfl (sp rfl (PE.fA ZcV rfl) rfl (spL rfl rfl (lh Z1G rfl rfl) rfl (sp rfl (PE.fA Z2k rfl) rfl (spL rfl rfl (lh (v:=.int .i64 (w9.i:Int)) sc3 rfl rfl) rfl ?_)))))))))
 refine Z2c rfl rfl (hcal) rfl rfl (hg w9.i _ _) ?_
 refine pur 1 rfl ?_
 refine Z1 rfl ?_ ?_<;>intro hc0<;>try simp only [cS] at hc0
 refine sqt 1 rfl (pur 1 rfl (Z4 ?_))
 exact rtA rfl rfl rfl ⟨by simp only [ZC];rw [Zgs,hc0];rfl,rfl,rfl⟩ drp
 have hs9:S w9.i=true:=by simpa using hc0
 refine Z3 (Z0 (sqt 5 rfl (sp rfl (PE.fA Z6Q rfl) rfl (spL rfl rfl (lh (v:=.bool w9.more) sc4 rfl rfl) rfl (sp rfl (PE.fA ZiZ rfl) rfl (spL rfl rfl (lh (v:=.bool less) sc4 rfl rfl) rfl (sp rfl (PE.neqBool ub4 rfl rfl) rfl ?_)))))))
 refine Z1 rfl ?_ ?_<;>intro hc1
 refine sqt 1 rfl (pur 1 rfl (Z4 ?_))
 exact rtA rfl rfl rfl ⟨by simp only [ZC];rw [Zgs,hs9,hc1];rfl,rfl,rfl⟩ drp
 refine Z3 (sqt 1 rfl (pur 1 rfl (Z4 ?_)))
 exact rtA rfl rfl rfl ⟨by simp only [ZC];rw [Zgs,hs9,hc1];rfl,rfl,rfl⟩ drp
theorem Z7I:cal Tryz.prog 202=true:=by kernel_rfl
theorem Z9N:cal Tryz.prog 251=true:=by kernel_rfl
theorem Zpg:Zz Tryz.prog 102=some 4:=by kernel_rfl
theorem cn3:Zz Tryz.prog 3=some 1:=by kernel_rfl
theorem ZqZ:Zz Tryz.prog 62=some 3:=by kernel_rfl
theorem Zpm:Zz Tryz.prog 83=some 5:=by kernel_rfl
theorem Zg9:ZD Tryz.prog 307=some [(0,1),(1,1),(2,1),(3,1)]:=by kernel_rfl
theorem ZA:Z0c Tryz.prog 162=true:=by kernel_rfl
theorem Z1H:slE Tryz.prog 23=some (3,1):=by kernel_rfl
theorem Zq4:Zp Tryz.prog 102=some ([.int .i64 0,.int .i64 0,.int .i64 0,.int .i64 0]):=by kernel_rfl
theorem zl3:Zp Tryz.prog 3=some ([.int .i64 0]):=by kernel_rfl
theorem Zoj:Zp Tryz.prog 62=some ([.int .i64 0,.int .i64 0,.int .i64 0]):=by kernel_rfl
theorem Zkc:Zp Tryz.prog 83=some ([.int .i64 0,.int .i64 0,.int .i64 0,.int .i64 0,.int .i64 0]):=by kernel_rfl
structure EI (y:Yrd) (a1 a2 a3:Option Addr) (k1 k2 k3:Nat) (bd x1 x2:Nat) (H:Z6) (R:Z5):Prop where
 dk:DKp bd (ydl y a1 a2 a3 k1 k2 k3) H R
 f1:RowsA (some ⟨x1,0,none⟩) 1 [[.pointer (some ⟨bd,0,none⟩)]]∈R
 f2:RowsA (some ⟨x2,0,none⟩) 8 [(List.replicate 8 (Value.bool true))]∈R
 r1:RowsA a1 3 (bnrows y.bins)∈R
 r2:RowsA a2 5 (mvrows y.moves)∈R
 r3:RowsA a3 4 (lvrows y.levels)∈R
theorem Zrh {i:Nat} (h:i<8):(List.replicate 8 (Value.bool true))[i]?=some (.bool true):=by
 rw [List.getElem?_replicate,if_pos h]
theorem ZV {α:Type} {l:List α} {i:Nat} {x:α} (h:l[i]?=some x):l≠[]:=fun e=>by rw [e] at h;simp at h
theorem Zi4 {y:Yrd} {b t:Nat} {x:SBin}:(y.base b t x).fr=(bif decide (0<t) then y.cell (b:Int) ((t:Int)-1).toNat else y.cells)∧(y.base b t x).to=(bif decide (t<y.days) then y.cell (b:Int) ((t:Int)).toNat else y.cells):=by
 have h1:decide ((b:Int) = -1)=false:=decide_eq_false (by omega)
 unfold Yrd.base Yrd.cell
 rw [h1,show ((t:Int)-1).toNat=t-1 by omega]
 exact ⟨rfl,rfl⟩
theorem Zi5 {y:Yrd} {b t:Nat} {x:SBin}:(y.base b t x).lo=(bif decide (0<t) then 0 else max 0 x.fst.lo)∧(y.base b t x).hi=(bif decide (0<t) then x.holds else min x.holds x.fst.hi):=⟨rfl,rfl⟩
theorem Zkx (bd:Nat) (H:Z6) (R:Z5) :
    Fn Tryz.prog 198 [.pointer (some ⟨bd,0,none⟩),.agg (List.replicate 8 (Value.bool true)).toArray] H R (fun v H' R'=>∃ x1 x2,v = .func (.func 249) #[] #[.pointer (some ⟨x1,0,none⟩),.pointer (some ⟨x2,0,none⟩)]∧H'=H∧R'=RowsA (some ⟨x2,0,none⟩) 8 [(List.replicate 8 (Value.bool true))]::RowsA (some ⟨x1,0,none⟩) 1 [[.pointer (some ⟨bd,0,none⟩)]]::R):=by
 refine Zc Tryz.func198 rfl Tryz.ntmps198 rfl ?_
 refine sqt 3 rfl (bx rfl rfl rfl (fun b2=>bx rfl rfl rfl (fun b3=>pur 1 rfl (sqt 2 rfl (sp rfl (PE.makeFunc rfl rfl) rfl (pur 1 rfl (Z4 ?_)))))))
 refine Sy.heap (fun w h=>St.rows (sz:=8) (rows:=[(List.replicate 8 (Value.bool true))]) (rest:=[]) (St.rows (sz:=1) (rows:=[[.pointer (some ⟨bd,0,none⟩)]]) (rest:=[]) ((h.pull b3).pull b2) (by simp)) (by simp)) ?_
 exact rtA rfl rfl rfl ⟨b2,b3,rfl,rfl,rfl⟩ idH
set_option maxHeartbeats 1600000 in
theorem Zik (y:Yrd) (a1 a2 a3:Option Addr) (k1 k2 k3:Nat) (hy:y.ok) (bd x1 x2 lp:Nat) (I:Nat→Z6→Z5→Prop) (hI:∀ k H R,I k H R→EI y a1 a2 a3 k1 k2 k3 bd x1 x2 H R)
    (hyd:∀ k f H R (X:Z6),y.flows[k]?=some f→I k H R→Yd Tryz.prog lp [.agg (Z0d f).toArray] (X++H) R (fun v H' R'=>v = .bool true∧∃ H1,H'=X++H1∧I (k+1) H1 R')) (H:Z6) (R:Z5) (h0:I 0 H R) :
    Fn Tryz.prog 249 [yv lp,.pointer (some ⟨x1,0,none⟩),.pointer (some ⟨x2,0,none⟩)] H R (fun _ H' R'=>I y.flows.length H' R'):=by
 have hdays:=hy.days
 have hbins:=hy.bins
 have hnm:=hy.nm
 have e0:=hI _ _ _ h0
 haveI:MemRows (some ⟨x1,0,none⟩) 1 [[.pointer (some ⟨bd,0,none⟩)]] R:=⟨e0.f1⟩
 haveI:MemRows (some ⟨x2,0,none⟩) 8 [(List.replicate 8 (Value.bool true))] R:=⟨e0.f2⟩
 haveI:MemRows a1 3 (bnrows y.bins) R:=⟨e0.r1⟩
 haveI:MemRows a2 5 (mvrows y.moves) R:=⟨e0.r2⟩
 haveI:MemRows a3 4 (lvrows y.levels) R:=⟨e0.r3⟩
 refine Zc Tryz.func249 rfl Tryz.ntmps249 rfl ?_
 refine Z0 (sqt 7 rfl (spL rfl rfl (lfB (sz:=1) ZA rfl) rfl (sp rfl (PE.nilCheck rfl) rfl (sp rfl (PE.fA Z1U rfl) rfl (sp rfl (PE.fA Z24 rfl) rfl (spL rfl rfl (lDK e0.dk Zec rfl) rfl (sp rfl (PE.lenSl Z86 rfl) rfl (pur 1 rfl (Z2 ?_)))))))))
 obtain ⟨_,hb0⟩:=Z8C hy (b:=0) (by omega)
 refine Zj (a:=a1) (sz:=3) (rows:=bnrows y.bins) (ZV (Z4b hb0)) (fun ba1 oa1 he=>?_)
 subst he
 refine Zd (ι:={x:Nat×Z6×Z5 // x.1≤y.bins.length∧I (x.1*(y.days+1)) x.2.1 x.2.2}) (fun x=>⟨[(0,yv lp),(1,.pointer (some ⟨x1,0,none⟩)),(2,.pointer (some ⟨x2,0,none⟩)),(16,.slice (some ⟨ba1,oa1,none⟩) y.bins.length k1),(17,.int .i64 (y.bins.length:Int)),(18,.int .i64 (x.1.1:Int))],x.1.2.1,x.1.2.2⟩) (fun x=>y.bins.length-x.1.1) ⟨(0,H,R),Nat.zero_le _,by rw [Nat.zero_mul];exact h0⟩ ?_ (fun x=>?_)
 exact Zf idH
 obtain ⟨⟨b,H0,Q0⟩,hb,hI0⟩:=x
 dsimp only at hb hI0 ⊢
 have e0b:=hI _ _ _ hI0
 haveI:MemRows (some ⟨x1,0,none⟩) 1 [[.pointer (some ⟨bd,0,none⟩)]] Q0:=⟨e0b.f1⟩
 haveI:MemRows (some ⟨x2,0,none⟩) 8 [(List.replicate 8 (Value.bool true))] Q0:=⟨e0b.f2⟩
 haveI:MemRows (some ⟨ba1,oa1,none⟩) 3 (bnrows y.bins) Q0:=⟨e0b.r1⟩
 haveI:MemRows a2 5 (mvrows y.moves) Q0:=⟨e0b.r2⟩
 haveI:MemRows a3 4 (lvrows y.levels) Q0:=⟨e0b.r3⟩
 refine sqt 1 rfl (pur 1 rfl (Z0 ?_))
 refine Z1 rfl ?_ ?_<;>intro hc0<;>try simp only [cS] at hc0
 obtain ⟨hbo,hbx⟩:=Z8C hy (b:=b) (by omega)
 refine Z3 (Z0 (Z2 (sqt 6 rfl (pur 1 rfl (sp rfl (PE.indexAddr Zqp rfl rfl (by omega) (by omega)) rfl (spL rfl rfl (lfA Zot (Z4b hbx) rfl) rfl (alc rfl Zoj rfl (fun b5=>pur 1 rfl ?_))))))))
 refine Zy (l':=bnrow (y.binD b)) rfl rfl rfl ZqZ rfl rfl rfl rfl (nl rfl) ?_
 refine sqt 7 rfl (spL rfl rfl (lfB (sz:=1) ZA rfl) rfl (sp rfl (PE.nilCheck rfl) rfl (sp rfl (PE.fA Z1U rfl) rfl (sp rfl (PE.fA Z0T rfl) rfl (spL rfl rfl (lDK e0b.dk.t sc3 rfl) rfl (sp rfl (PE.add rfl rfl (by omega)) rfl (pur 1 rfl (Z2 ?_))))))))
 refine Zd (ι:={x:Nat×Z6×Z5 // x.1≤y.days+1∧I (b*(y.days+1)+x.1) x.2.1 x.2.2}) (fun x=>⟨[(0,yv lp),(1,.pointer (some ⟨x1,0,none⟩)),(2,.pointer (some ⟨x2,0,none⟩)),(4,.int .i64 (b:Int)),(5,.pointer (some ⟨b5,0,none⟩)),(16,.slice (some ⟨ba1,oa1,none⟩) y.bins.length k1),(17,.int .i64 (y.bins.length:Int)),(18,.int .i64 (b:Int)),(28,.int .i64 ((y.days:Int)+1)),(29,.int .i64 (x.1.1:Int))],(b5,cel 62 (bnrow (y.binD b)))::x.1.2.1,x.1.2.2⟩) (fun x=>y.days+1-x.1.1) ⟨(0,H0,Q0),Nat.zero_le _,hI0⟩ ?_ (fun x=>?_)
 exact Zf idH
 obtain ⟨⟨t,H1,Q1⟩,ht,hI1⟩:=x
 dsimp only at ht hI1 ⊢
 have e1:=hI _ _ _ hI1
 haveI:MemRows (some ⟨x1,0,none⟩) 1 [[.pointer (some ⟨bd,0,none⟩)]] Q1:=⟨e1.f1⟩
 haveI:MemRows (some ⟨x2,0,none⟩) 8 [(List.replicate 8 (Value.bool true))] Q1:=⟨e1.f2⟩
 haveI:MemRows (some ⟨ba1,oa1,none⟩) 3 (bnrows y.bins) Q1:=⟨e1.r1⟩
 haveI:MemRows a2 5 (mvrows y.moves) Q1:=⟨e1.r2⟩
 haveI:MemRows a3 4 (lvrows y.levels) Q1:=⟨e1.r3⟩
 refine sqt 1 rfl (pur 1 rfl (Z0 ?_))
 refine Z1 rfl ?_ ?_<;>intro hc1<;>try simp only [cS] at hc1
 have hfk:=Z5X (y:=y) (b:=b) (t:=t) (by omega) (by omega)
 obtain ⟨hbf,hbt⟩:=Zi4 (y:=y) (b:=b) (t:=t) (x:=y.binD b)
 obtain ⟨hbl,hbh⟩:=Zi5 (y:=y) (b:=b) (t:=t) (x:=y.binD b)
 obtain ⟨hhd,hs1,hs2,hs3⟩:=hbo
 refine Z3 (Z0 (Z2 (sqt 2 rfl (pur 2 rfl (Z0 ?_)))))
 refine ZaM (ι:=Nat) (fun b7=>⟨[(0,yv lp),(1,.pointer (some ⟨x1,0,none⟩)),(2,.pointer (some ⟨x2,0,none⟩)),(4,.int .i64 (b:Int)),(5,.pointer (some ⟨b5,0,none⟩)),(16,.slice (some ⟨ba1,oa1,none⟩) y.bins.length k1),(17,.int .i64 (y.bins.length:Int)),(18,.int .i64 (b:Int)),(28,.int .i64 ((y.days:Int)+1)),(6,.int .i64 (t:Int)),(7,.pointer (some ⟨b7,0,none⟩)),(29,.int .i64 (t:Int))],(b7,cel 307 ([.int .i64 (y.cells:Int),.int .i64 (y.cells:Int),.int .i64 (0),.int .i64 ((y.binD b).holds)]))::(b5,cel 62 (bnrow (y.binD b)))::H1,Q1⟩) ?_ ?_
 refine Za [0,1,0,7,0,16,63,0,255] (.ld 0 (.ld 2 (.tk 4 (.ld 5 (.any (.alt 1 (.any (.alt 3 (.tk 6 (.big 7 (.big 8 .done))) (.alt 7 (.big 3 (.tk 6 (.big 8 .done))) .stop))) (.alt 7 (.big 1 (.big 3 (.tk 6 (.big 8 .done)))) .stop))))))) Zl (by kernel_rfl) ?_
 refine ld rfl rfl (lfB (sz:=1) ZA rfl) rfl (ld rfl rfl (lfB (sz:=1) ZA rfl) rfl (tk rfl (PE.fA Zd1 rfl) rfl (ld rfl rfl (lh (v:=.int .i64 (y.binD b).holds) sc3 rfl rfl) rfl ?_)))
 refine ZL ?_ ?_
 refine clV rfl Z4e rfl rfl (Z2g y (some ⟨ba1,oa1,none⟩) a2 a3 k1 k2 k3 hy bd _ _ (by first | exact e1.dk.t | exact e1.dk.t.t)) ?_
 refine bg (fun w hs=>⟨(lh (v:=.int .i64 (y.binD b).holds) sc3 rfl rfl) w hs,(lfB (sz:=1) ZA rfl) w hs,trivial,trivial⟩) ?_
 refine ZL ?_ ?_
 refine clV rfl Z4e rfl rfl (Z2g y (some ⟨ba1,oa1,none⟩) a2 a3 k1 k2 k3 hy bd _ _ (by first | exact e1.dk.t | exact e1.dk.t.t)) ?_
 refine bg (fun w hs=>⟨(lh (v:=.int .i64 (y.binD b).holds) sc3 rfl rfl) w hs,trivial,trivial⟩) ?_
 refine tk rfl (PE.build (out:=[_,_,_,_]) Zg9 Z4a rfl rfl) rfl (alc rfl Z4a rfl (fun b7=>?_))
 refine bg (fun w hs=>⟨(lh (v:=.int .i64 (y.binD b).holds) sc3 rfl rfl) w hs,trivial⟩) ?_
 refine sto rfl rfl rfl Z8P rfl rfl rfl rfl ?_
 refine bgT ?_
 exact Z0I b7 idH
 refine ZL ?_ ?_
 refine alc rfl Z4a rfl (fun b7=>?_)
 refine bg (fun w hs=>⟨(lh (v:=.int .i64 (y.binD b).holds) sc3 rfl rfl) w hs,(lfB (sz:=1) ZA rfl) w hs,trivial⟩) ?_
 refine clV rfl Z4e rfl rfl (Z2g y (some ⟨ba1,oa1,none⟩) a2 a3 k1 k2 k3 hy bd _ _ (by first | exact e1.dk.t | exact e1.dk.t.t)) ?_
 refine bg (fun w hs=>⟨(lh (v:=.int .i64 (y.binD b).holds) sc3 rfl rfl) w hs,trivial,trivial⟩) ?_
 refine tk rfl (PE.build (out:=[_,_,_,_]) Zg9 Z4a rfl rfl) rfl ?_
 refine sto rfl rfl rfl Z8P rfl rfl rfl rfl ?_
 refine bgT ?_
 exact Z0I b7 idH
 exact Z0f
 refine ZL ?_ ?_
 refine alc rfl Z4a rfl (fun b7=>?_)
 refine bg (fun w hs=>⟨(lh (v:=.int .i64 (y.binD b).holds) sc3 rfl rfl) w hs,(lfB (sz:=1) ZA rfl) w hs,(lfB (sz:=1) ZA rfl) w hs,trivial⟩) ?_
 refine clV rfl Z4e rfl rfl (Z2g y (some ⟨ba1,oa1,none⟩) a2 a3 k1 k2 k3 hy bd _ _ (by first | exact e1.dk.t | exact e1.dk.t.t)) ?_
 refine bg (fun w hs=>⟨(lh (v:=.int .i64 (y.binD b).holds) sc3 rfl rfl) w hs,(lfB (sz:=1) ZA rfl) w hs,trivial,trivial⟩) ?_
 refine clV rfl Z4e rfl rfl (Z2g y (some ⟨ba1,oa1,none⟩) a2 a3 k1 k2 k3 hy bd _ _ (by first | exact e1.dk.t | exact e1.dk.t.t)) ?_
 refine bg (fun w hs=>⟨(lh (v:=.int .i64 (y.binD b).holds) sc3 rfl rfl) w hs,trivial,trivial⟩) ?_
 refine tk rfl (PE.build (out:=[_,_,_,_]) Zg9 Z4a rfl rfl) rfl ?_
 refine sto rfl rfl rfl Z8P rfl rfl rfl rfl ?_
 refine bgT ?_
 exact Z0I b7 idH
 exact Z0f
 intro b7
 dsimp only
 refine Z0 (sqt 2 rfl (pur 2 rfl ?_))
 refine Z5w (ι:=Unit) (fun _=>⟨[(0,yv lp),(1,.pointer (some ⟨x1,0,none⟩)),(2,.pointer (some ⟨x2,0,none⟩)),(4,.int .i64 (b:Int)),(5,.pointer (some ⟨b5,0,none⟩)),(16,.slice (some ⟨ba1,oa1,none⟩) y.bins.length k1),(17,.int .i64 (y.bins.length:Int)),(18,.int .i64 (b:Int)),(28,.int .i64 ((y.days:Int)+1)),(6,.int .i64 (t:Int)),(7,.pointer (some ⟨b7,0,none⟩)),(29,.int .i64 (t:Int))],(b7,cel 307 ([.int .i64 ((y.base b t (y.binD b)).fr:Int),.int .i64 (y.cells:Int),.int .i64 ((y.base b t (y.binD b)).lo),.int .i64 ((y.base b t (y.binD b)).hi)]))::(b5,cel 62 (bnrow (y.binD b)))::H1,Q1⟩) ?_ ?_
 refine Z1 rfl ?_ ?_<;>intro hc2<;>try simp only [cS] at hc2
 have htt:decide (0<t)=true:=dT (by omega)
 rw [htt,cond_true] at hbf hbl hbh
 refine sqr 7 rfl (spL rfl rfl (lfB (sz:=1) ZA rfl) rfl (pur 2 rfl (sp rfl (PE.sub rfl rfl (by omega)) rfl ?_)))
 refine clV rfl Z9N rfl rfl (Z9G y (some ⟨ba1,oa1,none⟩) a2 a3 k1 k2 k3 hy bd (b:Int) ((t:Int)-1) (by omega) (by omega) _ _ e1.dk.t.t) ?_
 refine sp rfl (PE.fA Z3R rfl) rfl ?_
 refine Zy (l':=[.int .i64 (((y.cell (b:Int) ((t:Int)-1).toNat:Nat):Int):Int),.int .i64 ((y.cells:Int):Int),.int .i64 (0),.int .i64 ((y.binD b).holds)]) rfl rfl rfl cn3 rfl rfl rfl rfl (nl rfl) ?_
 rw [hbf,hbl,hbh]
 exact Z1r () idH
 have htt:decide (0<t)=false:=dF (by omega)
 rw [htt,cond_false] at hbf hbl hbh
 refine Za [0,1,3,7,0,16,0,64,192,448,1008,15,4095,8191,16383] (.tk 0 (.tk 1 (.ld 2 (.tk 3 (.tk 4 (.ld 5 (.tk 6 (.tk 7 (.ld 8 (.tk 11 (.big 9 (.big 10 (.big 12 (.tk 13 (.big 14 .done))))))))))))))) Zl (by kernel_rfl) ?_
 refine tk rfl (PE.fA Za9 rfl) rfl (tk rfl (PE.fA ZH rfl) rfl (ld rfl rfl (lh (v:=.int .i64 (y.binD b).fst.lo) sc3 rfl rfl) rfl (tk rfl (PE.max rfl rfl) rfl (tk rfl (PE.fA Zd1 rfl) rfl (ld rfl rfl (lh (v:=.int .i64 (y.binD b).holds) sc3 rfl rfl) rfl (tk rfl (PE.fA Za9 rfl) rfl (tk rfl (PE.fA ZI rfl) rfl (ld rfl rfl (lh (v:=.int .i64 (y.binD b).fst.hi) sc3 rfl rfl) rfl (tk rfl (PE.fA Z35 rfl) rfl ?_)))))))))
 refine bsl (out:=[_]) rfl Z1H zl3 rfl rfl rfl rfl rfl rfl (fun b56=>?_)
 refine bg (fun w hs=>⟨trivial,(lh (v:=.int .i64 (y.binD b).holds) sc3 rfl rfl) w hs,(lh (v:=.int .i64 (y.binD b).fst.lo) sc3 rfl rfl) w hs,trivial⟩) ?_
 refine clV rfl Z7I rfl rfl (Z32 _ _ b56 _ _ _) ?_
 refine bg (fun w hs=>⟨trivial,(lh (v:=.int .i64 (y.binD b).fst.lo) sc3 rfl rfl) w hs,trivial⟩) ?_
 refine Zy (l':=[.int .i64 ((y.cells:Int):Int),.int .i64 ((y.cells:Int):Int),.int .i64 (max 0 (y.binD b).fst.lo),.int .i64 ((y.binD b).holds)]) rfl rfl rfl cn3 rfl rfl rfl rfl (nl rfl) ?_
 refine bgT (tk rfl (PE.fA Z3T rfl) rfl ?_)
 refine Zy (l':=[.int .i64 ((y.cells:Int):Int),.int .i64 ((y.cells:Int):Int),.int .i64 (max 0 (y.binD b).fst.lo),.int .i64 (min (y.binD b).holds (y.binD b).fst.hi)]) rfl rfl rfl cn3 rfl rfl rfl rfl (nl rfl) ?_
 refine bgT ?_
 rw [hbf,hbl,hbh]
 exact Z1r () (fun w h=>h.del b56)
 rintro ⟨⟩
 dsimp only
 refine Z0 (sqt 7 rfl (pur 1 rfl (spL rfl rfl (lfB (sz:=1) ZA rfl) rfl (sp rfl (PE.nilCheck rfl) rfl (sp rfl (PE.fA Z1U rfl) rfl (sp rfl (PE.fA Z0T rfl) rfl (spL rfl rfl (lDK e1.dk.t.t sc3 rfl) rfl (pur 1 rfl ?_))))))))
 refine Z5w (ι:=Unit) (fun _=>⟨[(0,yv lp),(1,.pointer (some ⟨x1,0,none⟩)),(2,.pointer (some ⟨x2,0,none⟩)),(4,.int .i64 (b:Int)),(5,.pointer (some ⟨b5,0,none⟩)),(16,.slice (some ⟨ba1,oa1,none⟩) y.bins.length k1),(17,.int .i64 (y.bins.length:Int)),(18,.int .i64 (b:Int)),(28,.int .i64 ((y.days:Int)+1)),(6,.int .i64 (t:Int)),(7,.pointer (some ⟨b7,0,none⟩)),(29,.int .i64 (t:Int))],(b7,cel 307 (Z0d (y.base b t (y.binD b))))::(b5,cel 62 (bnrow (y.binD b)))::H1,Q1⟩) ?_ ?_
 refine Z1 rfl ?_ ?_<;>intro hc3<;>try simp only [cS] at hc3
 have hdd:decide (t<y.days)=true:=dT (by omega)
 rw [hdd,cond_true] at hbt
 refine sqr 6 rfl (spL rfl rfl (lfB (sz:=1) ZA rfl) rfl (pur 2 rfl ?_))
 refine clV rfl Z9N rfl rfl (Z9G y (some ⟨ba1,oa1,none⟩) a2 a3 k1 k2 k3 hy bd (b:Int) (t:Int) (by omega) (by omega) _ _ e1.dk.t.t) ?_
 refine sp rfl (PE.fA Z3S rfl) rfl ?_
 refine Zy (l':=[.int .i64 ((y.base b t (y.binD b)).fr:Int),.int .i64 (((y.cell (b:Int) (t:Int).toNat:Nat):Int):Int),.int .i64 ((y.base b t (y.binD b)).lo),.int .i64 ((y.base b t (y.binD b)).hi)]) rfl rfl rfl cn3 rfl rfl rfl rfl (nl rfl) ?_
 unfold Z0d
 rw [hbt]
 exact Z1r () idH
 have hdd:decide (t<y.days)=false:=dF (by omega)
 rw [hdd,cond_false] at hbt
 refine Z3 ?_
 unfold Z0d
 rw [hbt]
 exact Z1r () idH
 rintro ⟨⟩
 dsimp only
 refine Z0 (sqt 7 rfl (spL rfl rfl (lfB (sz:=1) ZA rfl) rfl (sp rfl (PE.nilCheck rfl) rfl (sp rfl (PE.fA Z1U rfl) rfl (sp rfl (PE.fA Z7Z rfl) rfl (spL rfl rfl (lDK e1.dk.t.t ZnJ rfl) rfl (sp rfl (PE.lenSl Zj7 rfl) rfl (pur 1 rfl (Z2 ?_)))))))))
 refine Zd (ι:={j:Nat // j≤y.levels.length}) (fun j=>⟨[(0,yv lp),(1,.pointer (some ⟨x1,0,none⟩)),(2,.pointer (some ⟨x2,0,none⟩)),(4,.int .i64 (b:Int)),(5,.pointer (some ⟨b5,0,none⟩)),(16,.slice (some ⟨ba1,oa1,none⟩) y.bins.length k1),(17,.int .i64 (y.bins.length:Int)),(18,.int .i64 (b:Int)),(28,.int .i64 ((y.days:Int)+1)),(6,.int .i64 (t:Int)),(7,.pointer (some ⟨b7,0,none⟩)),(29,.int .i64 (t:Int)),(76,.slice a3 y.levels.length k3),(77,.int .i64 (y.levels.length:Int)),(78,.int .i64 (j.1:Int))],(b7,cel 307 (Z0d ((y.levels.take j.1).foldl (Z1i b t) (y.base b t (y.binD b)))))::(b5,cel 62 (bnrow (y.binD b)))::H1,Q1⟩) (fun j=>y.levels.length-j.1) ⟨0,Nat.zero_le _⟩ ?_ (fun j=>?_)
 exact Zf idH
 obtain ⟨j,hj⟩:=j
 dsimp only at hj ⊢
 refine sqt 1 rfl (pur 1 rfl (Z0 ?_))
 refine Z1 rfl ?_ ?_<;>intro hc4<;>try simp only [cS] at hc4
 obtain ⟨l9,hl9⟩:∃ x,y.levels[j]?=some x:=⟨_,List.getElem?_eq_getElem (by omega)⟩
 have hst:(y.levels.take (j+1)).foldl (Z1i b t) (y.base b t (y.binD b))=Z1i b t ((y.levels.take j).foldl (Z1i b t) (y.base b t (y.binD b))) l9:=by rw [List.take_add_one,hl9,Option.toList_some,List.foldl_append];rfl
 have hnl:=hy.nl
 refine Zj (a:=a3) (sz:=4) (rows:=lvrows y.levels) (ZV (Zhp hl9)) (fun ba3 oa3 he=>?_)
 subst he
 refine Z3 (Z0 (Z2 (sqt 6 rfl (pur 1 rfl (sp rfl (PE.indexAddr Zqr rfl rfl (by omega) (by omega)) rfl (spL rfl rfl (lfA ZhO (Zhp hl9) rfl) rfl (alc rfl Zq4 rfl (fun b9=>pur 1 rfl ?_))))))))
 refine Zy (l':=Z3r l9) rfl rfl rfl Zpg rfl rfl rfl rfl (nl rfl) ?_
 refine sqt 15 rfl (pur 1 rfl (sp rfl (PE.indexArr Zki rfl rfl (by omega) (by omega)) rfl (spL rfl rfl (lfB (sz:=8) (x:=.bool true) sc4 (Zrh (by show 0+((j:Nat):Int).toNat*1<8;omega))) rfl (pur 1 rfl ?_))))
 refine spG rfl rfl rfl rfl (PE.fA ZcR rfl) rfl ?_
 refine Z0e rfl rfl rfl rfl rfl (lh (v:=.int .i64 l9.bin) sc3 rfl rfl) rfl (pur 4 rfl ?_)
 refine Zq 92 rfl ?_ ?_<;>intro g92
 refine spG rfl rfl rfl rfl (PE.fA ZcQ rfl) rfl ?_
 refine Z0e rfl rfl rfl rfl rfl (lh (v:=.int .i64 l9.day) sc3 rfl rfl) rfl (pur 3 rfl ?_)
 refine Z1 rfl ?_ ?_<;>intro hc5<;>try simp only [cS] at hc5
 have hlv:Z1i b t ((y.levels.take j).foldl (Z1i b t) (y.base b t (y.binD b))) l9=⟨((y.levels.take j).foldl (Z1i b t) (y.base b t (y.binD b))).fr,((y.levels.take j).foldl (Z1i b t) (y.base b t (y.binD b))).to,max ((y.levels.take j).foldl (Z1i b t) (y.base b t (y.binD b))).lo l9.s.lo,min ((y.levels.take j).foldl (Z1i b t) (y.base b t (y.binD b))).hi l9.s.hi⟩:=by unfold Z1i;rw [g92,dT hc5];rfl
 refine Za [0,1,0,4,12,31,0,64,0,256,768,1792,4032,255,16383,32767,65535] (.tk 0 (.ld 1 (.tk 2 (.tk 3 (.ld 4 (.tk 5 (.tk 6 (.ld 7 (.tk 8 (.tk 9 (.ld 10 (.tk 13 (.big 11 (.big 12 (.big 14 (.tk 15 (.big 16 .done))))))))))))))))) Zl (by kernel_rfl) ?_
 refine tk rfl (PE.fA Z35 rfl) rfl (ld rfl rfl (lh (v:=.int .i64 ((y.levels.take j).foldl (Z1i b t) (y.base b t (y.binD b))).lo) sc3 rfl rfl) rfl (tk rfl (PE.fA Z6L rfl) rfl (tk rfl (PE.fA ZH rfl) rfl (ld rfl rfl (lh (v:=.int .i64 l9.s.lo) sc3 rfl rfl) rfl (tk rfl (PE.max rfl rfl) rfl (tk rfl (PE.fA Z3T rfl) rfl (ld rfl rfl (lh (v:=.int .i64 ((y.levels.take j).foldl (Z1i b t) (y.base b t (y.binD b))).hi) sc3 rfl rfl) rfl (tk rfl (PE.fA Z6L rfl) rfl (tk rfl (PE.fA ZI rfl) rfl (ld rfl rfl (lh (v:=.int .i64 l9.s.hi) sc3 rfl rfl) rfl (tk rfl (PE.fA Z35 rfl) rfl ?_)))))))))))
 refine bsl (out:=[_]) rfl Z1H zl3 rfl rfl rfl rfl rfl rfl (fun b109=>?_)
 refine bg (fun w hs=>⟨trivial,(lh (v:=.int .i64 ((y.levels.take j).foldl (Z1i b t) (y.base b t (y.binD b))).hi) sc3 rfl rfl) w hs,(lh (v:=.int .i64 l9.s.lo) sc3 rfl rfl) w hs,(lh (v:=.int .i64 ((y.levels.take j).foldl (Z1i b t) (y.base b t (y.binD b))).lo) sc3 rfl rfl) w hs,trivial⟩) ?_
 refine clV rfl Z7I rfl rfl (Z32 _ _ b109 _ _ _) ?_
 refine bg (fun w hs=>⟨trivial,(lh (v:=.int .i64 l9.s.lo) sc3 rfl rfl) w hs,(lh (v:=.int .i64 ((y.levels.take j).foldl (Z1i b t) (y.base b t (y.binD b))).lo) sc3 rfl rfl) w hs,trivial⟩) ?_
 refine Zy (l':=[.int .i64 ((((y.levels.take j).foldl (Z1i b t) (y.base b t (y.binD b))).fr:Int):Int),.int .i64 ((((y.levels.take j).foldl (Z1i b t) (y.base b t (y.binD b))).to:Int):Int),.int .i64 (max ((y.levels.take j).foldl (Z1i b t) (y.base b t (y.binD b))).lo l9.s.lo),.int .i64 (((y.levels.take j).foldl (Z1i b t) (y.base b t (y.binD b))).hi)]) rfl rfl rfl cn3 rfl rfl rfl rfl (nl rfl) ?_
 refine bgT (tk rfl (PE.fA Z3T rfl) rfl ?_)
 refine Zy (l':=[.int .i64 ((((y.levels.take j).foldl (Z1i b t) (y.base b t (y.binD b))).fr:Int):Int),.int .i64 ((((y.levels.take j).foldl (Z1i b t) (y.base b t (y.binD b))).to:Int):Int),.int .i64 (max ((y.levels.take j).foldl (Z1i b t) (y.base b t (y.binD b))).lo l9.s.lo),.int .i64 (min ((y.levels.take j).foldl (Z1i b t) (y.base b t (y.binD b))).hi l9.s.hi)]) rfl rfl rfl cn3 rfl rfl rfl rfl (nl rfl) ?_
 refine bgT (sqr 2 rfl (sp rfl (PE.add rfl rfl (by omega)) rfl (pur 1 rfl ?_)))
 exact Zb ⟨j+1,by omega⟩ (fun w h=>by dsimp only;rw [hst,hlv];exact ((h.del b109).del b9))
 have hlv:Z1i b t ((y.levels.take j).foldl (Z1i b t) (y.base b t (y.binD b))) l9=(y.levels.take j).foldl (Z1i b t) (y.base b t (y.binD b)):=by unfold Z1i;rw [dF hc5,Bool.and_false];rfl
 refine Z3 (sqr 2 rfl (sp rfl (PE.add rfl rfl (by omega)) rfl (pur 1 rfl ?_)))
 exact Zb ⟨j+1,by omega⟩ (fun w h=>by dsimp only;rw [hst,hlv];exact h.del b9)
 try simp only [cS] at g92
 have hlv:Z1i b t ((y.levels.take j).foldl (Z1i b t) (y.base b t (y.binD b))) l9=(y.levels.take j).foldl (Z1i b t) (y.base b t (y.binD b)):=by unfold Z1i;rw [decide_eq_false g92,Bool.false_and];rfl
 refine pur 5 rfl ?_
 refine Zt rfl ?_
 refine Z3 (sqr 2 rfl (sp rfl (PE.add rfl rfl (by omega)) rfl (pur 1 rfl ?_)))
 exact Zb ⟨j+1,by omega⟩ (fun w h=>by dsimp only;rw [hst,hlv];exact h.del b9)
 obtain rfl:j=y.levels.length:=by omega
 rw [List.take_length]
 have hyy:Yd Tryz.prog lp [.agg (Z0d (y.keptF b (y.binD b) t)).toArray] ((b7,cel 307 (Z0d (y.keptF b (y.binD b) t)))::(b5,cel 62 (bnrow (y.binD b)))::H1) Q1 _:=hyd _ _ _ _ [(b7,cel 307 (Z0d (y.keptF b (y.binD b) t))),(b5,cel 62 (bnrow (y.binD b)))] hfk hI1
 show Sy _ _ _ ((b7,cel 307 (Z0d (y.keptF b (y.binD b) t)))::(b5,cel 62 (bnrow (y.binD b)))::H1) Q1 _
 refine Z7 (Z8 (Z8 (Zi (sqt 4 rfl (pur 1 rfl (spL rfl rfl (lhA (Z0d (y.keptF b (y.binD b) t)) Z6h rfl (rest:=[]) rfl rfl) rfl ?_))))))
 refine clY rfl rfl rfl rfl (hyy) ?_
 rintro _ _ R3 ⟨rfl,H3,rfl,hI3⟩
 refine pur 1 rfl ?_
 refine Zt rfl ?_
 refine Z3 (sqr 2 rfl (sp rfl (PE.add rfl rfl (by omega)) rfl (pur 1 rfl ?_)))
 exact Zb ⟨(t+1,H3,R3),by dsimp only;omega,hI3⟩ (fun w h=>St.tail h)
 obtain rfl:t=y.days+1:=by omega
 refine Z7 (Z8 (Z8 (Zi (sqr 2 rfl (sp rfl (PE.add rfl rfl (by omega)) rfl (pur 1 rfl ?_))))))
 exact Zb ⟨(b+1,H1,Q1),by dsimp only;omega,by dsimp only;rw [Nat.succ_mul];exact hI1⟩ (fun w h=>St.tail h)
 obtain rfl:b=y.bins.length:=by omega
 refine Z7 (Z8 (Z8 (Zi (sqt 7 rfl (spL rfl rfl (lfB (sz:=1) ZA rfl) rfl (sp rfl (PE.nilCheck rfl) rfl (sp rfl (PE.fA Z1U rfl) rfl (sp rfl (PE.fA Z2l rfl) rfl (spL rfl rfl (lDK e0b.dk Zgn rfl) rfl (sp rfl (PE.lenSl Zj6 rfl) rfl (pur 1 rfl (Z2 ?_))))))))))))
 refine Zd (ι:={x:Nat×Z6×Z5 // x.1≤y.moves.length∧I (y.bins.length*(y.days+1)+x.1) x.2.1 x.2.2}) (fun x=>⟨[(0,yv lp),(1,.pointer (some ⟨x1,0,none⟩)),(2,.pointer (some ⟨x2,0,none⟩)),(124,.slice a2 y.moves.length k2),(125,.int .i64 (y.moves.length:Int)),(126,.int .i64 (x.1.1:Int))],x.1.2.1,x.1.2.2⟩) (fun x=>y.moves.length-x.1.1) ⟨(0,H0,Q0),Nat.zero_le _,hI0⟩ ?_ (fun x=>?_)
 exact Zf idH
 obtain ⟨⟨j,H2,Q2⟩,hj,hI2⟩:=x
 dsimp only at hj hI2 ⊢
 have e2:=hI _ _ _ hI2
 haveI:MemRows (some ⟨x1,0,none⟩) 1 [[.pointer (some ⟨bd,0,none⟩)]] Q2:=⟨e2.f1⟩
 haveI:MemRows (some ⟨x2,0,none⟩) 8 [(List.replicate 8 (Value.bool true))] Q2:=⟨e2.f2⟩
 haveI:MemRows (some ⟨ba1,oa1,none⟩) 3 (bnrows y.bins) Q2:=⟨e2.r1⟩
 haveI:MemRows a2 5 (mvrows y.moves) Q2:=⟨e2.r2⟩
 haveI:MemRows a3 4 (lvrows y.levels) Q2:=⟨e2.r3⟩
 refine sqt 1 rfl (pur 1 rfl (Z0 ?_))
 refine Z1 rfl ?_ ?_<;>intro hc7<;>try simp only [cS] at hc7
 obtain ⟨m9,hm9⟩:∃ x,y.moves[j]?=some x:=⟨_,List.getElem?_eq_getElem (by omega)⟩
 have hmo:=hy.mov m9 (List.mem_of_getElem? hm9)
 refine Zj (a:=a2) (sz:=5) (rows:=mvrows y.moves) (ZV (Zht hm9)) (fun ba2 oa2 he=>?_)
 subst he
 refine Z3 (Z0 (Z2 (sqt 4 rfl (sp rfl (PE.indexAddr Zqq rfl rfl (by omega) (by omega)) rfl (spL rfl rfl (lfA Zk3 (Zht hm9) rfl) rfl (alc rfl Zkc rfl (fun b11=>?_)))))))
 refine Zy (l':=mvrow m9) rfl rfl rfl Zpm rfl rfl rfl rfl (nl rfl) ?_
 have hyy:Yd Tryz.prog lp [.agg (Z0d (y.movF m9)).toArray] ((b11,cel 83 (mvrow m9))::H2) Q2 _:=hyd _ _ _ _ [(b11,cel 83 (mvrow m9))] (Z7U hm9) hI2
 refine Z0 ?_
 refine Za [0,0,0,4,0,16,62,0,0,256,0,1024,4094,0,8192,24576,0,65536,196608,524286,1048575,2097151] (.tk 0 (.ld 1 (.tk 2 (.ld 3 (.tk 4 (.ld 5 (.ld 7 (.tk 8 (.ld 9 (.tk 10 (.ld 11 (.tk 13 (.tk 14 (.ld 15 (.tk 16 (.tk 17 (.ld 18 (.big 6 (.big 12 (.tk 19 (.big 20 (.tk 21 .done)))))))))))))))))))))) Zl (by kernel_rfl) ?_
 refine Zg 1 rfl (ld rfl rfl (lfB (sz:=1) ZA rfl) rfl (tk rfl (PE.fA Zd6 rfl) rfl (ld rfl rfl (lh (v:=.int .i64 m9.fr) sc3 rfl rfl) rfl (tk rfl (PE.fA Zd5 rfl) rfl (ld rfl rfl (lh (v:=.int .i64 m9.day) sc3 rfl rfl) rfl (ld rfl rfl (lfB (sz:=1) ZA rfl) rfl (tk rfl (PE.fA Zd7 rfl) rfl (ld rfl rfl (lh (v:=.int .i64 m9.to) sc3 rfl rfl) rfl (tk rfl (PE.fA Zd5 rfl) rfl (ld rfl rfl (lh (v:=.int .i64 m9.day) sc3 rfl rfl) rfl (tk rfl (PE.fA Z5Z rfl) rfl (tk rfl (PE.fA ZH rfl) rfl (ld rfl rfl (lh (v:=.int .i64 m9.s.lo) sc3 rfl rfl) rfl (tk rfl (PE.fA Z5Z rfl) rfl (tk rfl (PE.fA ZI rfl) rfl ?_)))))))))))))))
 refine ld rfl rfl (lh (v:=.int .i64 m9.s.hi) sc3 rfl rfl) rfl ?_
 refine clV rfl Z9N rfl rfl (Z9G y (some ⟨ba1,oa1,none⟩) (some ⟨ba2,oa2,none⟩) a3 k1 k2 k3 hy bd m9.fr m9.day (by omega) (by omega) _ _ e2.dk.t) ?_
 refine bg (fun w hs=>⟨(lh (v:=.int .i64 m9.s.hi) sc3 rfl rfl) w hs,(lh (v:=.int .i64 m9.s.lo) sc3 rfl rfl) w hs,(lh (v:=.int .i64 m9.day) sc3 rfl rfl) w hs,(lh (v:=.int .i64 m9.to) sc3 rfl rfl) w hs,(lfB (sz:=1) ZA rfl) w hs,trivial,trivial,trivial,trivial⟩) ?_
 refine clV rfl Z9N rfl rfl (Z9G y (some ⟨ba1,oa1,none⟩) (some ⟨ba2,oa2,none⟩) a3 k1 k2 k3 hy bd m9.to m9.day (by omega) (by omega) _ _ e2.dk.t) ?_
 refine bg (fun w hs=>⟨(lh (v:=.int .i64 m9.s.hi) sc3 rfl rfl) w hs,(lh (v:=.int .i64 m9.s.lo) sc3 rfl rfl) w hs,trivial,trivial,trivial,trivial⟩) ?_
 refine tk rfl (PE.build (out:=[_,_,_,_]) Zg9 Z4a rfl rfl) rfl ?_
 refine clY rfl rfl rfl rfl (hyy) ?_
 rintro _ _ R3 ⟨rfl,H3,rfl,hI3⟩
 refine bgT (Zg 1 rfl ?_)
 refine Zt rfl ?_
 refine Z3 (sqr 2 rfl (sp rfl (PE.add rfl rfl (by omega)) rfl (pur 1 rfl ?_)))
 exact Zb ⟨(j+1,H3,R3),by dsimp only;omega,hI3⟩ (fun w h=>St.tail h)
 obtain rfl:j=y.moves.length:=by omega
 refine Z7 (Z8 (Z8 (Zi ?_)))
 exact Z22 (vs:=[]) rfl .nil rfl (by rw [show y.flows.length=y.bins.length*(y.days+1)+y.moves.length from Z3n y];exact hI2) idH
theorem Z6j:apT Tryz.prog 23=some (3,1,8):=by kernel_rfl
theorem ZhZ:apT Tryz.prog 236=some (307,4,32):=by kernel_rfl
theorem ZlH:cal Tryz.prog 198=true:=by kernel_rfl
theorem Zmg:cal Tryz.prog 249=true:=by kernel_rfl
theorem ZmQ:Zz Tryz.prog 162=some 1:=by kernel_rfl
theorem ZiB:Zz Tryz.prog 23=some 1:=by kernel_rfl
theorem ZiC:Zz Tryz.prog 236=some 1:=by kernel_rfl
theorem ZpD:ZD Tryz.prog 238=some [(0,4),(4,1),(5,1)]:=by kernel_rfl
theorem ZnM:slE Tryz.prog 236=some (307,4):=by kernel_rfl
theorem Zo2:Zp Tryz.prog 162=some ([.pointer none]):=by kernel_rfl
theorem Zq9:Zp Tryz.prog 238=some ([.int .i64 0,.slice none 0 0,.slice none 0 0,.slice none 0 0,.slice none 0 0,.slice none 0 0]):=by kernel_rfl
theorem OSl.ne {e sz:Nat} {rows:List (List Value)} (o:OSl e sz rows) (h:rows≠[]):∃ b cap junk,o.fs = .slice (some ⟨b,0,none⟩) rows.length cap∧o.G=[(b,cel e (rows.flatten++junk))]:=by
 rcases o.is with ⟨h1,_⟩ | ⟨b,cap,junk,h1,h2,_⟩
 · exact absurd h1 h
 · exact ⟨b,cap,junk,h1,h2⟩
def Z0N (F:List Fl):List Int:=F.map (·.lo)
theorem Zal (F:List Fl):(irows (Z0N F)).length=F.length:=by simp [irows,Z0N]
theorem St.row1 {b e sz:Nat} {row:List Value} {H:Z6} {R:Z5} {w:World} (h:St ((b,cel e row)::H) R w) (hl:row.length=sz):St H (RowsA (some ⟨b,0,none⟩) sz [row]::R) w :=
 St.rows (rows:=[row]) (rest:=[]) (by rw [List.append_nil,List.flatten_cons,List.flatten_nil,List.append_nil];exact h) (by simpa using hl)
theorem ZcD {d:DD} {e e2:Nat} {j:List Value} {H:Z6} {R:Z5} {w:World} (h:St ((d.bd,cel e d.l)::(d.fb,cel e2 ((ZN d.y.flows).flatten++j))::H) R w):St H (RowsA (some ⟨d.fb,0,none⟩) 4 (ZN d.y.flows)::RowsA (some ⟨d.bd,0,none⟩) 6 [d.l]::R) w :=
 St.rows (rest:=j) (St.row1 h rfl) (fun r hr=>by obtain ⟨x,_,rfl⟩:=List.mem_map.1 hr;rfl)
theorem Z3Q {F:List Fl} {k:Nat} {f:Fl} (h:F[k]?=some f):F.take k++[f]=F.take (k+1):=by rw [List.take_add_one,h];rfl
set_option maxHeartbeats 1000000 in
theorem Z6s (y:Yrd) (a1 a2 a3:Option Addr) (k1 k2 k3:Nat) (hy:y.ok) (H:Z6) (R:Z5) [hR1:MemRows a1 3 (bnrows y.bins) R] [hR2:MemRows a2 5 (mvrows y.moves) R] [hR3:MemRows a3 4 (lvrows y.levels) R] :
    Fn Tryz.prog 114 [(y.v a1 a2 a3 k1 k2 k3),.agg (List.replicate 8 (Value.bool true)).toArray] H R (fun v H' R'=>∃ d:DD,d.y=y∧v = .pointer (some ⟨d.bd,0,none⟩)∧H'=(d.ba,cel 3 (Ze (Z0N d.y.flows)++d.J))::H∧R'=RowsA (some ⟨d.fb,0,none⟩) 4 (ZN d.y.flows)::RowsA (some ⟨d.bd,0,none⟩) 6 [d.l]::R):=by
 refine Z7W Tryz.func114 rfl Tryz.ntmps114 rfl ?_
 refine sqt 3 rfl (bx rfl rfl rfl (fun b2=>bx rfl rfl rfl (fun b3=>pur 1 rfl (sqt 5 rfl (spL rfl rfl (lhA (ydl y a1 a2 a3 k1 k2 k3) ZeN rfl rfl rfl) rfl (sp rfl (PE.build (out:=[_,_,_,_,_,_]) ZpD Zq9 rfl rfl) rfl (bx rfl rfl rfl (fun b9=>alc rfl Zo2 rfl (fun b5=>?_)))))))))
 refine sto rfl rfl rfl ZmQ rfl rfl rfl rfl ?_
 refine Z0 (sqt 3 rfl (spL rfl rfl (lh ZA rfl rfl) rfl (spL rfl rfl (lhA (List.replicate 8 (Value.bool true)) ZhP rfl (rest:=[]) rfl rfl) rfl ?_)))
 refine cl rfl ZlH rfl rfl (Zkx b9 _ _) ?_
 rintro _ _ _ ⟨x1,x2,rfl,rfl,rfl⟩
 refine Z2 ?_
 refine Z3D rfl Zmg (fun c0 bl0 bd0 hcp0 hca0 hcb0 hck0=>?_)
 refine ⟨fun st pend T R'=>st = .ready∧pend=none∧∃ (oF:OSl 307 4 (ZN y.flows)) (oA:OSl 3 1 (irows (Z0N y.flows))),T=(bd0,.deferred (some []))::(b5,cel 162 [.pointer (some ⟨b9,0,none⟩)])::(b9,cel 238 ((ydl y a1 a2 a3 k1 k2 k3)++[oF.fs,oA.fs]))::(b3,cel 231 (List.replicate 8 (Value.bool true)))::(b2,cel 60 (ydl y a1 a2 a3 k1 k2 k3))::(oF.G++(oA.G++H))∧R'=RowsA (some ⟨x2,0,none⟩) 8 [(List.replicate 8 (Value.bool true))]::RowsA (some ⟨x1,0,none⟩) 1 [[.pointer (some ⟨b9,0,none⟩)]]::R,
   Fn.mono (Zik y a1 a2 a3 k1 k2 k3 hy b9 x1 x2 bl0 (fun k H' R'=>∃ (oF:OSl 307 4 (ZN (y.flows.take (k)))) (oA:OSl 3 1 (irows (Z0N (y.flows.take (k))))),H'=(bl0,lob c0 .ready none)::(bd0,.deferred (some []))::(b5,cel 162 [.pointer (some ⟨b9,0,none⟩)])::(b9,cel 238 ((ydl y a1 a2 a3 k1 k2 k3)++[oF.fs,oA.fs]))::(b3,cel 231 (List.replicate 8 (Value.bool true)))::(b2,cel 60 (ydl y a1 a2 a3 k1 k2 k3))::(oF.G++(oA.G++H))∧R'=RowsA (some ⟨x2,0,none⟩) 8 [(List.replicate 8 (Value.bool true))]::RowsA (some ⟨x1,0,none⟩) 1 [[.pointer (some ⟨b9,0,none⟩)]]::R) (fun k H' R' h9=>?_) (fun k f9 H' R' X hk h9=>?_) _ _ ⟨OSl.nil _ _,OSl.nil _ _,rfl,rfl⟩) (fun v H' R' h9=>?_),?_⟩
 · obtain ⟨oF,oA,rfl,rfl⟩:=h9
   exact ⟨(DKp.held (e:=238) (x:=[oF.fs,oA.fs]):DKp b9 (ydl y a1 a2 a3 k1 k2 k3) _ _),(inferInstance:MemRows (some ⟨x1,0,none⟩) 1 [[.pointer (some ⟨b9,0,none⟩)]] (RowsA (some ⟨x2,0,none⟩) 8 [(List.replicate 8 (Value.bool true))]::RowsA (some ⟨x1,0,none⟩) 1 [[.pointer (some ⟨b9,0,none⟩)]]::R)).mem,(inferInstance:MemRows (some ⟨x2,0,none⟩) 8 [(List.replicate 8 (Value.bool true))] (RowsA (some ⟨x2,0,none⟩) 8 [(List.replicate 8 (Value.bool true))]::RowsA (some ⟨x1,0,none⟩) 1 [[.pointer (some ⟨b9,0,none⟩)]]::R)).mem,(inferInstance:MemRows a1 3 (bnrows y.bins) (RowsA (some ⟨x2,0,none⟩) 8 [(List.replicate 8 (Value.bool true))]::RowsA (some ⟨x1,0,none⟩) 1 [[.pointer (some ⟨b9,0,none⟩)]]::R)).mem,(inferInstance:MemRows a2 5 (mvrows y.moves) (RowsA (some ⟨x2,0,none⟩) 8 [(List.replicate 8 (Value.bool true))]::RowsA (some ⟨x1,0,none⟩) 1 [[.pointer (some ⟨b9,0,none⟩)]]::R)).mem,(inferInstance:MemRows a3 4 (lvrows y.levels) (RowsA (some ⟨x2,0,none⟩) 8 [(List.replicate 8 (Value.bool true))]::RowsA (some ⟨x1,0,none⟩) 1 [[.pointer (some ⟨b9,0,none⟩)]]::R)).mem⟩
 rotate_left
 · obtain ⟨oF,oA,rfl,rfl⟩:=h9
   exact ⟨.ready,none,_,by simp,.refl _,rfl,rfl,oF.cast (by rw [List.take_length]),oA.cast (by rw [List.take_length]),rfl,rfl⟩
 rotate_left
 obtain ⟨oF,oA,rfl,rfl⟩:=h9
 refine Zgv hcp0 hca0 hcb0 hck0 rfl ?_
 refine sqr 2 rfl (alc rfl Z4a rfl (fun b6=>?_))
 refine Zy (l':=Z0d f9) rfl rfl rfl Z8P rfl rfl rfl rfl (nl rfl) ?_
 refine Z0A ?_
 refine Z2 ?_
 refine Za [0,0,0,4,12,28,0,64,252,0,512,1536,3584,0,8192,24576,65532,131069,262141,524285,1048575,2097151,4194303] (.ld 0 (.ld 1 (.ld 2 (.tk 3 (.tk 4 (.ld 5 (.ld 6 (.ld 9 (.tk 10 (.tk 11 (.ld 12 (.tk 13 (.ld 14 (.any (.alt 7 (.any (.alt 8 (.big 15 (.big 16 (.tk 17 (.tk 18 (.big 19 (.tk 20 (.tk 21 (.big 22 .done)))))))) (.alt 15 (.big 8 (.big 16 (.tk 17 (.tk 18 (.big 19 (.tk 20 (.tk 21 (.big 22 .done)))))))) .stop))) (.alt 15 (.big 7 (.big 8 (.big 16 (.tk 17 (.tk 18 (.big 19 (.tk 20 (.tk 21 (.big 22 .done))))))))) .stop)))))))))))))))) Zl (by kernel_rfl) ?_
 refine ld rfl rfl (lh ZA rfl rfl) rfl (ld rfl rfl (lh ZA rfl rfl) rfl (ld rfl rfl (lh ZA rfl rfl) rfl (tk rfl (PE.nilCheck rfl) rfl (tk rfl (PE.fA Z1u rfl) rfl (ld rfl rfl (lh (v:=oF.fs) Z4s rfl rfl) rfl (ld rfl rfl (lhA (Z0d f9) Z6h rfl (rest:=[]) rfl rfl) rfl (ld rfl rfl (lh ZA rfl rfl) rfl (tk rfl (PE.nilCheck rfl) rfl (tk rfl (PE.fA Z0E rfl) rfl (ld rfl rfl (lh (v:=oA.fs) Z2w rfl rfl) rfl (tk rfl (PE.fA Z35 rfl) rfl (ld rfl rfl (lh (v:=.int .i64 f9.lo) sc3 rfl rfl) rfl ?_))))))))))))
 refine ZL ?_ ?_
 refine bsl (out:=[_,_,_,_]) rfl ZnM Z4a rfl rfl rfl rfl rfl rfl (fun b21=>?_)
 refine bg (fun w hs=>⟨(lh (v:=.int .i64 f9.lo) sc3 rfl rfl) w hs,(lh (v:=oA.fs) Z2w rfl rfl) w hs,(lh ZA rfl rfl) w hs,trivial,(lh (v:=oF.fs) Z4s rfl rfl) w hs,(lh ZA rfl rfl) w hs,(lh ZA rfl rfl) w hs,(lh ZA rfl rfl) w hs,trivial⟩) ?_
 refine ZL ?_ ?_
 refine apO (oF) rfl ZhZ rfl rfl (Z0y (row:=Z0d f9) rfl) rfl rfl ((by simp only [frl,List.length_take,List.length_cons,List.length_nil];have:=Z07 hy;omega)) rfl (fun o22=>?_)
 refine bg (fun w hs=>⟨(lh (v:=.int .i64 f9.lo) sc3 rfl rfl) w hs,(lh (v:=oA.fs) Z2w rfl rfl) w hs,(lh ZA rfl rfl) w hs,trivial,trivial,(lh ZA rfl rfl) w hs,(lh ZA rfl rfl) w hs,trivial⟩) ?_
 refine bsl (out:=[_]) rfl Z1H zl3 rfl rfl rfl rfl rfl rfl (fun b29=>?_)
 refine bg (fun w hs=>⟨trivial,(lh (v:=oA.fs) Z2w rfl rfl) w hs,(lh ZA rfl rfl) w hs,(lh ZA rfl rfl) w hs,(lh ZA rfl rfl) w hs,trivial⟩) ?_
 refine apO (oA) rfl Z6j rfl rfl (Z0y (row:=[.int .i64 f9.lo]) rfl) rfl rfl ((by simp only [irl,Z0N,List.length_map,List.length_take,List.length_cons,List.length_nil];have:=Z07 hy;omega)) rfl (fun o30=>?_)
 refine bg (fun w hs=>⟨trivial,trivial,(lh ZA rfl rfl) w hs,(lh ZA rfl rfl) w hs,trivial⟩) ?_
 refine tk rfl (PE.nilCheck rfl) rfl (tk rfl (PE.fA Z1u rfl) rfl ?_)
 refine Zy (l':=(ydl y a1 a2 a3 k1 k2 k3)++[o22.fs,oA.fs]) rfl rfl rfl ZiC rfl (by rw [o22.cells.1];first | done | rfl) (by rw [o22.cells.1];simp [o22.cells.2]) (by rw [o22.cells.1];first | done | rfl) (by rw [o22.cells.1];first | done | exact Nat.le_of_ble_eq_true rfl) ?_
 refine bg (fun w hs=>⟨(lh ZA rfl rfl) w hs,trivial,trivial⟩) ?_
 refine tk rfl (PE.nilCheck rfl) rfl (tk rfl (PE.fA Z0E rfl) rfl ?_)
 refine Zy (l':=(ydl y a1 a2 a3 k1 k2 k3)++[o22.fs,o30.fs]) rfl rfl rfl ZiB rfl (by rw [o30.cells.1];first | done | rfl) (by rw [o30.cells.1];simp [o30.cells.2]) (by rw [o30.cells.1];first | done | rfl) (by rw [o30.cells.1];first | done | exact Nat.le_of_ble_eq_true rfl) ?_
 refine bgT ?_
 exact ZX ⟨rfl,_,rfl,o22.cast (by rw [← Z3Q hk];simp [ZN]),o30.cast (by rw [← Z3Q hk];simp [Z0N]),rfl,rfl⟩ (fun w h=>((h.del b29).del b21).del b6)
 refine ZL ?_ ?_
 refine bsl (out:=[_]) rfl Z1H zl3 rfl rfl rfl rfl rfl rfl (fun b29=>?_)
 refine bg (fun w hs=>⟨trivial,(lh (v:=oA.fs) Z2w rfl rfl) w hs,(lh ZA rfl rfl) w hs,(lh (v:=oF.fs) Z4s rfl rfl) w hs,(lh ZA rfl rfl) w hs,(lh ZA rfl rfl) w hs,(lh ZA rfl rfl) w hs,trivial⟩) ?_
 refine apO (oF) rfl ZhZ rfl rfl (Z0y (row:=Z0d f9) rfl) rfl rfl ((by simp only [frl,List.length_take,List.length_cons,List.length_nil];have:=Z07 hy;omega)) rfl (fun o22=>?_)
 refine bg (fun w hs=>⟨(lh (v:=oA.fs) Z2w rfl rfl) w hs,(lh ZA rfl rfl) w hs,trivial,trivial,(lh ZA rfl rfl) w hs,(lh ZA rfl rfl) w hs,trivial⟩) ?_
 refine apO (oA) rfl Z6j rfl rfl (Z0y (row:=[.int .i64 f9.lo]) rfl) rfl rfl ((by simp only [irl,Z0N,List.length_map,List.length_take,List.length_cons,List.length_nil];have:=Z07 hy;omega)) rfl (fun o30=>?_)
 refine bg (fun w hs=>⟨trivial,trivial,(lh ZA rfl rfl) w hs,(lh ZA rfl rfl) w hs,trivial⟩) ?_
 refine tk rfl (PE.nilCheck rfl) rfl (tk rfl (PE.fA Z1u rfl) rfl ?_)
 refine Zy (l':=(ydl y a1 a2 a3 k1 k2 k3)++[o22.fs,oA.fs]) rfl rfl rfl ZiC rfl (by rw [o22.cells.1];first | done | rfl) (by rw [o22.cells.1];simp [o22.cells.2]) (by rw [o22.cells.1];first | done | rfl) (by rw [o22.cells.1];first | done | exact Nat.le_of_ble_eq_true rfl) ?_
 refine bg (fun w hs=>⟨(lh ZA rfl rfl) w hs,trivial,trivial⟩) ?_
 refine tk rfl (PE.nilCheck rfl) rfl (tk rfl (PE.fA Z0E rfl) rfl ?_)
 refine Zy (l':=(ydl y a1 a2 a3 k1 k2 k3)++[o22.fs,o30.fs]) rfl rfl rfl ZiB rfl (by rw [o30.cells.1];first | done | rfl) (by rw [o30.cells.1];simp [o30.cells.2]) (by rw [o30.cells.1];first | done | rfl) (by rw [o30.cells.1];first | done | exact Nat.le_of_ble_eq_true rfl) ?_
 refine bgT ?_
 exact ZX ⟨rfl,_,rfl,o22.cast (by rw [← Z3Q hk];simp [ZN]),o30.cast (by rw [← Z3Q hk];simp [Z0N]),rfl,rfl⟩ (fun w h=>((h.del b29).del b21).del b6)
 exact Z0f
 refine ZL ?_ ?_
 refine bsl (out:=[_]) rfl Z1H zl3 rfl rfl rfl rfl rfl rfl (fun b29=>?_)
 refine bg (fun w hs=>⟨trivial,(lh (v:=oA.fs) Z2w rfl rfl) w hs,(lh ZA rfl rfl) w hs,(lhA (Z0d f9) Z6h rfl (rest:=[]) rfl rfl) w hs,(lh (v:=oF.fs) Z4s rfl rfl) w hs,(lh ZA rfl rfl) w hs,(lh ZA rfl rfl) w hs,(lh ZA rfl rfl) w hs,trivial⟩) ?_
 refine bsl (out:=[_,_,_,_]) rfl ZnM Z4a rfl rfl rfl rfl rfl rfl (fun b21=>?_)
 refine bg (fun w hs=>⟨(lh (v:=oA.fs) Z2w rfl rfl) w hs,(lh ZA rfl rfl) w hs,trivial,(lh (v:=oF.fs) Z4s rfl rfl) w hs,(lh ZA rfl rfl) w hs,(lh ZA rfl rfl) w hs,(lh ZA rfl rfl) w hs,trivial⟩) ?_
 refine apO (oF) rfl ZhZ rfl rfl (Z0y (row:=Z0d f9) rfl) rfl rfl ((by simp only [frl,List.length_take,List.length_cons,List.length_nil];have:=Z07 hy;omega)) rfl (fun o22=>?_)
 refine bg (fun w hs=>⟨(lh (v:=oA.fs) Z2w rfl rfl) w hs,(lh ZA rfl rfl) w hs,trivial,trivial,(lh ZA rfl rfl) w hs,(lh ZA rfl rfl) w hs,trivial⟩) ?_
 refine apO (oA) rfl Z6j rfl rfl (Z0y (row:=[.int .i64 f9.lo]) rfl) rfl rfl ((by simp only [irl,Z0N,List.length_map,List.length_take,List.length_cons,List.length_nil];have:=Z07 hy;omega)) rfl (fun o30=>?_)
 refine bg (fun w hs=>⟨trivial,trivial,(lh ZA rfl rfl) w hs,(lh ZA rfl rfl) w hs,trivial⟩) ?_
 refine tk rfl (PE.nilCheck rfl) rfl (tk rfl (PE.fA Z1u rfl) rfl ?_)
 refine Zy (l':=(ydl y a1 a2 a3 k1 k2 k3)++[o22.fs,oA.fs]) rfl rfl rfl ZiC rfl (by rw [o22.cells.1];first | done | rfl) (by rw [o22.cells.1];simp [o22.cells.2]) (by rw [o22.cells.1];first | done | rfl) (by rw [o22.cells.1];first | done | exact Nat.le_of_ble_eq_true rfl) ?_
 refine bg (fun w hs=>⟨(lh ZA rfl rfl) w hs,trivial,trivial⟩) ?_
 refine tk rfl (PE.nilCheck rfl) rfl (tk rfl (PE.fA Z0E rfl) rfl ?_)
 refine Zy (l':=(ydl y a1 a2 a3 k1 k2 k3)++[o22.fs,o30.fs]) rfl rfl rfl ZiB rfl (by rw [o30.cells.1];first | done | rfl) (by rw [o30.cells.1];simp [o30.cells.2]) (by rw [o30.cells.1];first | done | rfl) (by rw [o30.cells.1];first | done | exact Nat.le_of_ble_eq_true rfl) ?_
 refine bgT ?_
 exact ZX ⟨rfl,_,rfl,o22.cast (by rw [← Z3Q hk];simp [ZN]),o30.cast (by rw [← Z3Q hk];simp [Z0N]),rfl,rfl⟩ (fun w h=>((h.del b29).del b21).del b6)
 exact Z0f
 rintro _ _ _ _ ⟨rfl,rfl,oF,oA,rfl,rfl⟩
 have hfl:=Z07 hy
 obtain ⟨fb,cf,jf,e1,e2⟩:=OSl.ne oF (ne0 (by rw [frl];omega))
 obtain ⟨ba,ca,ja,e3,e4⟩:=OSl.ne oA (ne0 (by rw [Zal];omega))
 rw [frl] at e1
 rw [Zal] at e3
 rw [Z2K] at e4
 rw [e1,e2,e3,e4]
 simp only [List.cons_append,List.nil_append]
 refine Zev ?_
 refine sqt 2 rfl (spL rfl rfl (lh ZA rfl rfl) rfl (pur 1 rfl (Z4 ?_)))
 exact Z0p [bd0] idH rfl (.cons (RV.tmp rfl) .nil) rfl ⟨⟨y,a1,a2,a3,k1,k2,k3,fb,cf,b9,ba,ca,ja⟩,rfl,rfl,rfl,rfl⟩ (fun w h=>ZcD (d:=⟨y,a1,a2,a3,k1,k2,k3,fb,cf,b9,ba,ca,ja⟩) ((((h.del b5).del b3).del b2).ftail.ftail))
theorem Z2a:Z0W Tryz.prog 312=some 2:=by kernel_rfl
theorem Z8Q:Zz Tryz.prog 312=some 2:=by kernel_rfl
theorem Z5L:elN Tryz.prog 309=some 2:=by kernel_rfl
theorem Z5k:Z2o Tryz.prog 309=true:=by kernel_rfl
theorem Z3e:Zp Tryz.prog 312=some ([.int .i64 0,.bool false]):=by kernel_rfl
def Z04 (F:List Fl) (A:List Int) (n:Nat):List Int:=(List.range n).map fun c=>ovr F A c
theorem ZP (F:List Fl) (A:List Int) (n:Nat):(Z04 F A n).length=n:=by simp [Z04]
theorem Z2M {F:List Fl} {A:List Int} {n c:Nat} (h:c<n):na (Z04 F A n) c=ovr F A c:=Z94 (by unfold Z04;rw [List.getElem?_map,List.getElem?_range h];rfl)
theorem Z75 {c:Nat}:∀ {F:List Fl} {A:List Int} {i:Nat} {f:Fl},A.length=F.length→F[i]?=some f→ovr (F.take (i+1)) A c=ovr (F.take i) A c+((bif decide (f.to=c) then na A i else 0)-(bif decide (f.fr=c) then na A i else 0))
 | [],_,i,f,_,h=>by simp at h
 | g::F,[],i,f,hl,_=>by simp at hl
 | g::F,a::A,0,f,hl,h=>by
   simp only [List.getElem?_cons_zero,Option.some.injEq] at h
   subst h
   show ((bif decide (g.to=c) then a else 0)-(bif decide (g.fr=c) then a else 0))+ovr (F.take 0) A c=0+((bif decide (g.to=c) then a else 0)-(bif decide (g.fr=c) then a else 0))
   rw [List.take_zero]
   show _+0=_
   omega
 | g::F,a::A,i+1,f,hl,h=>by
   have ih:=Z75 (c:=c) (F:=F) (A:=A) (i:=i) (f:=f) (by simpa using hl) (by simpa using h)
   show _+ovr (F.take (i+1)) A c=(_+ovr (F.take i) A c)+((bif decide (f.to=c) then na A i else 0)-(bif decide (f.fr=c) then na A i else 0))
   rw [ih];omega
theorem Z8e {F:List Fl} {A:List Int} (hA:AOk F A) {c:Nat}:∀ i:Nat,-(300*(i:Int))≤ovr (F.take i) A c∧ovr (F.take i) A c≤300*(i:Int)
 | 0=>by rw [List.take_zero];exact ⟨by show _≤(0:Int);omega,by show (0:Int)≤_;omega⟩
 | i+1=>by
   have ih:=Z8e hA (c:=c) i
   by_cases h:i<F.length
   · rw [Z75 hA.len (Z4h h)]
     have hb:=hA.bnd i
     cases decide ((fl F i).to=c)<;>cases decide ((fl F i).fr=c)<;>simp only [cond_true,cond_false]<;>omega
   · rw [show F.take (i+1)=F.take i by rw [List.take_of_length_le (by omega),List.take_of_length_le (by omega)]]
     omega
theorem Z1D {V:List Int} {k i:Nat} (hk:k<V.length) (e:i=k):(Ze V)[i]?=some (.int .i64 (na V k)):=by subst e;exact Z0u (Z0v hk)
theorem Zdj {V:List Int} {J:List Value} {k i:Nat} {x:Int} (hk:k<V.length) (e:i=k):spl (Ze V++J) i [.int .i64 x]=Ze (V.set k x)++J:=by
 subst e
 unfold spl
 have h1:i<(Ze V).length:=by rw [ints_length];exact hk
 rw [List.take_append_of_le_length (by omega),List.length_singleton,List.drop_append_of_le_length (by omega),← List.append_assoc]
 congr 1
 refine List.ext_getElem? fun q=>?_
 unfold Ze
 rw [List.getElem?_map,List.getElem?_set,List.append_assoc,List.getElem?_append]
 have hl:(List.take i (V.map (Value.int .i64))).length=i:=by rw [List.length_take,List.length_map];omega
 rw [hl]
 by_cases h:q<i
 · rw [if_pos h,if_neg (by omega),List.getElem?_take,if_pos h,List.getElem?_map]
 · rw [if_neg h]
   by_cases e:i=q
   · subst e;rw [if_pos rfl,if_pos hk,Nat.sub_self];rfl
   · rw [if_neg e,List.getElem?_append_right (by rw [List.length_singleton];omega),List.length_singleton,List.getElem?_drop,List.getElem?_map,show i+1+(q-i-1)=q by omega]
theorem Z90 {V:List Int} {k i:Nat} {x:Int} (hk:k<V.length) (e:i=k):spl (Ze V) i [.int .i64 x]=Ze (V.set k x):=by
 have h:=Zdj (J:=[]) (x:=x) hk e
 rwa [List.append_nil,List.append_nil] at h
theorem Zbe {F:List Fl} {A:List Int} {n i:Nat} {f:Fl} (hl:A.length=F.length) (hf:F[i]?=some f) (hn:f.fr<n∧f.to<n) (hne:f.fr≠f.to) :
   ((Z04 (F.take i) A n).set f.fr (na (Z04 (F.take i) A n) f.fr-na A i)).set f.to (na ((Z04 (F.take i) A n).set f.fr (na (Z04 (F.take i) A n) f.fr-na A i)) f.to+na A i)=Z04 (F.take (i+1)) A n:=by
 have h1:=ZP (F.take i) A n
 rw [Z0w (by rw [h1];exact hn.1),decide_eq_false hne,cond_false]
 refine List.ext_getElem? fun q=>?_
 by_cases hq:q<n
 · have e1:=Z0v (l:=((Z04 (F.take i) A n).set f.fr (na (Z04 (F.take i) A n) f.fr-na A i)).set f.to (na (Z04 (F.take i) A n) f.to+na A i)) (k:=q) (by rw [List.length_set,List.length_set,h1];exact hq)
   have e2:=Z0v (l:=Z04 (F.take (i+1)) A n) (k:=q) (by rw [ZP];exact hq)
   rw [e1,e2,Z0w (by rw [List.length_set,h1];exact hn.2),Z0w (by rw [h1];exact hn.1),Z2M hq,Z2M hq,Z2M hn.1,Z2M hn.2,Z75 hl hf]
   by_cases c1:f.to=q
   · subst c1
     rw [decide_eq_true rfl,decide_eq_false hne];simp only [cond_true,cond_false];congr 1;omega
   · by_cases c2:f.fr=q
     · subst c2
       rw [decide_eq_false c1,decide_eq_true rfl];simp only [cond_true,cond_false];congr 1;omega
     · rw [decide_eq_false c1,decide_eq_false c2];simp only [cond_false];congr 1;omega
 · rw [List.getElem?_eq_none (by rw [List.length_set,List.length_set,h1];omega),List.getElem?_eq_none (by rw [ZP];omega)]
theorem Zbf (A:List Int) (n:Nat):Z04 [] A n=List.replicate n 0:=by
 refine List.ext_getElem? fun q=>?_
 unfold Z04
 rw [List.getElem?_map,List.getElem?_replicate]
 by_cases h:q<n
 · rw [List.getElem?_range h,if_pos h];cases A<;>rfl
 · rw [List.getElem?_eq_none (by simp;omega),if_neg h];rfl
theorem Zgq {A:List Int} {l:List Wy} {n:Int} {j:Nat} {w:Wy} (h:l[j]?=some w):snd A (l.take (j+1)) n=(snd A (l.take j) n).set w.i (na (snd A (l.take j) n) w.i+w.s*n):=by
 unfold snd
 rw [List.take_add_one,h,Option.toList_some,List.foldl_append];rfl
theorem Zeh {n:Int} (hn:0≤n∧n≤300):∀ (l:List Wy) (A:List Int) (B:Int),(∀ w∈l,w.i<A.length)→(∀ k,-B≤na A k∧na A k≤B)→∀ k,-(B+300*(l.length:Int))≤na (snd A l n) k∧na (snd A l n) k≤B+300*(l.length:Int)
 | [],A,B,_,h,k=>by have:=h k;show _≤na A k∧na A k≤_;simp only [List.length_nil];omega
 | w::l,A,B,hl,h,k=>by
   have h1:∀ k,-(B+300)≤na (A.set w.i (na A w.i+w.s*n)) k∧na (A.set w.i (na A w.i+w.s*n)) k≤B+300:=fun k=>by
     rw [Z0w (hl w (by simp))]
     have:=h w.i
     have:=h k
     unfold Wy.s
     cases decide (w.i=k)<;>cases w.more<;>simp only [cond_true,cond_false]<;>omega
   have:=Zeh hn l _ (B+300) (fun v hv=>by rw [List.length_set];exact hl v (by simp [hv])) h1 k
   show _≤na (snd (A.set w.i (na A w.i+w.s*n)) l n) k∧na (snd (A.set w.i (na A w.i+w.s*n)) l n) k≤_
   rw [List.length_cons]
   omega
set_option maxHeartbeats 600000 in
theorem ZkH (d:DD) (hy:d.y.ok) (A:List Int) (hA:AOk d.y.flows A) (H:Z6) (R:Z5) [hD:MemRows (some ⟨d.bd,0,none⟩) 6 [d.l] R] [hF:MemRows (some ⟨d.fb,0,none⟩) 4 (ZN d.y.flows) R] [hM:Mem1 d.ba (cel 3 (Ze A++d.J)) H] :
    Fn Tryz.prog 254 [.pointer (some ⟨d.bd,0,none⟩)] H R (fun v H' R'=>∃ bv,v = .slice (some ⟨bv,0,none⟩) (d.y.cells+1) (d.y.cells+1)∧H'=H∧R'=RowsA (some ⟨bv,0,none⟩) 1 (irows (Z04 d.y.flows A (d.y.cells+1)))::R):=by
 have hcl:=Z2H hy
 have hfl:=Z07 hy
 refine Zc Tryz.func254 rfl Tryz.ntmps254 rfl ?_
 refine sqt 1 rfl (pur 1 rfl (sqt 5 rfl (pur 1 rfl ?_)))
 refine clV rfl Z4e rfl rfl (Z2g d.y d.a1 d.a2 d.a3 d.k1 d.k2 d.k3 hy d.bd _ _ (DKp.fact (sz:=6) (row:=d.l) (x:=[_,_]) rfl)) ?_
 refine sp rfl (PE.add rfl rfl (by omega)) rfl ?_
 rw [show ((d.y.cells:Nat):Int)+1=(((d.y.cells+1):Nat):Int) by omega]
 refine mkS (l:=(d.y.cells+1)) (c:=(d.y.cells+1)) rfl Z6j zl3 rfl rfl (Nat.le_refl _) ⟨by omega,by omega⟩ rfl (fun b9=>?_)
 rw [ZnG,← Zbf A]
 refine pur 1 rfl (Z0 (sqt 6 rfl (pur 1 rfl (sp rfl (PE.nilCheck rfl) rfl (sp rfl (PE.fA Z1u rfl) rfl (spL rfl rfl (lfB (sz:=6) Z4s rfl) rfl (sp rfl (PE.lenSl Zdm rfl) rfl (pur 1 rfl (Z2 ?_)))))))))
 refine Zd (ι:={i:Nat // i≤d.y.flows.length}) (fun i=>⟨[(0,.pointer (some ⟨d.bd,0,none⟩)),(3,.slice (some ⟨b9,0,none⟩) (d.y.cells+1) (d.y.cells+1)),(13,.slice (some ⟨d.fb,0,none⟩) d.y.flows.length d.cf),(14,.int .i64 (d.y.flows.length:Int)),(15,.int .i64 (i.1:Int))],(b9,cel 3 (Ze (Z04 (d.y.flows.take i.1) A (d.y.cells+1))))::H,R⟩) (fun i=>d.y.flows.length-i.1) ⟨0,Nat.zero_le _⟩ ?_ (fun i=>?_)
 exact Zf idH
 obtain ⟨i,hi⟩:=i
 dsimp only at hi ⊢
 refine sqt 1 rfl (pur 1 rfl (Z0 ?_))
 refine Z1 rfl ?_ ?_<;>intro hc0<;>try simp only [cS] at hc0
 obtain ⟨f9,hf9⟩:∃ x,d.y.flows[i]?=some x:=⟨_,List.getElem?_eq_getElem (by omega)⟩
 obtain ⟨⟨hn1,hn2⟩,hne⟩:=Z0i hy f9 (List.mem_of_getElem? hf9)
 have hb1:=Z8e hA (c:=f9.fr) i
 have hb2:=Z8e hA (c:=f9.to) i
 have hai:=hA.bnd i
 rw [← Z2M hn1] at hb1
 rw [← Z2M hn2] at hb2
 have hst:=Zbe (n:=(d.y.cells+1)) hA.len hf9 ⟨hn1,hn2⟩ hne
 have hsn:na ((Z04 (d.y.flows.take i) A (d.y.cells+1)).set f9.fr (na (Z04 (d.y.flows.take i) A (d.y.cells+1)) f9.fr-na A i)) f9.to=na (Z04 (d.y.flows.take i) A (d.y.cells+1)) f9.to:=by rw [Z0w (by rw [ZP];omega),dF hne];rfl
 refine Z3 (Z0 (Z2 (sqt 6 rfl (pur 1 rfl (sp rfl (PE.indexAddr Zb3 rfl rfl (by omega) (by omega)) rfl (spL rfl rfl (lfA Z6h (Z61 hf9) rfl) rfl (alc rfl Z4a rfl (fun b5=>pur 1 rfl ?_))))))))
 refine Zy (l':=Z0d f9) rfl rfl rfl Z8P rfl rfl rfl rfl (nl rfl) ?_
 refine Z0 ?_
 refine Za [0,0,2,7,15,0,32,96,224,0,992,2016,4095,8191,16383] (.tk 0 (.tk 1 (.ld 2 (.tk 3 (.ld 4 (tks 5 3 (.ld 8 (.tk 9 (.tk 10 (.ld 11 (.tk 12 (.tk 13 (.big 14 .done))))))))))))) Zl (by kernel_rfl) ?_
 refine Zg 1 rfl (tk rfl (PE.fA Z3R rfl) rfl (ld rfl rfl (lh (v:=.int .i64 (f9.fr:Int)) sc3 rfl rfl) rfl (tk rfl (PE.indexAddr Z0D rfl rfl (by omega) (by omega)) rfl (ld rfl rfl (lh sc3 rfl (Z1D (V:=(Z04 (d.y.flows.take i) A (d.y.cells+1))) (k:=f9.fr) (by simp only [List.length_set,ZP];omega) (by show 0+((f9.fr:Nat):Int).toNat*1=_;omega))) rfl (Zg 1 rfl (tk rfl (PE.nilCheck rfl) rfl (tk rfl (PE.fA Z0E rfl) rfl (ld rfl rfl (lfB (sz:=6) Z2w rfl) rfl (Zg 1 rfl (tk rfl (PE.indexAddr Z0D rfl rfl (by omega) (by omega)) rfl (ld rfl rfl (lh sc3 rfl (Z26 (k:=i) (by rw [hA.len];omega) (by show 0+((i:Nat):Int).toNat*1=_;omega))) rfl (tk rfl (PE.sub rfl rfl (by omega)) rfl (tk rfl (PE.indexAddr Z0D rfl rfl (by omega) (by omega)) rfl ?_)))))))))))))
 refine Zy (l':=Ze ((Z04 (d.y.flows.take i) A (d.y.cells+1)).set f9.fr (na (Z04 (d.y.flows.take i) A (d.y.cells+1)) f9.fr-na A i))) rfl rfl rfl cn3 rfl rfl rfl (Z90 (k:=f9.fr) (by simp only [List.length_set,ZP];omega) (by show 0+((f9.fr:Nat):Int).toNat*1=_;omega)) (by simp only [ints_length,List.length_set,ZP];show 0+((f9.fr:Nat):Int).toNat*1+1≤_;omega) ?_
 refine bgT ?_
 refine Za [0,0,2,7,15,0,32,96,224,0,992,2016,4095,8191,16383] (.tk 0 (.tk 1 (.ld 2 (.tk 3 (.ld 4 (tks 5 3 (.ld 8 (.tk 9 (.tk 10 (.ld 11 (.tk 12 (.tk 13 (.big 14 .done))))))))))))) Zl (by kernel_rfl) ?_
 refine Zg 1 rfl (tk rfl (PE.fA Z3S rfl) rfl (ld rfl rfl (lh (v:=.int .i64 (f9.to:Int)) sc3 rfl rfl) rfl (tk rfl (PE.indexAddr Z0D rfl rfl (by omega) (by omega)) rfl (ld rfl rfl (lh sc3 rfl (Z1D (V:=((Z04 (d.y.flows.take i) A (d.y.cells+1)).set f9.fr (na (Z04 (d.y.flows.take i) A (d.y.cells+1)) f9.fr-na A i))) (k:=f9.to) (by simp only [List.length_set,ZP];omega) (by show 0+((f9.to:Nat):Int).toNat*1=_;omega))) rfl (Zg 1 rfl (tk rfl (PE.nilCheck rfl) rfl (tk rfl (PE.fA Z0E rfl) rfl (ld rfl rfl (lfB (sz:=6) Z2w rfl) rfl (Zg 1 rfl (tk rfl (PE.indexAddr Z0D rfl rfl (by omega) (by omega)) rfl (ld rfl rfl (lh sc3 rfl (Z26 (k:=i) (by rw [hA.len];omega) (by show 0+((i:Nat):Int).toNat*1=_;omega))) rfl (tk rfl (PE.add rfl rfl (by omega)) rfl (tk rfl (PE.indexAddr Z0D rfl rfl (by omega) (by omega)) rfl ?_)))))))))))))
 refine Zy (l':=Ze (((Z04 (d.y.flows.take i) A (d.y.cells+1)).set f9.fr (na (Z04 (d.y.flows.take i) A (d.y.cells+1)) f9.fr-na A i)).set f9.to (na ((Z04 (d.y.flows.take i) A (d.y.cells+1)).set f9.fr (na (Z04 (d.y.flows.take i) A (d.y.cells+1)) f9.fr-na A i)) f9.to+na A i))) rfl rfl rfl cn3 rfl rfl rfl (Z90 (k:=f9.to) (by simp only [List.length_set,ZP];omega) (by show 0+((f9.to:Nat):Int).toNat*1=_;omega)) (by simp only [ints_length,List.length_set,ZP];show 0+((f9.to:Nat):Int).toNat*1+1≤_;omega) ?_
 refine bgT (sqr 2 rfl (sp rfl (PE.add rfl rfl (by omega)) rfl (pur 1 rfl ?_)))
 rw [hst]
 exact Zb ⟨i+1,by omega⟩ (fun w h=>h.del b5)
 obtain rfl:i=d.y.flows.length:=by omega
 rw [List.take_length]
 refine Z7 (Z8 (Z8 (Zi (sqt 2 rfl (pur 2 rfl (Z4 ?_))))))
 exact rtA rfl rfl rfl ⟨b9,rfl,rfl,rfl⟩ (fun w h=>St.intRows h)
set_option maxHeartbeats 600000 in
theorem ZgH (d:DD) (hy:d.y.ok) (A:List Int) (hA:A.length=d.y.flows.length) (hb:∀ k,-300≤na A k∧na A k≤300) (l:List Wy) (hl:∀ w∈l,w.i<d.y.flows.length) (hn:l.length≤1000) (n9:Int) (h9:0≤n9∧n9≤300) (pa:Option Addr) (pc:Nat) (H:Z6) (R:Z5) [hD:MemRows (some ⟨d.bd,0,none⟩) 6 [d.l] R] [hF:MemRows (some ⟨d.fb,0,none⟩) 4 (ZN d.y.flows) R] [hP:MemRows pa 2 (Zr l) R] :
    Fn Tryz.prog 203 [.pointer (some ⟨d.bd,0,none⟩),.slice pa l.length pc,.int .i64 n9] ((d.ba,cel 3 (Ze A++d.J))::H) R (fun _ H' R'=>H'=(d.ba,cel 3 (Ze (snd A l n9)++d.J))::H∧R'=R):=by
 have hfl:=Z07 hy
 refine Zc Tryz.func203 rfl Tryz.ntmps203 rfl ?_
 refine sqt 3 rfl (pur 1 rfl (sp rfl (PE.lenSl Z5k rfl) rfl (pur 1 rfl (Z2 ?_))))
 refine Zd (ι:={j:Nat // j≤l.length}) (fun j=>⟨[(0,.pointer (some ⟨d.bd,0,none⟩)),(2,.int .i64 n9),(8,.slice pa l.length pc),(9,.int .i64 (l.length:Int)),(10,.int .i64 (j.1:Int))],(d.ba,cel 3 (Ze (snd A (l.take j.1) n9)++d.J))::H,R⟩) (fun j=>l.length-j.1) ⟨0,Nat.zero_le _⟩ ?_ (fun j=>?_)
 exact Zf idH
 obtain ⟨j,hj⟩:=j
 dsimp only at hj ⊢
 refine sqt 1 rfl (pur 1 rfl (Z0 ?_))
 refine Z1 rfl ?_ ?_<;>intro hc0<;>try simp only [cS] at hc0
 obtain ⟨w9,hw9⟩:∃ x,l[j]?=some x:=⟨_,List.getElem?_eq_getElem (by omega)⟩
 have hwi:=hl w9 (List.mem_of_getElem? hw9)
 have hAj:(snd A (l.take j) n9).length=d.y.flows.length:=by rw [Z9i];exact hA
 have hab:=Zeh h9 (l.take j) A 300 (fun w hw=>by rw [hA];exact hl w (List.mem_of_mem_take hw)) hb w9.i
 rw [List.length_take,Nat.min_eq_left hj] at hab
 have hst:=Zgq (A:=A) (n:=n9) hw9
 refine Zj (a:=pa) (sz:=2) (rows:=Zr l) (ZV (Z28 hw9)) (fun bp op he=>?_)
 subst he
 refine Z3 (Z0 (Z2 (sqt 4 rfl (sp rfl (PE.indexAddr Z5L rfl rfl (by omega) (by omega)) rfl (spL rfl rfl (lfA Z2a (Z28 hw9) rfl) rfl (alc rfl Z3e rfl (fun b7=>?_)))))))
 refine Zy (l':=wyr w9) rfl rfl rfl Z8Q rfl rfl rfl rfl (nl rfl) ?_
 refine sqt 2 rfl (sp rfl (PE.fA Z6Q rfl) rfl (spL rfl rfl (lh (v:=.bool w9.more) sc4 rfl rfl) rfl ?_))
 refine Z1 rfl ?_ ?_<;>intro hc1
 refine Za [0,1,3,7,0,16,63,127,0,511,1023,2047] (tks 0 3 (.ld 3 (.tk 4 (.ld 5 (.tk 6 (.ld 7 (tks 8 3 (.big 11 .done)))))))) Zl (by kernel_rfl) ?_
 refine Zg 1 rfl (tk rfl (PE.nilCheck rfl) rfl (tk rfl (PE.fA Z0E rfl) rfl (ld rfl rfl (lfB (sz:=6) Z2w rfl) rfl (tk rfl (PE.fA Z2k rfl) rfl (ld rfl rfl (lh (v:=.int .i64 (w9.i:Int)) sc3 rfl rfl) rfl (tk rfl (PE.indexAddr Z0D rfl rfl (by omega) (by omega)) rfl (ld rfl rfl (lh sc3 rfl (Z26 (k:=w9.i) (by rw [hAj];exact hwi) (by show 0+((w9.i:Nat):Int).toNat*1=_;omega))) rfl (Zg 1 rfl (tk rfl (PE.add rfl rfl (by omega)) rfl (tk rfl (PE.indexAddr Z0D rfl rfl (by omega) (by omega)) rfl ?_))))))))))
 refine Zy (l':=Ze ((snd A (l.take j) n9).set w9.i (na (snd A (l.take j) n9) w9.i+n9))++d.J) rfl rfl rfl cn3 rfl rfl rfl (Zdj (k:=w9.i) (by rw [hAj];exact hwi) (by show 0+((w9.i:Nat):Int).toNat*1=_;omega)) (by rw [List.length_append,ints_length,hAj];show 0+((w9.i:Nat):Int).toNat*1+1≤_;omega) ?_
 refine bgT (sqr 2 rfl (sp rfl (PE.add rfl rfl (by omega)) rfl (pur 1 rfl ?_)))
 rw [show w9.s*n9=n9 by unfold Wy.s;rw [hc1,cond_true,Int.one_mul]] at hst
 exact Zb ⟨j+1,by omega⟩ (fun w h=>by dsimp only;rw [hst];exact h.del b7)
 refine Za [0,1,3,7,0,16,63,127,0,511,1023,2047] (tks 0 3 (.ld 3 (.tk 4 (.ld 5 (.tk 6 (.ld 7 (tks 8 3 (.big 11 .done)))))))) Zl (by kernel_rfl) ?_
 refine Zg 1 rfl (tk rfl (PE.nilCheck rfl) rfl (tk rfl (PE.fA Z0E rfl) rfl (ld rfl rfl (lfB (sz:=6) Z2w rfl) rfl (tk rfl (PE.fA Z2k rfl) rfl (ld rfl rfl (lh (v:=.int .i64 (w9.i:Int)) sc3 rfl rfl) rfl (tk rfl (PE.indexAddr Z0D rfl rfl (by omega) (by omega)) rfl (ld rfl rfl (lh sc3 rfl (Z26 (k:=w9.i) (by rw [hAj];exact hwi) (by show 0+((w9.i:Nat):Int).toNat*1=_;omega))) rfl (Zg 1 rfl (tk rfl (PE.sub rfl rfl (by omega)) rfl (tk rfl (PE.indexAddr Z0D rfl rfl (by omega) (by omega)) rfl ?_))))))))))
 refine Zy (l':=Ze ((snd A (l.take j) n9).set w9.i (na (snd A (l.take j) n9) w9.i-n9))++d.J) rfl rfl rfl cn3 rfl rfl rfl (Zdj (k:=w9.i) (by rw [hAj];exact hwi) (by show 0+((w9.i:Nat):Int).toNat*1=_;omega)) (by rw [List.length_append,ints_length,hAj];show 0+((w9.i:Nat):Int).toNat*1+1≤_;omega) ?_
 refine bgT (sqr 2 rfl (sp rfl (PE.add rfl rfl (by omega)) rfl (pur 1 rfl ?_)))
 rw [show w9.s*n9 = -n9 by unfold Wy.s;rw [hc1,cond_false,Int.neg_one_mul]] at hst
 exact Zb ⟨j+1,by omega⟩ (fun w h=>by dsimp only;rw [hst,← Int.sub_eq_add_neg];exact h.del b7)
 obtain rfl:j=l.length:=by omega
 rw [List.take_length]
 refine Z7 (Z8 (Z8 (Zi ?_)))
 exact Z22 (vs:=[]) rfl .nil rfl ⟨rfl,rfl⟩ idH
theorem Z8A:apT Tryz.prog 309=some (312,2,16):=by kernel_rfl
theorem Z2h:eqB Tryz.prog 10000 3=some (false,1):=by kernel_rfl
theorem Z4k:Z0O Tryz.prog 348=some (3,309):=by kernel_rfl
theorem Z2Y:Z38 Tryz.prog 10000 3=true:=by kernel_rfl
theorem ZnA:ZD Tryz.prog 312=some [(0,1),(1,1)]:=by kernel_rfl
theorem Zef:slE Tryz.prog 309=some (312,2):=by kernel_rfl
theorem Zbq:zvl Tryz.prog 309=some (.slice none 0 0):=by kernel_rfl
def Z1g (F:List Fl) (A:List Int):Nat→Nat→List Wy
 | 0,_=>[]
 | k+1,c=>(Z1g F A k c++(bif decide ((fl F k).fr=c)&&decide (na A k<(fl F k).hi) then [⟨k,true⟩] else []))++(bif decide ((fl F k).to=c)&&decide ((fl F k).lo<na A k) then [⟨k,false⟩] else [])
theorem ZaU {F:List Fl} {A:List Int} {c:Nat} {w:Wy}:∀ {k:Nat},w∈Z1g F A k c↔w.i<k∧w.fr F=c∧1≤w.res F A
 | 0=>by constructor;(intro h;cases h);(intro h;omega)
 | k+1=>by
   unfold Z1g
   rw [List.mem_append,List.mem_append,ZaU]
   obtain ⟨i,m⟩:=w
   unfold Wy.fr Wy.res
   dsimp only
   constructor
   · rintro ((⟨h1,h2,h3⟩ | h) | h)
     · exact ⟨by omega,h2,h3⟩
     · cases hb:decide ((fl F k).fr=c)&&decide (na A k<(fl F k).hi) with
       | false=>rw [hb] at h;cases h
       | true =>
         rw [hb,cond_true,List.mem_singleton] at h
         cases h
         simp only [Bool.and_eq_true,decide_eq_true_eq] at hb
         exact ⟨by omega,hb.1,by show 1≤(fl F k).hi-na A k;omega⟩
     · cases hb:decide ((fl F k).to=c)&&decide ((fl F k).lo<na A k) with
       | false=>rw [hb] at h;cases h
       | true =>
         rw [hb,cond_true,List.mem_singleton] at h
         cases h
         simp only [Bool.and_eq_true,decide_eq_true_eq] at hb
         exact ⟨by omega,hb.1,by show 1≤na A k-(fl F k).lo;omega⟩
   · rintro ⟨h1,h2,h3⟩
     by_cases e:i=k
     · subst e
       cases m with
       | true =>
         refine .inl (.inr ?_)
         have h3:1≤(fl F i).hi-na A i:=h3
         have h2:(fl F i).fr=c:=h2
         rw [decide_eq_true h2,decide_eq_true (show na A i<(fl F i).hi by omega)];simp
       | false =>
         refine .inr ?_
         have h3:1≤na A i-(fl F i).lo:=h3
         have h2:(fl F i).to=c:=h2
         rw [decide_eq_true h2,decide_eq_true (show (fl F i).lo<na A i by omega)];simp
     · exact .inl (.inl ⟨by omega,h2,h3⟩)
theorem Z2Q (F:List Fl) (A:List Int) (c:Nat):∀ k,(Z1g F A k c).length≤2*k
 | 0=>Nat.le_refl _
 | k+1=>by
   have:=Z2Q F A c k
   unfold Z1g
   rw [List.length_append,List.length_append]
   cases decide ((fl F k).fr=c)&&decide (na A k<(fl F k).hi)<;>cases decide ((fl F k).to=c)&&decide ((fl F k).lo<na A k)<;>simp only [cond_true,cond_false,List.length_nil,List.length_singleton]<;>omega
structure WB where
 c:Nat
 l:List Wy
 o:OSl 312 2 (Zr l)
def GW:List WB→Z6
 | []=>[]
 | x::ws=>x.o.G++GW ws
def kvW (ws:List WB):KV:=ws.map fun x=>([(x.c:Int)],x.o.fs)
def wlW:List WB→Nat→List Wy
 | [],_=>[]
 | x::ws,c=>bif decide (x.c=c) then x.l else wlW ws c
theorem Z36 (ws:List WB):∀ e∈kvW ws,e.1.length=1:=fun e he=>by obtain ⟨x,_,rfl⟩:=List.mem_map.1 he;rfl
abbrev ZeR:Value:=.slice none 0 0
theorem Zhx {A B C H:Z6} (h:(A++B).Perm C):(A++(B++H)).Perm (C++H):=by rw [← List.append_assoc];exact List.Perm.append_right H h
theorem ZeE:∀ (ws:List WB) (c:Nat),∃ (o:OSl 312 2 (Zr (wlW ws c))) (rest:Z6),(GW ws).Perm (o.G++rest)∧((kvW ws).get [(c:Int)]).getD ZeR=o.fs ∧
   ∀ (l':List Wy) (o':OSl 312 2 (Zr l')),∃ ws',kvW ws'=(kvW ws).put [(c:Int)] o'.fs∧(o'.G++rest).Perm (GW ws')∧∀ c',wlW ws' c'=bif decide (c=c') then l' else wlW ws c'
 | [],c=>⟨OSl.nil _ _,[],.refl _,rfl,fun l' o'=>⟨[⟨c,l',o'⟩],rfl,.refl _,fun c'=>rfl⟩⟩
 | x::ws,c=>by
   by_cases e:x.c=c
   · have h1:wlW (x::ws) c=x.l:=by unfold wlW;rw [decide_eq_true e];rfl
     refine ⟨x.o.cast (by rw [h1]),GW ws,.refl _,?_,fun l' o'=>⟨⟨c,l',o'⟩::ws,?_,.refl _,fun c'=>?_⟩⟩
     · show ((((([(x.c:Int)],x.o.fs)::kvW ws):KV).find? fun e=>decide (e.1=[(c:Int)])).map (·.2)).getD ZeR=x.o.fs
       rw [List.find?_cons_of_pos (by simp [e])];rfl
     · show ([(c:Int)],o'.fs)::kvW ws=KV.put (([(x.c:Int)],x.o.fs)::kvW ws) [(c:Int)] o'.fs
       unfold KV.put;rw [e,decide_eq_true rfl];rfl
     · show (bif decide (c=c') then l' else wlW ws c')=bif decide (c=c') then l' else (bif decide (x.c=c') then x.l else wlW ws c')
       rw [e];cases decide (c=c')<;>rfl
   · have h1:wlW (x::ws) c=wlW ws c:=by show (bif decide (x.c=c) then x.l else wlW ws c)=_;rw [decide_eq_false e];rfl
     have e2:¬ [(x.c:Int)]=[(c:Int)]:=fun h=>e (by simp only [List.cons.injEq,and_true] at h;omega)
     obtain ⟨o,rest,hp,hg,hw⟩:=ZeE ws c
     refine ⟨o.cast (by rw [h1]),x.o.G++rest,?_,?_,fun l' o'=>?_⟩
     · exact (List.Perm.append_left _ hp).trans (ZF _ _ _)
     · show ((((([(x.c:Int)],x.o.fs)::kvW ws):KV).find? fun e=>decide (e.1=[(c:Int)])).map (·.2)).getD ZeR=o.fs
       rw [List.find?_cons_of_neg (by simpa using e2)];exact hg
     · obtain ⟨ws',h2,h3,h4⟩:=hw l' o'
       refine ⟨x::ws',?_,?_,fun c'=>?_⟩
       · show ([(x.c:Int)],x.o.fs)::kvW ws'=KV.put (([(x.c:Int)],x.o.fs)::kvW ws) [(c:Int)] o'.fs
         rw [h2];conv=>rhs;unfold KV.put
         rw [decide_eq_false e2];rfl
       · exact (ZF _ _ _).trans (List.Perm.append_left _ h3)
       · show (bif decide (x.c=c') then x.l else wlW ws' c')=bif decide (c=c') then l' else (bif decide (x.c=c') then x.l else wlW ws c')
         rw [h4 c']
         by_cases e3:x.c=c'
         · rw [decide_eq_true e3,decide_eq_false (show ¬ c=c' by omega)];rfl
         · rw [decide_eq_false e3];rfl
def Zoe:Value→Option Addr×Nat
 | .slice a _ c=>(a,c)
 | _=>(none,0)
def GWF (ws:List WB):World→Prop:=fun w=>∀ x∈ws,RowsA (Zoe x.o.fs).1 2 (Zr x.l) w
theorem St.gw:∀ {ws:List WB} {H:Z6} {R:Z5} {w:World},St (GW ws++H) R w→St H (GWF ws::R) w
 | [],H,R,w,h=>St.also h (f:=GWF []) (fun w9 _ x hx=>by cases hx)
 | x::ws,H,R,w,h=>by
   obtain ⟨a,c,e,hf⟩:=x.o.freeze
   have h1:=hf (show St (x.o.G++(GW ws++H)) R w by rw [← List.append_assoc];exact h)
   have h2:=St.gw h1
   have h3:=h2.also (f:=GWF (x::ws)) (fun w9 hw y hy=>by
     rcases List.mem_cons.1 hy with rfl | hy
     · rw [e];exact hw _ (by simp [Zoe])
     · exact hw (GWF ws) (by simp) y hy)
   exact h3.facts (fun g hg=>by simp only [List.mem_cons] at hg ⊢;rcases hg with h8 | h8<;>simp [h8])
def Z9x (m:Nat) (kv:KV) (sl:Nat→Option Addr×Nat) (W:Nat→List Wy):World→Prop:=fun w=>w.heap[m]?=some (ZJ false kv)∧∀ c,RowsA (sl c).1 2 (Zr (W c)) w
def Zqg (kv:KV) (sl:Nat→Option Addr×Nat) (W:Nat→List Wy):Prop:=(∀ e∈kv,e.1.length=1)∧∀ c:Nat,(kv.get [(c:Int)]).getD ZeR = .slice (sl c).1 (W c).length (sl c).2
def slW (ws:List WB) (c:Nat):Option Addr×Nat:=Zoe (((kvW ws).get [(c:Int)]).getD ZeR)
theorem Z5z:∀ (ws:List WB) (c:Nat),(wlW ws c=[]∧((kvW ws).get [(c:Int)]).getD ZeR=ZeR)∨∃ x∈ws,wlW ws c=x.l∧((kvW ws).get [(c:Int)]).getD ZeR=x.o.fs
 | [],c=>.inl ⟨rfl,rfl⟩
 | x::ws,c=>by
   by_cases e:x.c=c
   · refine .inr ⟨x,by simp,by unfold wlW;rw [decide_eq_true e];rfl,?_⟩
     show ((((([(x.c:Int)],x.o.fs)::kvW ws):KV).find? fun e=>decide (e.1=[(c:Int)])).map (·.2)).getD ZeR=x.o.fs
     rw [List.find?_cons_of_pos (by simp [e])];rfl
   · have e2:¬ [(x.c:Int)]=[(c:Int)]:=fun h=>e (by simp only [List.cons.injEq,and_true] at h;omega)
     have h1:wlW (x::ws) c=wlW ws c:=by show (bif decide (x.c=c) then x.l else wlW ws c)=_;rw [decide_eq_false e];rfl
     have h2:(kvW (x::ws)).get [(c:Int)]=(kvW ws).get [(c:Int)]:=by
       show ((((([(x.c:Int)],x.o.fs)::kvW ws):KV).find? fun e=>decide (e.1=[(c:Int)])).map (·.2))=_
       rw [List.find?_cons_of_neg (by simpa using e2)];rfl
     rw [h1,h2]
     rcases Z5z ws c with h | ⟨y,hy,h⟩
     · exact .inl h
     · exact .inr ⟨y,by simp [hy],h⟩
theorem ZjS {ws:List WB}:Zqg (kvW ws) (slW ws) (wlW ws):=⟨Z36 ws,fun c=>by
 unfold slW
 rcases Z5z ws c with ⟨h1,h2⟩ | ⟨x,_,h1,h2⟩
 · rw [h1,h2];rfl
 · obtain ⟨a,k,e,_⟩:=x.o.freeze
   rw [h1,h2,e];simp [Zoe]⟩
theorem St.wysF {ws:List WB} {m:Nat} {H:Z6} {R:Z5} {w:World} (h:St ((m,ZJ false (kvW ws))::(GW ws++H)) R w):St H (Z9x m (kvW ws) (slW ws) (wlW ws)::R) w:=by
 have h1:=St.gw (St.freeze h)
 have h2:=h1.also (f:=Z9x m (kvW ws) (slW ws) (wlW ws)) (fun w9 hw=>by
   refine ⟨hw (fun w=>w.heap[m]?=some (ZJ false (kvW ws))) (by simp),fun c=>?_⟩
   unfold slW
   rcases Z5z ws c with ⟨e1,e2⟩ | ⟨x,hx,e1,e2⟩
   · rw [e1];intro i row hi;simp [Zr] at hi
   · rw [e1,e2];exact hw (GWF ws) (by simp) x hx)
 exact h2.facts (fun g hg=>by simp only [List.mem_cons] at hg ⊢;rcases hg with h8 | h8<;>simp [h8])
theorem St.wysAt {m:Nat} {kv:KV} {sl:Nat→Option Addr×Nat} {W:Nat→List Wy} {H:Z6} {R:Z5} {w:World} [q:MemF (Z9x m kv sl W) R] (h:St H R w) (c:Nat):St H (RowsA (sl c).1 2 (Zr (W c))::R) w:=h.also fun _ hw=>(hw _ q.mem).2 c
set_option maxHeartbeats 800000 in
theorem ZgI (d:DD) (hy:d.y.ok) (A:List Int) (hA:AOk d.y.flows A) (H:Z6) (R:Z5) [hD:MemRows (some ⟨d.bd,0,none⟩) 6 [d.l] R] [hF:MemRows (some ⟨d.fb,0,none⟩) 4 (ZN d.y.flows) R] [hM:Mem1 d.ba (cel 3 (Ze A++d.J)) H] :
    Fn Tryz.prog 258 [.pointer (some ⟨d.bd,0,none⟩)] H R (fun v H' R'=>∃ m kv sl,v = .map (some m)∧Zqg kv sl (Z1g d.y.flows A d.y.flows.length)∧H'=H∧R'=Z9x m kv sl (Z1g d.y.flows A d.y.flows.length)::R):=by
 have hfl:=Z07 hy
 refine Zc Tryz.func258 rfl Tryz.ntmps258 rfl ?_
 refine sqt 1 rfl (pur 1 rfl (sqt 2 rfl ?_))
 refine mkm rfl rfl false (fun m6=>?_)
 refine pur 1 rfl (Z0 (sqt 6 rfl (pur 1 rfl (sp rfl (PE.nilCheck rfl) rfl (sp rfl (PE.fA Z1u rfl) rfl (spL rfl rfl (lfB (sz:=6) Z4s rfl) rfl (sp rfl (PE.lenSl Zdm rfl) rfl (pur 1 rfl (Z2 ?_)))))))))
 refine Zd (ι:={x:Nat×List WB // x.1≤d.y.flows.length∧∀ c,wlW x.2 c=Z1g d.y.flows A x.1 c}) (fun x=>⟨[(0,.pointer (some ⟨d.bd,0,none⟩)),(3,.map (some m6)),(10,.slice (some ⟨d.fb,0,none⟩) d.y.flows.length d.cf),(11,.int .i64 (d.y.flows.length:Int)),(12,.int .i64 (x.1.1:Int))],(m6,ZJ false (kvW x.1.2))::(GW x.1.2++H),R⟩) (fun x=>d.y.flows.length-x.1.1) ⟨(0,[]),Nat.zero_le _,fun c=>rfl⟩ ?_ (fun x=>?_)
 exact Zf idH
 obtain ⟨⟨k,ws⟩,hk,hws⟩:=x
 dsimp only at hk hws ⊢
 refine sqt 1 rfl (pur 1 rfl (Z0 ?_))
 refine Z1 rfl ?_ ?_<;>intro hc0<;>try simp only [cS] at hc0
 obtain ⟨f9,hf9⟩:∃ x,d.y.flows[k]?=some x:=⟨_,List.getElem?_eq_getElem (by omega)⟩
 have hfk:=Z0g hf9
 refine Z3 (Z0 (Z2 (sqt 6 rfl (pur 1 rfl (sp rfl (PE.indexAddr Zb3 rfl rfl (by omega) (by omega)) rfl (spL rfl rfl (lfA Z6h (Z61 hf9) rfl) rfl (alc rfl Z4a rfl (fun b5=>pur 1 rfl ?_))))))))
 refine Zy (l':=Z0d f9) rfl rfl rfl Z8P rfl rfl rfl rfl (nl rfl) ?_
 refine Z0 (Z0 ?_)
 refine Za [0,1,3,7,0,31,63,0,128,511] (tks 0 3 (.ld 3 (.tk 4 (.tk 5 (.ld 6 (.tk 7 (.ld 8 (.tk 9 .done)))))))) Zl (by kernel_rfl) ?_
 refine Zg 1 rfl (tk rfl (PE.nilCheck rfl) rfl (tk rfl (PE.fA Z0E rfl) rfl (ld rfl rfl (lfB (sz:=6) Z2w rfl) rfl (Zg 1 rfl (tk rfl (PE.indexAddr Z0D rfl rfl (by omega) (by omega)) rfl (ld rfl rfl (lh sc3 rfl (Z26 (k:=k) (by rw [hA.len];omega) (by show 0+((k:Nat):Int).toNat*1=_;omega))) rfl (tk rfl (PE.fA Z3T rfl) rfl (ld rfl rfl (lh (v:=.int .i64 f9.hi) sc3 rfl rfl) rfl (Zg 1 rfl ?_)))))))))
 refine Z5w (ι:={ws:List WB // ∀ c,wlW ws c=(Z1g d.y.flows A k c++(bif decide ((fl d.y.flows k).fr=c)&&decide (na A k<(fl d.y.flows k).hi) then [⟨k,true⟩] else []))}) (fun x=>⟨[(0,.pointer (some ⟨d.bd,0,none⟩)),(3,.map (some m6)),(10,.slice (some ⟨d.fb,0,none⟩) d.y.flows.length d.cf),(11,.int .i64 (d.y.flows.length:Int)),(12,.int .i64 (k:Int)),(4,.int .i64 (k:Int)),(5,.pointer (some ⟨b5,0,none⟩))],(b5,cel 307 (Z0d f9))::(m6,ZJ false (kvW x.1))::(GW x.1++H),R⟩) ?_ ?_
 refine Z1 rfl ?_ ?_<;>intro hc1<;>try simp only [cS] at hc1
 obtain ⟨o9,rest,hp9,hg9,hput⟩:=ZeE ws f9.fr
 refine Sy.heap (H':=(b5,cel 307 (Z0d f9))::(m6,ZJ false (kvW ws))::(o9.G++(rest++H))) (fun w h=>h.perm (List.Perm.cons _ (List.Perm.cons _ ((List.Perm.append_right H hp9).trans (by rw [List.append_assoc]))))) ?_
 refine Za [0,0,2,0,0,16,56,0,128,384,1016,2047] (.tk 0 (.tk 1 (.ld 2 (.tk 3 (.tk 4 (.ld 5 (.ld 6 (.tk 7 (.tk 8 (.big 9 (.big 10 (.big 11 .done)))))))))))) Zl (by kernel_rfl) ?_
 refine Zg 1 rfl (tk rfl (PE.fA Z3R rfl) rfl (ld rfl rfl (lh (v:=.int .i64 (f9.fr:Int)) sc3 rfl rfl) rfl (Zg 1 rfl (tk rfl (PE.fA Z3R rfl) rfl (ld rfl rfl (lh (v:=.int .i64 (f9.fr:Int)) sc3 rfl rfl) rfl ?_)))))
 refine ldK rfl rfl rfl (Z1n (b:=false) (kvW ws) [(f9.fr:Int)] Z4k (KeyT.of Z2h Z2Y) (ZQ Zbq) rfl (Z36 ws) hg9) rfl ?_
 refine Zg 1 rfl (tk rfl (PE.build (out:=[_,_]) ZnA Z3e rfl rfl) rfl ?_)
 refine bsl (out:=[_,_]) rfl Zef Z3e rfl rfl rfl rfl rfl rfl (fun b36=>?_)
 refine bg (fun w hs=>⟨(Z1n (b:=false) (kvW ws) [(f9.fr:Int)] Z4k (KeyT.of Z2h Z2Y) (ZQ Zbq) rfl (Z36 ws) hg9) w hs,(lh (v:=.int .i64 (f9.fr:Int)) sc3 rfl rfl) w hs,(lh (v:=.int .i64 (f9.fr:Int)) sc3 rfl rfl) w hs,trivial⟩) ?_
 refine apO (o9) rfl Z8A rfl rfl (Z0y (row:=wyr ⟨k,true⟩) rfl) rfl rfl ((by have:=Z2Q d.y.flows A f9.fr k;simp only [Zr,List.length_map,List.length_cons,List.length_nil,hws];first | omega | (split<;>simp only [List.length_append,List.length_cons,List.length_nil]<;>omega))) rfl (fun o37=>?_)
 refine bg (fun w hs=>⟨trivial,trivial,(lh (v:=.int .i64 (f9.fr:Int)) sc3 rfl rfl) w hs,trivial⟩) ?_
 refine mpu (kvW ws) [(f9.fr:Int)] rfl Z4k (KeyT.of Z2h Z2Y) rfl rfl rfl rfl (Z36 ws) ?_
 refine bgT ?_
 obtain ⟨ws',e1,e2,e3⟩:=hput (wlW ws f9.fr++[⟨k,true⟩]) (o37.cast (by simp [Zr,wyr]))
 rw [show (kvW ws).put [(f9.fr:Int)] o37.fs=kvW ws' from e1.symm]
 exact Z9n ⟨ws',fun c=>by
   rw [e3 c,hws,hws,hfk,dT (show na A k<f9.hi from hc1),Bool.and_true]
   by_cases e:f9.fr=c
   · subst e;rw [decide_eq_true rfl];rfl
   · rw [decide_eq_false e];simp⟩ sbA (fun w h=>((h.del b36).perm (List.Perm.cons _ (List.Perm.cons _ (Zhx e2)))))
 refine Z3 ?_
 exact Z1r ⟨ws,fun c=>by rw [hws,hfk,dF (show ¬ na A k<f9.hi by omega),Bool.and_false];simp⟩ idH
 rintro ⟨ws1,hws1⟩
 dsimp only at hws1 ⊢
 refine Z0 ?_
 refine Za [0,1,3,7,0,31,63,0,128,511] (tks 0 3 (.ld 3 (.tk 4 (.tk 5 (.ld 6 (.tk 7 (.ld 8 (.tk 9 .done)))))))) Zl (by kernel_rfl) ?_
 refine Zg 1 rfl (tk rfl (PE.nilCheck rfl) rfl (tk rfl (PE.fA Z0E rfl) rfl (ld rfl rfl (lfB (sz:=6) Z2w rfl) rfl (Zg 1 rfl (tk rfl (PE.indexAddr Z0D rfl rfl (by omega) (by omega)) rfl (ld rfl rfl (lh sc3 rfl (Z26 (k:=k) (by rw [hA.len];omega) (by show 0+((k:Nat):Int).toNat*1=_;omega))) rfl (tk rfl (PE.fA Z35 rfl) rfl (ld rfl rfl (lh (v:=.int .i64 f9.lo) sc3 rfl rfl) rfl (Zg 1 rfl ?_)))))))))
 refine Z1 rfl ?_ ?_<;>intro hc2<;>try simp only [cS] at hc2
 obtain ⟨o9,rest,hp9,hg9,hput⟩:=ZeE ws1 f9.to
 refine Sy.heap (H':=(b5,cel 307 (Z0d f9))::(m6,ZJ false (kvW ws1))::(o9.G++(rest++H))) (fun w h=>h.perm (List.Perm.cons _ (List.Perm.cons _ ((List.Perm.append_right H hp9).trans (by rw [List.append_assoc]))))) ?_
 refine Za [0,0,2,0,0,16,56,0,128,384,1016,2047] (.tk 0 (.tk 1 (.ld 2 (.tk 3 (.tk 4 (.ld 5 (.ld 6 (.tk 7 (.tk 8 (.big 9 (.big 10 (.big 11 .done)))))))))))) Zl (by kernel_rfl) ?_
 refine Zg 1 rfl (tk rfl (PE.fA Z3S rfl) rfl (ld rfl rfl (lh (v:=.int .i64 (f9.to:Int)) sc3 rfl rfl) rfl (Zg 1 rfl (tk rfl (PE.fA Z3S rfl) rfl (ld rfl rfl (lh (v:=.int .i64 (f9.to:Int)) sc3 rfl rfl) rfl ?_)))))
 refine ldK rfl rfl rfl (Z1n (b:=false) (kvW ws1) [(f9.to:Int)] Z4k (KeyT.of Z2h Z2Y) (ZQ Zbq) rfl (Z36 ws1) hg9) rfl ?_
 refine Zg 1 rfl (tk rfl (PE.build (out:=[_,_]) ZnA Z3e rfl rfl) rfl ?_)
 refine bsl (out:=[_,_]) rfl Zef Z3e rfl rfl rfl rfl rfl rfl (fun b57=>?_)
 refine bg (fun w hs=>⟨(Z1n (b:=false) (kvW ws1) [(f9.to:Int)] Z4k (KeyT.of Z2h Z2Y) (ZQ Zbq) rfl (Z36 ws1) hg9) w hs,(lh (v:=.int .i64 (f9.to:Int)) sc3 rfl rfl) w hs,(lh (v:=.int .i64 (f9.to:Int)) sc3 rfl rfl) w hs,trivial⟩) ?_
 refine apO (o9) rfl Z8A rfl rfl (Z0y (row:=wyr ⟨k,false⟩) rfl) rfl rfl ((by have:=Z2Q d.y.flows A f9.to k;simp only [Zr,List.length_map,List.length_cons,List.length_nil,hws1,List.length_append,Bool.cond_eq_ite];first | omega | (split<;>simp only [List.length_append,List.length_cons,List.length_nil]<;>omega))) rfl (fun o58=>?_)
 refine bg (fun w hs=>⟨trivial,trivial,(lh (v:=.int .i64 (f9.to:Int)) sc3 rfl rfl) w hs,trivial⟩) ?_
 refine mpu (kvW ws1) [(f9.to:Int)] rfl Z4k (KeyT.of Z2h Z2Y) rfl rfl rfl rfl (Z36 ws1) ?_
 refine bgT (sqr 2 rfl (sp rfl (PE.add rfl rfl (by omega)) rfl (pur 1 rfl ?_)))
 obtain ⟨ws',e1,e2,e3⟩:=hput (wlW ws1 f9.to++[⟨k,false⟩]) (o58.cast (by simp [Zr,wyr]))
 rw [show (kvW ws1).put [(f9.to:Int)] o58.fs=kvW ws' from e1.symm]
 exact Zv ⟨(k+1,ws'),by dsimp only;omega,fun c=>by
   rw [e3 c,hws1,hws1]
   show _=_++(bif decide ((fl d.y.flows k).to=c)&&decide ((fl d.y.flows k).lo<na A k) then ([⟨k,false⟩]:List Wy) else [])
   rw [hfk,dT (show f9.lo<na A k by omega),Bool.and_true]
   by_cases e:f9.to=c
   · subst e;rw [decide_eq_true rfl];rfl
   · rw [decide_eq_false e];simp⟩ (by dsimp only;omega) sbA (fun w h=>(((h.del b57).perm (List.Perm.cons _ (List.Perm.cons _ (Zhx e2)))).del b5))
 refine Z3 (sqr 2 rfl (sp rfl (PE.add rfl rfl (by omega)) rfl (pur 1 rfl ?_)))
 exact Zv ⟨(k+1,ws1),by dsimp only;omega,fun c=>by
   rw [hws1]
   show _=_++(bif decide ((fl d.y.flows k).to=c)&&decide ((fl d.y.flows k).lo<na A k) then ([⟨k,false⟩]:List Wy) else [])
   rw [hfk,dF (show ¬ f9.lo<na A k by omega),Bool.and_false];simp⟩ (by dsimp only;omega) sbA (fun w h=>h.del b5)
 obtain rfl:k=d.y.flows.length:=by omega
 have hwf:wlW ws=Z1g d.y.flows A d.y.flows.length:=funext hws
 refine Z7 (Z8 (Z8 (Zi (sqt 2 rfl (pur 2 rfl (Z4 ?_))))))
 exact rtA rfl rfl rfl ⟨m6,kvW ws,slW ws,rfl,by rw [← hwf];exact ZjS,rfl,rfl⟩ (fun w h=>by rw [← hwf];exact St.wysF h)
theorem Z9K:cal Tryz.prog 201=true:=by kernel_rfl
theorem Zh1:cal Tryz.prog 258=true:=by kernel_rfl
theorem Z65:Z0O Tryz.prog 344=some (3,312):=by kernel_rfl
theorem ZeL:zvl Tryz.prog 312=some (.agg #[.int .i64 0,.bool false]):=by kernel_rfl
structure OQ (e sz:Nat) (rows:List (List Value)) where
 b:Nat
 off:Nat
 cap:Nat
 pre:List Value
 junk:List Value
 len:∀ r∈rows,r.length=sz
 pl:pre.length=off
 room:cap*sz≤rows.length*sz+junk.length
 le:rows.length≤cap
 mx:cap≤9223372036854775807
def OQ.fs {e sz:Nat} {rows:List (List Value)} (q:OQ e sz rows):Value:=.slice (some ⟨q.b,q.off,none⟩) rows.length q.cap
def OQ.G {e sz:Nat} {rows:List (List Value)} (q:OQ e sz rows):Z6:=[(q.b,cel e (q.pre++(rows.flatten++q.junk)))]
theorem Z9k {a r j v:List Value} {o:Nat} (e:o=a.length+r.length) (h:v.length≤j.length):spl (a++(r++j)) o v=a++((r++v)++j.drop v.length):=by
 subst e
 unfold spl
 rw [← List.append_assoc a r j,show a.length+r.length=(a++r).length by simp,List.take_left,List.drop_append,List.drop_of_length_le (by omega),List.nil_append]
 simp [List.append_assoc]
theorem Z5s {P:Program} {t ty e sz by_:Nat} (ht:apT P t=some (e,sz,by_)) {rows news:List (List Value)} (q:OQ e sz rows) {T:Z6} {R:Z5} {w:World} (hs:St (q.G++T) R w)
   {ax:Option Addr} {c:Nat} (hr:RowsA ax sz news w) (h0:news≠[]) (h1:Z0j news=true) (hby:(rows.length+news.length)*by_≤140737488355328) (h63:rows.length+news.length≤9223372036854775807) :
   ∃ (q':OQ e sz (rows++news)) (w':World),(Builtin.append_ #[t,t] ty #[q.fs,.slice ax news.length c]).run P w = .ok q'.fs w'∧St (q'.G++T) R w':=by
 unfold apT at ht
 split at ht
 case h_2=>cases ht
 rename_i e' hu
 split at ht
 case h_2=>cases ht
 rename_i i hi
 split at ht
 case h_2=>cases ht
 rename_i z hz
 cases hzs:Nat.beq z.cells.size i.size with
 | false=>rw [hzs] at ht;cases ht
 | true =>
 rw [hzs,cond_true] at ht
 cases ht
 have hzs:=Nat.eq_of_beq_eq_true hzs
 have hnl:=Z79 hr
 obtain ⟨b,off,cap,pre,junk,hl,hpl,hroom0,hle,hmx⟩:=q
 have hlen':∀ r∈rows++news,r.length=i.size:=fun r h=>by rcases List.mem_append.1 h with h | h;exact hl r h;exact hnl r h
 have hnf:=Z06 hnl
 have hrf:=Z06 hl
 obtain ⟨bx,offx,rfl⟩:=Z3w hr h0
 have hcell:∀ j v,news.flatten[j]?=some v→w.cell? ((⟨bx,offx,none⟩:Addr).add j)=some v:=fun j v h=>by rw [ZR];exact Z2r hr j v h
 have hn0:0<news.length:=List.length_pos_iff.2 h0
 have hb:=hs.held (b,cel e (pre++(rows.flatten++junk))) (by simp [OQ.G])
 by_cases hroom:rows.length+news.length≤cap
 · have hm2:(rows.length+news.length)*i.size≤cap*i.size:=Nat.mul_le_mul_right _ hroom
   rw [Nat.add_mul] at hm2
   have hjl:news.flatten.length≤junk.length:=by omega
   have hst:=Z6b (P:=P) (e:=e) (od:=off+rows.length*i.size) (vs:=news.flatten) (List.all_eq_true.2 (Z73 h1)) (by simp only [List.length_append,hrf,hpl];omega) hb
   have hfc:=run_firstCells_some (P:=P) w i.size news.length ⟨bx,offx,none⟩ news.length c news.flatten hnf hcell
   have hsp:spl (pre++(rows.flatten++junk)) (off+rows.length*i.size) news.flatten=pre++((rows++news).flatten++junk.drop news.flatten.length):=by
     rw [Z9k (by rw [hpl,hrf]) hjl,List.flatten_append]
   rw [hsp] at hst
   refine ⟨⟨b,off,cap,pre,junk.drop news.flatten.length,hlen',hpl,by rw [List.length_append,List.length_drop,Nat.add_mul];omega,by rw [List.length_append];exact hroom,hmx⟩,{ w with heap:=w.heap.setIfInBounds b (cel e (pre++((rows++news).flatten++junk.drop news.flatten.length))) },?_,St.set hs⟩
   have e0:(⟨b,off,none⟩:Addr).add (rows.length*i.size)=⟨b,off+rows.length*i.size,none⟩:=by rw [ZR]
   simp [OQ.fs,Builtin.append_,run_underlying hu,sizeOf,typeInfo,hi,Builtin.lenOf,hroom,hfc,e0,hst]
 · have holds:∀ j v,rows.flatten[j]?=some v→w.cell? ((⟨b,off,none⟩:Addr).add j)=some v:=fun j v h=>by
     have hlt:j<rows.flatten.length:=(List.getElem?_eq_some_iff.1 h).1
     rw [ZR,Z16 hb]
     simp only [List.getElem?_toArray]
     rw [List.getElem?_append_right (by omega),show off+j-pre.length=j by omega,List.getElem?_append_left hlt];exact h
   have h2:=run_append_grow (P:=P) w t ty e i z hu hi hz ⟨b,off,none⟩ rows.length cap rows.flatten hrf holds ⟨bx,offx,none⟩ news.length c news.flatten hnf hcell (by omega) (by omega) (growslice_fits (by omega) hby)
   have hge:=grownCap_ge w (rows.length+news.length) cap e
   have hcm:grownCap w (rows.length+news.length) cap e≤maxLen:=grownCap_le_maxLen w _ cap e (by simp only [maxLen];omega)
   refine ⟨⟨w.heap.size,0,grownCap w (rows.length+news.length) cap e,[],(Builtin.zeroCells z.cells (grownCap w (rows.length+news.length) cap e-(rows.length+news.length))).toList,hlen',rfl,?_,by rw [List.length_append];exact hge,by simp only [maxLen] at hcm;omega⟩,w.drew.alloc (.cells (rows.flatten.toArray++news.flatten.toArray++Builtin.zeroCells z.cells (grownCap w (rows.length+news.length) cap e-(rows.length+news.length))) e),?_,?_⟩
   · simp only [Array.length_toList,size_zeroCells,hzs,List.length_append,← Nat.add_mul]
     exact Nat.mul_le_mul_right _ (by omega)
   · exact h2.trans (by simp only [OQ.fs,List.length_append])
   · have h3:=(St.tail hs).drew.alloc (.cells (rows.flatten.toArray++news.flatten.toArray++Builtin.zeroCells z.cells (grownCap w (rows.length+news.length) cap e-(rows.length+news.length))) e)
     rw [show w.drew.heap.size=w.heap.size from rfl] at h3
     have e1:(cel e ([]++((rows++news).flatten++(Builtin.zeroCells z.cells (grownCap w (rows.length+news.length) cap e-(rows.length+news.length))).toList))) = .cells (rows.flatten.toArray++news.flatten.toArray++Builtin.zeroCells z.cells (grownCap w (rows.length+news.length) cap e-(rows.length+news.length))) e:=by
       unfold cel;congr 1;apply Array.toList_inj.1;simp
     show St ((_,_)::T) R _
     rw [e1];exact h3
section
variable {P:Program} {r:Option Nat} {ops:Array Oper} {n:Nat} {L:Zn} {D:List Deferred} {H:Z6} {R:Z5} {K:Act→World→Prop}
 {i d:Nat} {ty:TypeId} {pos:String} {af:Array Edge}
theorem apQ {t e sz by_ c k:Nat} {s x:Operand} {rows news:List (List Value)} (q:OQ e sz rows) {ax:Option Addr} {C:Z6→Z6}
   (ho:ops[i]?=some ⟨some d,.call { callee:=.builtin .append,args := #[s,x],argTypes := #[t,t] },ty,pos,af,none⟩) (ht:apT P t=some (e,sz,by_))
   (hs:ev L s=some q.fs) (hx:ev L x=some (.slice ax k c)) (hr:∀ w,St H R w→RowsA ax sz news w) (hk:news.length=k) (h0:news≠[]) (h1:Z0j news=true)
   (hb:(rows.length+news.length)*by_≤140737488355328∧rows.length+news.length≤9223372036854775807) (hd:Nat.blt d n=true)
   [rp:RepF q.G H C]
   (h:∀ q':OQ e sz (rows++news),Sy n ((d,q'.fs)::L) D (C q'.G) R K):Sy n L D H R (stp P r ops i K):=fun a w ha hD hs0=>by
 subst hk
 obtain ⟨T,p1,p2⟩:=rp.rep
 obtain ⟨q',w',h2,h3⟩:=Z5s ht q (hs0.perm p1) (hr w hs0) h0 h1 hb.1 hb.2
 refine Zx ho (Zk _ rfl _) (v:=q'.fs) (w':=w') ?_ (h q' _ _ (ha.put (by simpa using hd) _) hD (h3.perm (p2 _)))
 simp only [execOp,resolve,invoke,builtin,Sem.run_bind,Sem.run_pure,Result.andThen,List.map_toArray,List.map_cons,List.map_nil,ha.reads _ _ hs,ha.reads _ _ hx]
 rw [show (Builtin.append_ #[t,t] ty #[q.fs,.slice ax news.length c]).run P w=_ from h2]
end
def OQ.cast {e sz:Nat} {rows rows':List (List Value)} (q:OQ e sz rows) (h:rows=rows'):OQ e sz rows':=h▸q
@[simp] theorem OQ.cast_fs {e sz : Nat} {rows rows' : List (List Value)} (q : OQ e sz rows) (h : rows = rows') : (q.cast h).fs = q.fs := by subst h; rfl
@[simp] theorem OQ.cast_G {e sz : Nat} {rows rows' : List (List Value)} (q : OQ e sz rows) (h : rows = rows') : (q.cast h).G = q.G := by subst h; rfl
theorem OQ.pop {e sz:Nat} {row:List Value} {rows:List (List Value)} (q:OQ e sz (row::rows)):∃ q':OQ e sz rows,q'.fs = .slice (if q.cap=1 then some ⟨q.b,q.off,none⟩ else some ⟨q.b,q.off+1*sz,none⟩) rows.length (q.cap-1)∧q'.G=q.G:=by
 obtain ⟨b,off,cap,pre,junk,hl,hpl,hroom,hle,hmx⟩:=q
 have hrl:=hl row (by simp)
 rw [List.length_cons] at hroom hle
 rw [Nat.add_mul] at hroom
 by_cases h1:cap=1
 · have hr0:rows=[]:=List.length_eq_zero_iff.1 (by omega)
   subst hr0
   refine ⟨⟨b,off,cap-1,pre,row++junk,by simp,hpl,by rw [h1];simp,by simp,by omega⟩,?_,?_⟩
   · unfold OQ.fs;dsimp only;rw [if_pos h1]
   · unfold OQ.G;simp
 · refine ⟨⟨b,off+1*sz,cap-1,pre++row,junk,fun r hr=>hl r (by simp [hr]),by rw [List.length_append,hpl,hrl];omega,by rw [Nat.sub_mul];omega,by omega,by omega⟩,?_,?_⟩
   · unfold OQ.fs;dsimp only;rw [if_neg h1]
   · unfold OQ.G;simp [List.append_assoc]
theorem OQ.one {e sz:Nat} (b:Nat) {row:List Value} (h:row.length=sz):∃ q:OQ e sz [row],q.fs = .slice (some ⟨b,0,none⟩) 1 1∧q.G=[(b,cel e row)] :=
 ⟨⟨b,0,1,[],[],by simp [h],rfl,by simp,by simp,by decide⟩,rfl,by unfold OQ.G;simp⟩
def Z4r (Q:List Nat):List (List Value):=Q.map fun (c:Nat)=>[.int .i64 (c:Int)]
theorem OQ.get0 {e:Nat} {v:Value} {rows:List (List Value)} (q:OQ e 1 ([v]::rows)) {i:Nat} (h:i=q.off):(q.pre++((([v]::rows):List (List Value)).flatten++q.junk))[i]?=some v:=by
 subst h
 rw [List.getElem?_append_right (by rw [q.pl];exact Nat.le_refl _),q.pl,Nat.sub_self];rfl
def nwy:Wy:=⟨0,false⟩
def byR (F:List Fl) (R:List Wy) (c:Nat):Option Wy:=R.find? fun w=>decide (w.to F=c)
def KB (F:List Fl) (kv:KV) (R:List Wy):Prop:=(∀ e∈kv,e.1.length=1)∧∀ c:Nat,kv.get [(c:Int)]=(byR F R c).map wyv
theorem KB.nil (F:List Fl):KB F [] []:=⟨fun e h=>(by cases h),fun c=>rfl⟩
theorem KB.put {F:List Fl} {kv:KV} {R:List Wy} (h:KB F kv R) (w:Wy):KB F (kv.put [(w.to F:Int)] (wyv w)) (w::R):=by
 refine ⟨fun e he=>?_,fun c=>?_⟩
 · rcases KV.put_mem he with rfl | he
   · rfl
   · exact h.1 e he
 · rw [KV.get_put]
   unfold byR
   rw [List.find?_cons]
   by_cases e:w.to F=c
   · subst e;simp
   · rw [decide_eq_false (show ¬ [(w.to F:Int)]=[(c:Int)] from fun h9=>e (by simp only [List.cons.injEq,and_true] at h9;omega)),decide_eq_false e]
     exact h.2 c
theorem KB.look {F:List Fl} {kv:KV} {R:List Wy} (h:KB F kv R) (c:Nat):(bif true then Value.tuple #[(kv.get [(c:Int)]).getD (.agg #[.int .i64 0,.bool false]),.bool (kv.get [(c:Int)]).isSome] else (kv.get [(c:Int)]).getD (.agg #[.int .i64 0,.bool false])) = .tuple #[wyv ((byR F R c).getD nwy),.bool (byR F R c).isSome]:=by
 rw [cond_true,h.2 c]
 cases byR F R c<;>rfl
theorem KB.val {F:List Fl} {kv:KV} {R:List Wy} (h:KB F kv R) (c:Nat):(kv.get [(c:Int)]).getD (.agg #[.int .i64 0,.bool false])=wyv ((byR F R c).getD nwy):=by
 rw [h.2 c]
 cases byR F R c<;>rfl
theorem Z9F {F:List Fl} {R:List Wy} {c:Nat} {w:Wy} (h:byR F R c=some w):w∈R∧w.to F=c:=⟨List.mem_of_find?_eq_some h,by have:=List.find?_some h;simpa using this⟩
theorem Z9E {F:List Fl} {R:List Wy} {c:Nat} (h:byR F R c=none):∀ w∈R,w.to F≠c:=fun w hw e=>by
 have:=List.find?_eq_none.1 h w hw
 simp [e] at this
theorem byR_dom {F:List Fl} {R:List Wy} {c f:Nat}:c∈dom F f R↔(byR F R c).isSome=true∨c=f:=by
 rw [dom_mem]
 constructor
 · rintro (h | ⟨w,hw,e⟩)
   · exact .inr h
   · cases hb:byR F R c with
     | none=>exact absurd e (Z9E hb w hw)
     | some v=>exact .inl rfl
 · rintro (h | h)
   · obtain ⟨w,hw⟩:=Option.isSome_iff_exists.1 h
     exact .inr ⟨w,Z9F hw⟩
   · exact .inl h
def MpF (m:Nat) (kv:KV):World→Prop:=fun w=>w.heap[m]?=some (ZJ false kv)
structure RI (n:Nat) (F:List Fl) (A:List Int) (f:Nat) (R:List Wy) (Q:List Nat):Prop where
 tr:Tr n F A f R
 q:∀ c∈Q,c∈dom F f R
 cl:∀ v:Wy,v.ok n F A→v.fr F∈dom F f R→v.fr F∉Q→v.to F∈dom F f R
structure RJ (n:Nat) (F:List Fl) (A:List Int) (f:Nat) (R:List Wy) (Q:List Nat) (at_:Nat) (l:List Wy):Prop where
 tr:Tr n F A f R
 q:∀ c∈Q,c∈dom F f R
 a:at_∈dom F f R
 cl:∀ v:Wy,v.ok n F A→v.fr F∈dom F f R→v.fr F∉Q→(v.fr F≠at_∨v∈l)→v.to F∈dom F f R
theorem RI.start {n:Nat} {F:List Fl} {A:List Int} {f:Nat}:RI n F A f [] [f]:=⟨trivial,fun c hc=>dom_mem.2 (.inl (List.mem_singleton.1 hc)),fun v _ h1 h2=>by
 rcases dom_mem.1 h1 with h | ⟨w,hw,_⟩
 · exact absurd (by rw [h];simp) h2
 · cases hw⟩
theorem RI.pop {n:Nat} {F:List Fl} {A:List Int} {f c:Nat} {R:List Wy} {Q:List Nat} (h:RI n F A f R (c::Q)):RJ n F A f R Q c []:=⟨h.tr,fun x hx=>h.q x (by simp [hx]),h.q c (by simp),fun v h1 h2 h3 h4=>by
 rcases h4 with h4 | h4
 · exact h.cl v h1 h2 (fun h9=>by rcases List.mem_cons.1 h9 with h9 | h9;exact h4 h9;exact h3 h9)
 · cases h4⟩
theorem RJ.skip {n:Nat} {F:List Fl} {A:List Int} {f c:Nat} {R:List Wy} {Q:List Nat} {l:List Wy} (h:RJ n F A f R Q c l) {w:Wy} (hw:w.to F∈dom F f R):RJ n F A f R Q c (l++[w]):=⟨h.tr,h.q,h.a,fun v h1 h2 h3 h4=>by
 rcases h4 with h4 | h4
 · exact h.cl v h1 h2 h3 (.inl h4)
 · rcases List.mem_append.1 h4 with h4 | h4
   · exact h.cl v h1 h2 h3 (.inr h4)
   · rw [List.mem_singleton.1 h4];exact hw⟩
theorem RJ.more {n:Nat} {F:List Fl} {A:List Int} {f c:Nat} {R:List Wy} {Q:List Nat} {l:List Wy} (h:RJ n F A f R Q c l) {w:Wy} (hk:w.ok n F A) (hf:w.fr F=c) (hw:w.to F∉dom F f R):RJ n F A f (w::R) (Q++[w.to F]) c (l++[w]):=⟨⟨hk,hw,by rw [hf];exact h.a,h.tr⟩,fun x hx=>by
 rcases List.mem_append.1 hx with hx | hx
 · exact dom_cons.2 (.inr (h.q x hx))
 · exact dom_cons.2 (.inl (List.mem_singleton.1 hx)),dom_cons.2 (.inr h.a),fun v h1 h2 h3 h4=>by
 have hne:v.fr F≠w.to F:=fun e=>h3 (by rw [e];simp)
 have hd:v.fr F∈dom F f R:=by
   rcases dom_cons.1 h2 with h5 | h5
   · exact absurd h5 hne
   · exact h5
 have hq:v.fr F∉Q:=fun h9=>h3 (by simp [h9])
 rcases h4 with h4 | h4
 · exact dom_cons.2 (.inr (h.cl v h1 hd hq (.inl h4)))
 · rcases List.mem_append.1 h4 with h4 | h4
   · exact dom_cons.2 (.inr (h.cl v h1 hd hq (.inr h4)))
   · exact dom_cons.2 (.inl (by rw [List.mem_singleton.1 h4]))⟩
theorem RJ.done {n:Nat} {F:List Fl} {A:List Int} {f c:Nat} {R:List Wy} {Q:List Nat} {l:List Wy} (h:RJ n F A f R Q c l) (hl:∀ v:Wy,v.ok n F A→v.fr F=c→v∈l):RI n F A f R Q:=⟨h.tr,h.q,fun v h1 h2 h3=>by
 by_cases e:v.fr F=c
 · exact h.cl v h1 h2 h3 (.inr (hl v h1 e))
 · exact h.cl v h1 h2 h3 (.inl e)⟩
theorem ZcH {n:Nat} {F:List Fl} {A:List Int} {f:Nat}:∀ {R:List Wy},Tr n F A f R→(dom F f R).Nodup
 | [],_=>by unfold dom;simp
 | w::R,⟨_,h2,_,h4⟩=>List.nodup_cons.2 ⟨h2,ZcH h4⟩
theorem Zhc {n:Nat} {F:List Fl} {A:List Int} {f:Nat} (hf:f<n) {R:List Wy} (h:Tr n F A f R):∀ c∈dom F f R,c<n:=fun c hc=>by
 rcases dom_mem.1 hc with rfl | ⟨w,hw,rfl⟩
 · exact hf
 · exact (Tr.ok h w hw).1.2.2.2
theorem ZeA {n:Nat} {F:List Fl} {A:List Int} {f:Nat} (hf:f<n) {R:List Wy} (h:Tr n F A f R):R.length+1≤n:=by
 have h1:=Z3u (m:=List.range n) (ZcH h) (fun c hc=>List.mem_range.2 (Zhc hf h c hc))
 rw [List.length_range] at h1
 unfold dom at h1
 simpa using h1
theorem Z5C {n:Nat} {F:List Fl} {A:List Int} (hF:∀ f∈F,f.fr<n∧f.to<n) {c:Nat} {w:Wy}:w∈Z1g F A F.length c↔w.ok n F A∧w.fr F=c:=by
 rw [ZaU]
 constructor
 · rintro ⟨h1,h2,h3⟩
   have:=hF _ (List.mem_of_getElem? (Z4h h1))
   refine ⟨⟨h1,h3,?_,?_⟩,h2⟩
   · unfold Wy.fr;cases w.more<;>simp only [cond_true,cond_false]<;>omega
   · unfold Wy.to;cases w.more<;>simp only [cond_true,cond_false]<;>omega
 · rintro ⟨⟨h1,h3,_,_⟩,h2⟩
   exact ⟨h1,h2,h3⟩
set_option maxHeartbeats 800000 in
theorem Zio (d:DD) (hy:d.y.ok) (A:List Int) (hA:AOk d.y.flows A) (f:Nat) (hf:f<(d.y.cells+1)) (H:Z6) (R:Z5) [hD:MemRows (some ⟨d.bd,0,none⟩) 6 [d.l] R] [hF:MemRows (some ⟨d.fb,0,none⟩) 4 (ZN d.y.flows) R] [hM:Mem1 d.ba (cel 3 (Ze A++d.J)) H] :
    Fn Tryz.prog 256 [.pointer (some ⟨d.bd,0,none⟩),.int .i64 (f:Int)] H R (fun v H' R'=>∃ m kv Rl,v = .map (some m)∧RI (d.y.cells+1) d.y.flows A f Rl []∧KB d.y.flows kv Rl∧H'=H∧R'=MpF m kv::R):=by
 have hfl:=Z07 hy
 have hcl:=Z2H hy
 refine Zc Tryz.func256 rfl Tryz.ntmps256 rfl ?_
 refine sqt 1 rfl (pur 1 rfl (sqt 2 rfl ?_))
 refine mkm rfl rfl false (fun m5=>?_)
 refine pur 1 rfl (sqt 3 rfl (pur 1 rfl ?_))
 refine cl rfl Zh1 rfl rfl (ZgI d hy A hA _ _) ?_
 rintro _ _ _ ⟨m6,kv6,sl6,rfl,hwk,rfl,rfl⟩
 refine pur 1 rfl (sqt 3 rfl (pur 1 rfl ?_))
 refine bsl (out:=[_]) rfl Z1H zl3 rfl rfl rfl rfl rfl rfl (fun b19=>?_)
 refine pur 1 rfl (Z0 (Z2 ?_))
 obtain ⟨q0,hq0,hqG⟩:=OQ.one (e:=3) (sz:=1) b19 (row:=[.int .i64 (f:Int)]) rfl
 obtain ⟨q1,hq1,hqG1⟩:∃ q1:OQ 3 1 (Z4r [f]),q1.fs = .slice (some ⟨b19,0,none⟩) 1 1∧q1.G=[(b19,cel 3 [.int .i64 (f:Int)])]:=⟨q0,hq0,hqG⟩
 rw [← hq1]
 refine Sy.heap (H':=(m5,ZJ false [])::(q1.G++H)) (R':=Z9x m6 kv6 sl6 (Z1g d.y.flows A d.y.flows.length)::R) (fun w h=>by rw [hqG1];exact h.pull m5) ?_
 refine Zd (ι:=(x:{x:List Wy×List Nat×KV // RI (d.y.cells+1) d.y.flows A f x.1 x.2.1∧KB d.y.flows x.2.2 x.1∧2*((d.y.cells+1)-x.1.length)+x.2.1.length≤50})×OQ 3 1 (Z4r x.1.2.1)) (fun x=>⟨[(0,.pointer (some ⟨d.bd,0,none⟩)),(1,.int .i64 (f:Int)),(5,.map (some m5)),(6,.map (some m6)),(7,x.2.fs)],(m5,ZJ false x.1.1.2.2)::(x.2.G++H),Z9x m6 kv6 sl6 (Z1g d.y.flows A d.y.flows.length)::R⟩) (fun x=>2*((d.y.cells+1)-x.1.1.1.length)+x.1.1.2.1.length) ⟨⟨([],[f],[]),RI.start,KB.nil _,by simp only [List.length_nil,List.length_singleton];omega⟩,q1⟩ ?_ (fun x=>?_)
 exact Zf idH
 obtain ⟨⟨⟨Rl,Q,kv⟩,hri,hkb,hms⟩,q⟩:=x
 dsimp only at hri hkb hms q ⊢
 have hqs:q.fs = .slice (some ⟨q.b,q.off,none⟩) Q.length q.cap:=by unfold OQ.fs Z4r;rw [List.length_map]
 rw [hqs]
 refine Z0 (sqt 3 rfl (pur 1 rfl (sp rfl (PE.lenSl ZO rfl) rfl (pur 1 rfl ?_))))
 refine Z1 rfl ?_ ?_<;>intro hc0<;>try simp only [cS] at hc0
 obtain ⟨c,Q,rfl⟩:∃ c Q',Q=c::Q':=by cases Q with | nil=>exact absurd hc0 (by simp) | cons c Q=>exact ⟨c,Q,rfl⟩
 rw [List.length_cons] at hms
 have hcn:=Zhc hf hri.tr c (hri.q c (by simp))
 refine Sy.heap (H':=(m5,ZJ false kv)::(q.b,cel 3 (q.pre++((([.int .i64 (c:Int)]::Z4r Q):List (List Value)).flatten++q.junk)))::H) idH ?_
 obtain ⟨q2,hq2,hqG2⟩:=OQ.pop (row:=[.int .i64 (c:Int)]) (rows:=Z4r Q) q
 refine Z3 (Z2 (sqt 4 rfl (pur 1 rfl (sp rfl (PE.indexAddr Z0D rfl rfl (by omega) (by rw [List.length_cons];omega)) rfl (spL rfl rfl (lh sc3 rfl (OQ.get0 (rows:=Z4r Q) q (by simp))) rfl (pur 1 rfl (sqt 3 rfl (pur 1 rfl (sp rfl (PE.slLoA (l:=1) Z1H rfl rfl (by rw [List.length_cons];omega)) rfl ?_)))))))))
 have hq2e:Value.slice (if q.cap=1 then some ⟨q.b,q.off,none⟩ else (some (⟨q.b,q.off,none⟩:Addr)).map (·.add (1*1))) ((c::Q).length-1) (q.cap-1)=q2.fs:=by
   rw [hq2,Option.map_some,ZR,List.length_cons];unfold Z4r;rw [List.length_map];rfl
 rw [hq2e]
 refine pur 1 rfl (sqt 5 rfl (pur 2 rfl ?_))
 refine spK rfl rfl rfl (Z0J (b:=false) kv6 [(c:Int)] Z4k (KeyT.of Z2h Z2Y) (ZQ Zbq) rfl hwk.1 (fun w hs=>(hs.now (f:=Z9x m6 kv6 sl6 (Z1g d.y.flows A d.y.flows.length)) (by simp)).1) (hwk.2 c)) rfl ?_
 refine Sy.heap (H':=(m5,ZJ false kv)::(q2.G++H)) (R':=RowsA (sl6 c).1 2 (Zr ((Z1g d.y.flows A d.y.flows.length) c))::Z9x m6 kv6 sl6 (Z1g d.y.flows A d.y.flows.length)::R) (fun w h=>St.wysAt (m:=m6) (kv:=kv6) (sl:=sl6) (W:=(Z1g d.y.flows A d.y.flows.length)) (by rw [hqG2];exact h) c) ?_
 generalize (sl6 c).1=a9
 generalize (sl6 c).2=c9
 refine sp rfl (PE.lenSl Z5k rfl) rfl (pur 1 rfl (Z2 ?_))
 refine Zd (ι:=(x:{x:Nat×List Wy×List Nat×KV // x.1≤((Z1g d.y.flows A d.y.flows.length) c).length∧RJ (d.y.cells+1) d.y.flows A f x.2.1 x.2.2.1 c (((Z1g d.y.flows A d.y.flows.length) c).take x.1)∧KB d.y.flows x.2.2.2 x.2.1∧2*((d.y.cells+1)-x.2.1.length)+x.2.2.1.length≤2*((d.y.cells+1)-Rl.length)+Q.length})×OQ 3 1 (Z4r x.1.2.2.1)) (fun x=>⟨[(0,.pointer (some ⟨d.bd,0,none⟩)),(1,.int .i64 (f:Int)),(5,.map (some m5)),(6,.map (some m6)),(8,.int .i64 (c:Int)),(30,.slice a9 ((Z1g d.y.flows A d.y.flows.length) c).length c9),(31,.int .i64 (((Z1g d.y.flows A d.y.flows.length) c).length:Int)),(7,x.2.fs),(32,.int .i64 (x.1.1.1:Int))],(m5,ZJ false x.1.1.2.2.2)::(x.2.G++H),RowsA a9 2 (Zr ((Z1g d.y.flows A d.y.flows.length) c))::Z9x m6 kv6 sl6 (Z1g d.y.flows A d.y.flows.length)::R⟩) (fun x=>((Z1g d.y.flows A d.y.flows.length) c).length-x.1.1.1) ⟨⟨(0,Rl,Q,kv),Nat.zero_le _,hri.pop,hkb,Nat.le_refl _⟩,q2⟩ ?_ (fun x=>?_)
 exact Zf idH
 obtain ⟨⟨⟨j,R1,Q1,kv1⟩,hj,hrj,hkb1,hms1⟩,q3⟩:=x
 dsimp only at hj hrj hkb1 hms1 q3 ⊢
 refine sqt 1 rfl (pur 1 rfl (Z0 ?_))
 refine Z1 rfl ?_ ?_<;>intro hc1<;>try simp only [cS] at hc1
 obtain ⟨w9,hw9⟩:∃ x,((Z1g d.y.flows A d.y.flows.length) c)[j]?=some x:=⟨_,List.getElem?_eq_getElem (by omega)⟩
 obtain ⟨hwo,hwf⟩:=(Z5C (fun g hg=>(Z0i hy g hg).1)).1 (List.mem_of_getElem? hw9)
 have hwl:=Z2Q d.y.flows A c d.y.flows.length
 have htk:((Z1g d.y.flows A d.y.flows.length) c).take (j+1)=((Z1g d.y.flows A d.y.flows.length) c).take j++[w9]:=by rw [List.take_add_one,hw9];rfl
 refine Zj (a:=a9) (sz:=2) (rows:=Zr ((Z1g d.y.flows A d.y.flows.length) c)) (ZV (Z28 hw9)) (fun bp op he=>?_)
 subst he
 refine Z3 (Z0 (Z2 (sqt 4 rfl (sp rfl (PE.indexAddr Z5L rfl rfl (by omega) (by omega)) rfl (spL rfl rfl (lfA Z2a (Z28 hw9) rfl) rfl (alc rfl Z3e rfl (fun b10=>?_)))))))
 refine Zy (l':=wyr w9) rfl rfl rfl Z8Q rfl rfl rfl rfl (nl rfl) ?_
 refine sqt 8 rfl (pur 1 rfl (spL rfl rfl (lhA (wyr w9) Z2a rfl (rest:=[]) rfl rfl) rfl ?_))
 refine clV rfl Z9K rfl rfl (Zfe d hy w9 hwo.1 A hA _ _) ?_
 refine pur 5 rfl (sqt 9 rfl (pur 2 rfl ?_))
 refine spK rfl rfl rfl (Z19 (b:=false) kv1 [(w9.to d.y.flows:Int)] Z65 (KeyT.of Z2h Z2Y) (ZQ ZeL) rfl hkb1.1 true) rfl ?_
 rw [hkb1.look]
 refine pur 3 rfl (alc rfl Z3e rfl (fun b13=>?_))
 refine Zy (l':=wyr ((byR d.y.flows R1 (w9.to d.y.flows)).getD nwy)) rfl rfl rfl Z8Q rfl rfl rfl rfl (nl rfl) ?_
 refine pur 1 rfl (sqt 7 rfl (pur 3 rfl ?_))
 refine Zq 50 rfl ?_ ?_<;>intro g50
 refine pur 4 rfl ?_
 refine Z1 rfl ?_ ?_<;>intro hc2<;>try simp only [cS] at hc2
 have hno:w9.to d.y.flows∉dom d.y.flows f R1:=fun h9=>by
   rcases byR_dom.1 h9 with h9 | h9
   · rw [h9] at g50;cases g50
   · omega
 have hrl:=ZeA hf (hrj.more hwo hwf hno).tr
 rw [List.length_cons] at hrl
 have hqs3:q3.fs=q3.fs:=rfl
 refine sqt 4 rfl (pur 2 rfl (spL rfl rfl (lhA (wyr w9) Z2a rfl (rest:=[]) rfl rfl) rfl ?_))
 refine mpu kv1 [(w9.to d.y.flows:Int)] (v:=wyv w9) rfl Z65 (KeyT.of Z2h Z2Y) rfl rfl rfl rfl hkb1.1 ?_
 refine sqr 5 rfl (pur 2 rfl ?_)
 refine bsl (out:=[_]) rfl Z1H zl3 rfl rfl rfl rfl rfl rfl (fun b60=>?_)
 refine apQ q3 rfl Z6j rfl rfl (Z0y (row:=[.int .i64 (w9.to d.y.flows:Int)]) rfl) rfl (by simp) rfl (by unfold Z4r;simp only [List.length_map,List.length_cons,List.length_nil];omega) rfl (fun q61=>?_)
 obtain ⟨q4,e4,g4⟩:∃ q4:OQ 3 1 (Z4r (Q1++[w9.to d.y.flows])),q4.fs=q61.fs∧q4.G=q61.G:=⟨q61.cast (by simp [Z4r]),OQ.cast_fs _ _,OQ.cast_G _ _⟩
 rw [← e4]
 refine pur 1 rfl (sqr 2 rfl (sp rfl (PE.add rfl rfl (by omega)) rfl (pur 1 rfl ?_)))
 exact Zb ⟨⟨(j+1,w9::R1,Q1++[w9.to d.y.flows],kv1.put [(w9.to d.y.flows:Int)] (wyv w9)),by dsimp only;omega,by dsimp only;rw [htk];exact hrj.more hwo hwf hno,hkb1.put w9,by dsimp only;rw [List.length_cons,List.length_append,List.length_singleton];omega⟩,q4⟩ (fun w h=>by dsimp only;rw [g4];exact ((h.del b60).del b13).del b10)
 have hin:w9.to d.y.flows∈dom d.y.flows f R1:=byR_dom.2 (.inr (by omega))
 refine Z3 (sqr 2 rfl (sp rfl (PE.add rfl rfl (by omega)) rfl (pur 1 rfl ?_)))
 exact Zb ⟨⟨(j+1,R1,Q1,kv1),by dsimp only;omega,by dsimp only;rw [htk];exact hrj.skip hin,hkb1,hms1⟩,q3⟩ (fun w h=>(h.del b13).del b10)
 try simp only [cS] at g50
 have hin:w9.to d.y.flows∈dom d.y.flows f R1:=byR_dom.2 (.inl (by simpa using g50))
 refine pur 4 rfl ?_
 refine Zt rfl ?_
 refine Z3 (sqr 2 rfl (sp rfl (PE.add rfl rfl (by omega)) rfl (pur 1 rfl ?_)))
 exact Zb ⟨⟨(j+1,R1,Q1,kv1),by dsimp only;omega,by dsimp only;rw [htk];exact hrj.skip hin,hkb1,hms1⟩,q3⟩ (fun w h=>(h.del b13).del b10)
 obtain rfl:j=((Z1g d.y.flows A d.y.flows.length) c).length:=by omega
 rw [List.take_length] at hrj
 refine Z7 (Z8 (Z8 (Zi ?_)))
 exact Zh ⟨⟨(R1,Q1,kv1),hrj.done (fun v h1 h2=>(Z5C (fun g hg=>(Z0i hy g hg).1)).2 ⟨h1,h2⟩),hkb1,by dsimp only;omega⟩,q3⟩ (by dsimp only;rw [List.length_cons];omega) (fun w h=>h.ftail)
 obtain rfl:Q=[]:=List.length_eq_zero_iff.1 (by omega)
 refine Z7 (Z8 (Z8 (Zi (sqt 2 rfl (pur 2 rfl (Z4 ?_))))))
 exact rtA rfl rfl rfl ⟨m5,kv,Rl,rfl,hri,hkb,rfl,rfl⟩ (fun w h=>St.facts (St.freeze (St.del q.b (show St ((m5,ZJ false kv)::(q.b,cel 3 (q.pre++((Z4r []).flatten++q.junk)))::H) _ w from h))) (fun g hg=>(List.mem_cons.1 hg).elim (fun e=>by rw [e];exact List.mem_cons_self) (fun e=>List.mem_cons_of_mem _ (List.mem_cons_of_mem _ e))))
end Go.Proofs.YtcfdanhklbklkaaGreat.Sk
