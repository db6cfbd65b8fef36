/- Walks of the functions of the program, and the laws that join them: what the last theorem of this claim needs, in order. -/
import Derived.Test.YthijcgkicjljhaaGreatTw4
namespace Go.Proofs.YthijcgkicjljhaaGreat.Ht
set_option linter.unusedSimpArgs false
set_option linter.unusedVariables false
structure HBin where
 warm:Int
 mark:Int
 lo:Int
 hi:Int
 deriving DecidableEq,Repr
structure Barn where
 cool:Int
 gangs:Int
 rise:List Int
 bins:List HBin
 deriving DecidableEq,Repr
def na (l:List Int) (k:Nat):Int:=l.getD k 0
@[reducible] def inB (n lo hi : Int) : Bool := decide (lo ≤ n) && decide (n ≤ hi)
def HBin.ok (x:HBin):Bool:=inB x.mark 0 60&&inB x.warm 0 x.mark&&inB x.lo 0 5&&inB x.hi 0 5
def Z1I (n:Int):Bool:=decide (n=0)||inB n 6 20
def srt:List Int→Bool
 | x::y::l=>decide (x≤y)&&srt (y::l)
 | _=>true
def Barn.check (b:Barn):Int :=
 bif !(inB b.bins.length 1 4) then 2 else
 bif !(inB b.cool 0 60)||!(inB b.gangs 0 3) then 3 else
 bif !(b.rise.all Z1I) then 3 else
 bif !(b.bins.all HBin.ok) then 3 else
 bif !(srt b.rise)||!(b.bins.all fun x=>decide (x.lo≤x.hi)) then 4 else 0
structure Barn.ok (b:Barn):Prop where
 len:b.rise.length=6
 many:1≤b.bins.length∧b.bins.length≤4
 cool:0≤b.cool∧b.cool≤60
 gangs:0≤b.gangs∧b.gangs≤4
 rise:∀ n∈b.rise,n=0∨(6≤n∧n≤20)
 bins:∀ x∈b.bins,(0≤x.mark∧x.mark≤60)∧(0≤x.warm∧x.warm≤x.mark)∧(0≤x.lo∧x.lo≤5)∧(0≤x.hi∧x.hi≤5)
 srt:srt b.rise=true
 ord:∀ x∈b.bins,x.lo≤x.hi
theorem Barn.ok_of {b:Barn} (hl:b.rise.length=6) (h:b.check=0):b.ok:=by
 unfold Barn.check at h
 simp only [Bool.cond_eq_ite] at h
 split at h<;>try (exact absurd h (by decide))
 split at h<;>try (exact absurd h (by decide))
 split at h<;>try (exact absurd h (by decide))
 split at h<;>try (exact absurd h (by decide))
 split at h<;>try (exact absurd h (by decide))
 rename_i h1 h2 h3 h4 h5
 simp only [Bool.not_eq_true',Bool.not_eq_true,Bool.or_eq_true,not_or,Bool.not_eq_false',Bool.not_eq_false,inB,Bool.and_eq_true,decide_eq_true_eq,List.all_eq_true,Z1I,HBin.ok] at h1 h2 h3 h4 h5
 refine ⟨hl,⟨by omega,by omega⟩,h2.1,⟨h2.2.1,by omega⟩,fun n hn=>?_,fun x hx=>?_,h5.1,fun x hx=>by simpa using h5.2 x hx⟩
 · have:=h3 n hn;simpa [Z1I] using this
 · have:=h4 x hx;exact ⟨this.1.1.1,this.1.1.2,this.1.2,this.2⟩
def Barn.worst (b:Barn) (x:HBin):Int:=na b.rise x.hi.toNat
def Z09 (rise mark warm:Int):Int:=bif decide (rise=0) then 1000000 else bif decide (mark<warm) then 0 else (mark-warm) / rise
def Barn.days (b:Barn) (x:HBin) (warm:Int):Int:=Z09 (b.worst x) x.mark warm
def pad (l:List Int):List Int:=l++List.replicate (4-l.length) 0
abbrev HSt:=List Int
def Barn.state (b:Barn):HSt:=pad (b.bins.map fun x=>b.days x x.warm)
def Barn.lasts (b:Barn):HSt:=pad (b.bins.map fun x=>b.days x b.cool)
def Barn.most (b:Barn):HSt:=pad (b.bins.map fun x=>max (b.days x x.warm) (b.days x b.cool))
structure Dsk where
 n:Nat
 gangs:Int
 lasts:HSt
 most:HSt
 deriving DecidableEq
def Barn.dsk (b:Barn):Dsk:=⟨b.bins.length,b.gangs,b.lasts,b.most⟩
def ZR (n set:Nat):List Nat:=(List.range n).filter fun k=>set.testBit k
def Dsk.g (d:Dsk):Int:=min d.gangs d.n
def Dsk.may (d:Dsk) (full:Bool) (l:List Nat):Bool:=!(decide (d.g<(l.length:Int))||(full&&decide ((l.length:Int)<d.g)))
def Dsk.trs (d:Dsk) (full:Bool):List (List Nat):=((List.range (2 ^ d.n)).map (ZR d.n)).filter (d.may full)
def Dsk.up (d:Dsk) (s:HSt) (k:Nat):HSt:=s.set k (max (na s k) (na d.lasts k))
def dn (s:HSt):Nat→Option HSt
 | 0=>some s
 | k+1=>match dn s k with
   | none=>none
   | some t=>bif decide (na t k=1000000) then some t else bif decide (na t k-1<0) then none else some (t.set k (na t k-1))
def Dsk.next (d:Dsk) (s:HSt) (l:List Nat):Option HSt:=dn (l.foldl d.up s) d.n
def Z2F:List Nat→Nat→List Nat
 | [],_=>[]
 | z::zs,i=>(i%z)::Z2F zs (i / z)
def prd:List Nat→Nat
 | []=>1
 | z::zs=>z*prd zs
def inc:List Nat→List Nat→List Nat
 | z::zs,x::xs=>bif decide (x+1=z) then 0::inc zs xs else (x+1)::xs
 | _,xs=>xs
theorem Z7b:∀ (zs:List Nat) (i:Nat),(∀ z∈zs,0<z)→Z2F zs (i+1)=inc zs (Z2F zs i)
 | [],i,_=>rfl
 | z::zs,i,h=>by
   have hz:=h z (by simp)
   unfold inc Z2F
   have hm:=Nat.mod_lt i hz
   by_cases hc:i%z+1=z
   · have e1:(i+1)%z=0:=by
       have:i+1=z*(i / z+1):=by have:=Nat.div_add_mod i z;rw [Nat.mul_add];omega
       rw [this,Nat.mul_mod_right]
     have e2:(i+1) / z=i / z+1:=by
       have:i+1=z*(i / z+1):=by have:=Nat.div_add_mod i z;rw [Nat.mul_add];omega
       rw [this,Nat.mul_div_cancel_left _ hz]
     rw [e1,e2,Z7b zs _ (fun y hy=>h y (by simp [hy]))]
     simp [hc]
   · have e0:i+1=z*(i / z)+(i%z+1):=by have:=Nat.div_add_mod i z;omega
     have hlt:i%z+1<z:=by omega
     have e1:(i+1)%z=i%z+1:=by
       conv=>lhs;rw [e0]
       rw [Nat.mul_add_mod,Nat.mod_eq_of_lt hlt]
     have e2:(i+1) / z=i / z:=by
       conv=>lhs;rw [e0]
       rw [Nat.mul_add_div hz,Nat.div_eq_of_lt hlt];omega
     rw [e1,e2]
     simp [hc]
theorem Z2V:∀ (zs:List Nat) (i:Nat),(Z2F zs i).length=zs.length
 | [],_=>rfl
 | _::zs,i=>by simp [Z2F,Z2V zs]
theorem Z9A:∀ (zs:List Nat) (i:Nat),(∀ z∈zs,0<z)→∀ (k z:Nat),zs[k]?=some z→∃ x:Nat,(Z2F zs i)[k]?=some x∧x<z
 | [],_,_,k,z,h=>by simp at h
 | z::zs,i,h,0,z',hk=>by
   simp only [List.getElem?_cons_zero,Option.some.injEq] at hk
   subst hk
   exact ⟨i%z,rfl,Nat.mod_lt _ (h z (by simp))⟩
 | z::zs,i,h,k+1,z',hk=>by
   simpa [Z2F] using Z9A zs (i / z) (fun y hy=>h y (by simp [hy])) k z' (by simpa using hk)
def Z8j:List Nat→List Nat→Nat
 | z::zs,x::xs=>x+z*Z8j zs xs
 | _,_=>0
theorem Z5A:∀ (zs xs:List Nat),xs.length=zs.length→(∀ (k z x:Nat),zs[k]?=some z→xs[k]?=some x→x<z)→Z2F zs (Z8j zs xs)=xs∧Z8j zs xs<prd zs
 | [],[],_,_=>⟨rfl,by decide⟩
 | [],_::_,h,_=>by simp at h
 | _::_,[],h,_=>by simp at h
 | z::zs,x::xs,hl,h=>by
   have hx:x<z:=h 0 z x rfl rfl
   obtain ⟨ih,ih2⟩:=Z5A zs xs (by simpa using hl) (fun k z' x' h1 h2=>h (k+1) z' x' (by simpa using h1) (by simpa using h2))
   have e1:(x+z*Z8j zs xs)%z=x:=by rw [Nat.add_mul_mod_self_left,Nat.mod_eq_of_lt hx]
   have e2:(x+z*Z8j zs xs) / z=Z8j zs xs:=by rw [Nat.add_mul_div_left _ _ (by omega),Nat.div_eq_of_lt hx];omega
   refine ⟨?_,?_⟩
   · unfold Z2F Z8j
     rw [e1,e2,ih]
   · unfold Z8j prd
     calc x+z*Z8j zs xs<z+z*Z8j zs xs:=by omega
       _=z*(Z8j zs xs+1):=by rw [Nat.mul_add];omega
       _≤z*prd zs:=Nat.mul_le_mul_left z ih2
def Dsk.zs (d:Dsk):List Nat:=(d.most.take d.n).map fun m=>bif decide (m=1000000) then 1 else m.toNat+1
def Zii (most:List Int) (xs:List Nat):HSt:=pad (List.zipWith (fun (m:Int) (x:Nat)=>bif decide (m=1000000) then (1000000:Int) else (x:Int)) most xs)
def Dsk.sat (d:Dsk) (i:Nat):HSt:=Zii (d.most.take d.n) (Z2F d.zs i)
def Dsk.nst (d:Dsk):Nat:=prd d.zs
def Dsk.sts (d:Dsk):List HSt:=(List.range d.nst).map d.sat
def Dsk.helped (d:Dsk) (A:List HSt) (s:HSt):Bool:=(d.trs true).any fun l=>match d.next s l with
 | some t=>A.contains t
 | none=>false
def Dsk.alive (d:Dsk):Nat→List HSt
 | 0=>d.sts
 | n+1=>(d.alive n).filter (d.helped (d.alive n))
def Dsk.lvl (d:Dsk):Nat→HSt→Int
 | 0,_=>1000000
 | n+1,s=>bif decide (d.lvl n s=1000000)&&!((d.alive (n+1)).contains s) then (n:Int) else d.lvl n s
structure Sml (s:HSt):Prop where
 len:s.length=4
 at_:∀ k<4,0≤na s k∧na s k≤1000000
theorem Z2K {s:List Int} {k j:Nat} {v:Int} (hk:k<s.length):na (s.set k v) j=if k=j then v else na s j:=by
 unfold na
 rw [List.getD_eq_getElem?_getD,List.getD_eq_getElem?_getD,List.getElem?_set]
 by_cases h:k=j
 · subst h;rw [if_pos rfl,if_pos rfl,if_pos hk];rfl
 · rw [if_neg h,if_neg h]
theorem Sml.set {s:HSt} (h:Sml s) {k:Nat} (hk:k<4) {v:Int} (hv:0≤v∧v≤1000000):Sml (s.set k v) where
 len:=by rw [List.length_set];exact h.len
 at_ j hj:=by rw [Z2K (by rw [h.len];exact hk)];split;exact hv;exact h.at_ j hj
theorem Dsk.up_sml {d:Dsk} (hd:Sml d.lasts) {s:HSt} (h:Sml s) {k:Nat} (hk:k<4):Sml (d.up s k):=by
 have h1:=hd.at_ k hk
 have h2:=h.at_ k hk
 exact h.set hk (by omega)
theorem Dsk.ups_sml {d:Dsk} (hd:Sml d.lasts):∀ {l:List Nat} {s:HSt},Sml s→(∀ k∈l,k<4)→Sml (l.foldl d.up s)
 | [],_,h,_=>h
 | k::l,s,h,hl=>ups_sml (s:=d.up s k) hd (d.up_sml hd h (hl k (by simp))) (fun j hj=>hl j (by simp [hj]))
theorem Zcs {s:HSt} (h:Sml s):∀ {k:Nat} {t:HSt},k≤4→dn s k=some t→Sml t
 | 0,t,_,e=>by simp only [dn,Option.some.injEq] at e;exact e▸h
 | k+1,t,hk,e=>by
   unfold dn at e
   split at e
   · cases e
   · rename_i u hu
     have hm:=Zcs h (by omega) hu
     have h1:=hm.at_ k (by omega)
     by_cases h2:na u k=1000000
     · rw [decide_eq_true h2,cond_true] at e;cases e;exact hm
     · rw [decide_eq_false h2,cond_false] at e
       by_cases h3:na u k-1<0
       · rw [decide_eq_true h3] at e;cases e
       · rw [decide_eq_false h3,cond_false] at e;cases e
         exact hm.set (by omega) (by omega)
theorem ZdD {s:HSt} {n:Nat}:∀ {k:Nat},k≤n→dn s k=none→dn s n=none:=by
 intro k hk h
 induction n with
 | zero => obtain rfl : k = 0 := by omega
           exact h
 | succ n ih =>
   rcases Nat.lt_or_ge n k with h1 | h1
   · obtain rfl:k=n+1:=by omega
     exact h
   · unfold dn;rw [ih h1]
theorem Z4t {n set k:Nat} (h:k∈ZR n set):k<n:=by
 unfold ZR at h
 exact List.mem_range.1 (List.mem_filter.1 h).1
theorem Z1A (n set:Nat):(ZR n set).length≤n:=by
 unfold ZR
 exact Nat.le_trans (List.length_filter_le _ _) (by simp)
theorem Z5j (n set:Nat):ZR (n+1) set=ZR n set++(bif set.testBit n then [n] else []):=by
 unfold ZR
 rw [List.range_succ,List.filter_append]
 cases h:set.testBit n<;>simp [h]
theorem Dsk.trs_lt {d:Dsk} {full:Bool} {l:List Nat} (h:l∈d.trs full):∀ k∈l,k<d.n:=by
 intro k hk
 unfold Dsk.trs at h
 obtain ⟨h1,_⟩:=List.mem_filter.1 h
 obtain ⟨i,_,rfl⟩:=List.mem_map.1 h1
 exact Z4t hk
theorem Z8i {s t:List Int} (hs:s.length=4) (ht:t.length=4) (h:∀ k<4,na s k=na t k):s=t:=by
 refine List.ext_getElem? fun k=>?_
 rcases Nat.lt_or_ge k 4 with h1 | h1
 · have:=h k h1
   unfold na at this
   rw [List.getD_eq_getElem?_getD,List.getD_eq_getElem?_getD,List.getElem?_eq_getElem (by omega),List.getElem?_eq_getElem (by omega)] at this
   rw [List.getElem?_eq_getElem (by omega),List.getElem?_eq_getElem (by omega)]
   simpa using this
 · rw [List.getElem?_eq_none (by omega),List.getElem?_eq_none (by omega)]
structure Dsk.ok (d:Dsk):Prop where
 n:1≤d.n∧d.n≤4
 gangs:0≤d.gangs∧d.gangs≤4
 lasts:Sml d.lasts
 most:Sml d.most
 le:∀ k<d.n,na d.lasts k≤na d.most k
 ever:∀ k<d.n,(na d.lasts k=1000000∨na d.lasts k≤10)∧(na d.most k=1000000∨na d.most k≤10)∧(na d.lasts k=1000000↔na d.most k=1000000)
theorem Dsk.zs_len {d:Dsk} (hd:d.ok):d.zs.length=d.n:=by
 unfold Dsk.zs;rw [List.length_map,List.length_take,hd.most.len];have:=hd.n;omega
theorem Dsk.zs_get {d:Dsk} (hd:d.ok) {k:Nat} (hk:k<d.n):d.zs[k]?=some (bif decide (na d.most k=1000000) then 1 else (na d.most k).toNat+1):=by
 unfold Dsk.zs
 have h4:=hd.most.len
 have hn:=hd.n
 rw [List.getElem?_map,List.getElem?_take,if_pos hk]
 unfold na
 rw [List.getD_eq_getElem?_getD,List.getElem?_eq_getElem (by omega)]
 rfl
theorem Dsk.zs_pos {d:Dsk}:∀ z∈d.zs,0<z:=by
 intro z hz
 unfold Dsk.zs at hz
 obtain ⟨m,_,rfl⟩:=List.mem_map.1 hz
 cases h:decide (m=1000000)<;>simp
theorem Dsk.zw_len {d:Dsk} (hd:d.ok) {xs:List Nat} (hx:xs.length=d.n) (f:Int→Nat→Int):(List.zipWith f (d.most.take d.n) xs).length=d.n:=by
 rw [List.length_zipWith,List.length_take,hd.most.len];have:=hd.n;omega
theorem Z2d {l:List Int} (h:l.length≤4):(pad l).length=4:=by simp [pad];omega
theorem Dsk.toSt_at {d:Dsk} (hd:d.ok) {xs:List Nat} (hx:xs.length=d.n) {k:Nat} (hk:k<4):na (Zii (d.most.take d.n) xs) k=if k<d.n then (bif decide (na d.most k=1000000) then 1000000 else ((xs.getD k 0:Nat):Int)) else 0:=by
 have hl:=d.zw_len hd hx (fun (m:Int) (x:Nat)=>bif decide (m=1000000) then (1000000:Int) else (x:Int))
 have hn:=hd.n
 have h4:=hd.most.len
 unfold Zii pad
 by_cases h:k<d.n
 · rw [if_pos h]
   unfold na
   rw [List.getD_eq_getElem?_getD,List.getElem?_append_left (by omega),List.getElem?_zipWith,List.getElem?_take,if_pos h,List.getD_eq_getElem?_getD,List.getD_eq_getElem?_getD,List.getElem?_eq_getElem (by omega),List.getElem?_eq_getElem (by omega)]
   rfl
 · rw [if_neg h]
   unfold na
   rw [List.getD_eq_getElem?_getD,List.getElem?_append_right (by omega),List.getElem?_replicate]
   split<;>rfl
theorem Dsk.sat_len {d:Dsk} (hd:d.ok) (i:Nat):(d.sat i).length=4:=by
 unfold Dsk.sat Zii
 exact Z2d (by rw [d.zw_len hd (by rw [Z2V,d.zs_len hd])];exact hd.n.2)
theorem Dsk.sat_at {d:Dsk} (hd:d.ok) (i:Nat) {k:Nat} (hk:k<4):na (d.sat i) k=if k<d.n then (bif decide (na d.most k=1000000) then 1000000 else (((Z2F d.zs i).getD k 0:Nat):Int)) else 0 :=
 d.toSt_at hd (by rw [Z2V,d.zs_len hd]) hk
theorem Dsk.dig_lt {d:Dsk} (hd:d.ok) (i:Nat) {k:Nat} (hk:k<d.n):(Z2F d.zs i).getD k 0<(bif decide (na d.most k=1000000) then 1 else (na d.most k).toNat+1):=by
 obtain ⟨x,hx,hlt⟩:=Z9A d.zs i d.zs_pos k _ (d.zs_get hd hk)
 rw [List.getD_eq_getElem?_getD,hx];exact hlt
theorem Dsk.sat_sml {d:Dsk} (hd:d.ok) (i:Nat):Sml (d.sat i) where
 len:=d.sat_len hd i
 at_ k hk:=by
   rw [d.sat_at hd i hk]
   split
   · rename_i h
     have:=d.dig_lt hd i h
     have h1:=hd.most.at_ k hk
     cases h2:decide (na d.most k=1000000) with
     | true=>simp
     | false=>rw [h2,cond_false] at this;rw [cond_false];omega
   · simp
theorem Dsk.sat_top {d:Dsk} (hd:d.ok) (i:Nat) {k:Nat} (hk:k<d.n):na (d.sat i) k=na d.most k↔(Z2F d.zs i).getD k 0+1=(bif decide (na d.most k=1000000) then 1 else (na d.most k).toNat+1):=by
 have hn:=hd.n
 rw [d.sat_at hd i (by omega),if_pos hk]
 have:=d.dig_lt hd i hk
 have h1:=hd.most.at_ k (by omega)
 cases h2:decide (na d.most k=1000000) with
 | true =>
   rw [h2,cond_true] at this
   rw [cond_true,cond_true]
   have:=of_decide_eq_true h2
   constructor<;>intro h<;>omega
 | false =>
   rw [cond_false,cond_false]
   constructor<;>intro h<;>omega
theorem Z5I:∀ (zs xs:List Nat) (a:Nat),xs.length=zs.length→(∀ j<a,xs.getD j 0+1=zs.getD j 0)→a<xs.length→xs.getD a 0+1≠zs.getD a 0 →
   ∀ k,(inc zs xs).getD k 0=if k<a then 0 else if k=a then xs.getD a 0+1 else xs.getD k 0
 | [],[],a,_,_,h,_,k=>by simp at h
 | [],_::_,_,hl,_,_,_,_=>by simp at hl
 | _::_,[],_,hl,_,_,_,_=>by simp at hl
 | z::zs,x::xs,0,hl,h,ha,hne,k=>by
   have h0:x+1≠z:=by simpa using hne
   unfold inc
   rw [decide_eq_false h0,cond_false]
   cases k with
   | zero=>simp
   | succ k=>simp
 | z::zs,x::xs,a+1,hl,h,ha,hne,k=>by
   have h0:x+1=z:=by have:=h 0 (by omega);simpa using this
   unfold inc
   rw [decide_eq_true h0,cond_true]
   cases k with
   | zero=>simp
   | succ k =>
     have ih:=Z5I zs xs a (by simpa using hl) (fun j hj=>by have:=h (j+1) (by omega);simpa using this) (by simpa using ha) (by simpa using hne) k
     simp only [List.getD_cons_succ] at ih ⊢
     rw [ih]
     by_cases h1:k<a
     · simp [h1]
     · by_cases h2:k=a
       · simp [h2]
       · simp [h1,h2]
theorem Z7d:∀ (zs:List Nat) (i:Nat),i<prd zs→(∀ z∈zs,0<z)→(∀ j<zs.length,(Z2F zs i).getD j 0+1=zs.getD j 0)→i+1=prd zs
 | [],i,h,_,_=>by simp only [prd] at h ⊢;omega
 | z::zs,i,h,hp,ht=>by
   have hz:=hp z (by simp)
   have h0:i%z+1=z:=by have:=ht 0 (by simp);simpa [Z2F] using this
   have hq:i / z<prd zs:=Nat.div_lt_of_lt_mul (by simpa [prd] using h)
   have ih:=Z7d zs (i / z) hq (fun y hy=>hp y (by simp [hy])) (fun j hj=>by have:=ht (j+1) (by simp;omega);simpa [Z2F] using this)
   have:=Nat.div_add_mod i z
   unfold prd
   rw [← ih,Nat.mul_add]
   omega
def rsz (s:HSt) (a:Nat):HSt:=(List.range 4).map fun j=>bif decide (j<a)&&!decide (na s j=1000000) then 0 else na s j
theorem Z1v {s:HSt} {a k:Nat} (hk:k<4):na (rsz s a) k=bif decide (k<a)&&!decide (na s k=1000000) then 0 else na s k:=by
 unfold na rsz
 rw [List.getD_eq_getElem?_getD,List.getElem?_map,List.getElem?_range hk]
 rfl
theorem ZW (s:HSt) (a:Nat):(rsz s a).length=4:=by simp [rsz]
theorem ZbG {s:HSt} (hs:s.length=4):rsz s 0=s:=Z8i (ZW s 0) hs fun k hk=>by rw [Z1v hk];simp
theorem ZbF {s:HSt} {a:Nat} (h:na s a=1000000):rsz s (a+1)=rsz s a:=Z8i (ZW s _) (ZW s _) fun k hk=>by
 rw [Z1v hk,Z1v hk]
 by_cases h1:k=a
 · subst h1;simp [h]
 · have:decide (k<a+1)=decide (k<a):=decide_eq_decide.2 (by omega)
   rw [this]
theorem Zeh {s:HSt} {a:Nat} (ha:a<4) (h:na s a≠1000000):(rsz s a).set a 0=rsz s (a+1):=Z8i (by rw [List.length_set];exact ZW s _) (ZW s _) fun k hk=>by
 rw [Z2K (by rw [ZW];exact ha),Z1v hk,Z1v hk]
 by_cases h1:a=k
 · subst h1;simp [h]
 · rw [if_neg h1]
   have:decide (k<a+1)=decide (k<a):=decide_eq_decide.2 (by omega)
   rw [this]
theorem Z5h {d:Dsk} (hd:d.ok) {k:Nat} (hk:k<d.n):d.zs.getD k 0=(bif decide (na d.most k=1000000) then 1 else (na d.most k).toNat+1):=by
 rw [List.getD_eq_getElem?_getD,d.zs_get hd hk];rfl
theorem Dsk.sat_next {d:Dsk} (hd:d.ok) {i a:Nat} (ha:a<d.n) (h:∀ j<a,na (d.sat i) j=na d.most j) (hne:na (d.sat i) a≠na d.most a) :
   (rsz (d.sat i) a).set a (na (d.sat i) a+1)=d.sat (i+1):=by
 have hn:=hd.n
 refine Z8i (by rw [List.length_set];exact ZW _ _) (d.sat_len hd _) fun k hk=>?_
 have hdl:(Z2F d.zs i).length=d.zs.length:=Z2V _ _
 have hz:=d.zs_len hd
 have hi:=Z5I d.zs (Z2F d.zs i) a hdl (fun j hj=>by rw [Z5h hd (by omega)];exact (d.sat_top hd i (by omega)).1 (h j hj)) (by omega) (fun e=>hne ((d.sat_top hd i ha).2 (by rw [← Z5h hd ha];exact e))) k
 rw [← Z7b _ _ d.zs_pos] at hi
 have hae:na d.most a≠1000000:=fun e=>by
   apply hne
   rw [d.sat_at hd i (by omega),if_pos ha,decide_eq_true e,cond_true,e]
 rw [Z2K (by rw [ZW];omega),Z1v hk,d.sat_at hd (i+1) hk]
 by_cases h1:a=k
 · subst h1
   rw [if_pos rfl,if_pos ha,decide_eq_false hae,cond_false,hi,if_neg (by omega),if_pos rfl,d.sat_at hd i hk,if_pos ha,decide_eq_false hae,cond_false]
   push_cast
   rfl
 · rw [if_neg h1]
   by_cases h2:k<a
   · rw [decide_eq_true h2,Bool.true_and,if_pos (by omega),hi,if_pos h2,d.sat_at hd i hk,if_pos (show k<d.n by omega)]
     by_cases h3:na d.most k=1000000
     · rw [decide_eq_true h3];rfl
     · have h4:=d.dig_lt hd i (show k<d.n by omega)
       have h5:=hd.most.at_ k hk
       have h6:=hd.ever k (by omega)
       rw [decide_eq_false h3] at h4 ⊢
       simp only [cond_false] at h4 ⊢
       rw [decide_eq_false (by omega)]
       rfl
   · rw [decide_eq_false h2,Bool.false_and,cond_false,d.sat_at hd i hk,hi,if_neg h2,if_neg (show ¬ k=a from fun e=>h1 e.symm)]
theorem Dsk.sat_last {d:Dsk} (hd:d.ok) {i:Nat} (hi:i<d.nst) (h:∀ j<d.n,na (d.sat i) j=na d.most j):i+1=d.nst :=
 Z7d _ _ hi d.zs_pos fun j hj=>by
   have hj':j<d.n:=by rw [d.zs_len hd] at hj;exact hj
   rw [Z5h hd hj'];exact (d.sat_top hd i hj').1 (h j hj')
theorem Z7c:∀ (zs:List Nat) (i:Nat),i+1=prd zs→(∀ z∈zs,0<z)→∀ j<zs.length,(Z2F zs i).getD j 0+1=zs.getD j 0
 | [],_,_,_,j,hj=>by simp at hj
 | z::zs,i,h,hp,j,hj=>by
   have hz:=hp z (by simp)
   have hpp:0<prd zs:=by
     rcases Nat.eq_zero_or_pos (prd zs) with h0 | h0
     · rw [show prd (z::zs)=z*prd zs from rfl,h0] at h;omega
     · exact h0
   obtain ⟨q,hq⟩:∃ q,prd zs=q+1:=⟨prd zs-1,by omega⟩
   have e:i=z*q+(z-1):=by
     rw [show prd (z::zs)=z*prd zs from rfl,hq,Nat.mul_add] at h;omega
   have e1:i%z=z-1:=by rw [e,Nat.mul_add_mod,Nat.mod_eq_of_lt (by omega)]
   have e2:i / z=q:=by rw [e,Nat.mul_add_div hz,Nat.div_eq_of_lt (by omega)];omega
   cases j with
   | zero=>simp [Z2F,e1];omega
   | succ j =>
     have:=Z7c zs q (by omega) (fun y hy=>hp y (by simp [hy])) j (by simpa using hj)
     simpa [Z2F,e2] using this
theorem Dsk.sat_max {d:Dsk} (hd:d.ok) {i k:Nat} (h:i+1=d.nst) (hk:k<d.n):na (d.sat i) k=na d.most k :=
 (d.sat_top hd i hk).2 (by rw [← Z5h hd hk];exact Z7c _ _ h d.zs_pos k (by rw [d.zs_len hd];exact hk))
theorem Dsk.sts_get {d:Dsk} {i:Nat} (hi:i<d.nst):d.sts[i]?=some (d.sat i):=by unfold Dsk.sts;rw [List.getElem?_map,List.getElem?_range hi];rfl
theorem Dsk.sts_len (d:Dsk):d.sts.length=d.nst:=by simp [Dsk.sts]
theorem ZcO:∀ (zs:List Nat) (m:Nat),0<m→(∀ z∈zs,z≤m)→prd zs≤m ^ zs.length
 | [],_,_,_=>by simp [prd]
 | z::zs,m,hm,h=>by
   have h1:=h z (by simp)
   have ih:=ZcO zs m hm (fun y hy=>h y (by simp [hy]))
   unfold prd
   rw [List.length_cons,Nat.pow_succ,Nat.mul_comm (m ^ _)]
   exact Nat.mul_le_mul h1 ih
theorem Zad:∀ (zs:List Nat),(∀ z∈zs,0<z)→0<prd zs
 | [],_=>by simp [prd]
 | z::zs,h=>by unfold prd;exact Nat.mul_pos (h z (by simp)) (Zad zs fun y hy=>h y (by simp [hy]))
theorem Dsk.nst_le {d:Dsk} (hd:d.ok):0<d.nst∧d.nst≤14641:=by
 refine ⟨Zad _ d.zs_pos,?_⟩
 have h1:=ZcO d.zs 11 (by decide) (fun z hz=>by
   unfold Dsk.zs at hz
   obtain ⟨m,hm,rfl⟩:=List.mem_map.1 hz
   obtain ⟨k,hk⟩:=List.getElem?_of_mem hm
   rw [List.getElem?_take] at hk
   split at hk
   · rename_i hkn
     have h2:=(hd.ever k hkn).2.1
     have e:na d.most k=m:=by unfold na;rw [List.getD_eq_getElem?_getD,hk];rfl
     rw [e] at h2
     cases h3:decide (m=1000000) with
     | true=>simp
     | false=>rw [cond_false];have:=of_decide_eq_false h3;omega
   · cases hk)
 rw [d.zs_len hd] at h1
 have hn:=hd.n
 refine Nat.le_trans h1 (Nat.le_trans (Nat.pow_le_pow_right (by decide) hn.2) (by decide))
def zst (d:Dsk) (k:Nat):HSt:=(List.range 4).map fun j=>bif decide (j<k)&&decide (na d.most j=1000000) then 1000000 else 0
theorem Z69 {d:Dsk} {k j:Nat} (hj:j<4):na (zst d k) j=bif decide (j<k)&&decide (na d.most j=1000000) then 1000000 else 0:=by
 unfold na zst
 rw [List.getD_eq_getElem?_getD,List.getElem?_map,List.getElem?_range hj]
 rfl
theorem Z1y (d:Dsk) (k:Nat):(zst d k).length=4:=by simp [zst]
theorem ZeL {d:Dsk} {k:Nat} (hk:k<4) (h:na d.most k=1000000):(zst d k).set k 1000000=zst d (k+1):=Z8i (by rw [List.length_set];exact Z1y _ _) (Z1y _ _) fun j hj=>by
 rw [Z2K (by rw [Z1y];exact hk),Z69 hj,Z69 hj]
 by_cases h1:k=j
 · subst h1;simp [h]
 · rw [if_neg h1,show decide (j<k+1)=decide (j<k) from decide_eq_decide.2 (by omega)]
theorem ZcW {d:Dsk} {k:Nat} (h:na d.most k≠1000000):zst d k=zst d (k+1):=Z8i (Z1y _ _) (Z1y _ _) fun j hj=>by
 rw [Z69 hj,Z69 hj]
 by_cases h1:k=j
 · subst h1;simp [h]
 · rw [show decide (j<k+1)=decide (j<k) from decide_eq_decide.2 (by omega)]
theorem Z5B:∀ (zs:List Nat) (k:Nat),(Z2F zs 0).getD k 0=0
 | [],k=>by simp [Z2F]
 | z::zs,0=>by simp [Z2F]
 | z::zs,k+1=>by simpa [Z2F] using Z5B zs k
theorem ZeK {d:Dsk} (hd:d.ok):zst d d.n=d.sat 0:=Z8i (Z1y _ _) (d.sat_len hd _) fun j hj=>by
 rw [Z69 hj,d.sat_at hd 0 hj,Z5B]
 by_cases h:j<d.n
 · rw [if_pos h,decide_eq_true h,Bool.true_and];cases decide (na d.most j=1000000)<;>rfl
 · rw [if_neg h,decide_eq_false h,Bool.false_and];rfl
theorem Z27 {α:Type} {L:List α} {p:α→Bool} {i:Nat} {x:α} (h:L[i]?=some x):(L.take (i+1)).filter p=(L.take i).filter p++(bif p x then [x] else []):=by
 rw [List.take_add_one,h,Option.toList_some,List.filter_append]
 cases hp:p x<;>simp [hp]
theorem Z7i {α:Type}:∀ {L:List α} {p:α→Bool} {i:Nat} {x:α},L[i]?=some x→p x=true→(L.filter p)[((L.take i).filter p).length]?=some x
 | [],_,_,_,h,_=>by simp at h
 | y::L,p,0,x,h,hp=>by
   simp only [List.getElem?_cons_zero,Option.some.injEq] at h
   subst h
   simp [List.filter_cons,hp]
 | y::L,p,i+1,x,h,hp=>by
   have ih:=Z7i (L:=L) (p:=p) (i:=i) (by simpa using h) hp
   rw [List.take_succ_cons]
   cases hy:p y
   · simpa [List.filter_cons,hy] using ih
   · simpa [List.filter_cons,hy] using ih
def Dsk.cnt (d:Dsk) (full:Bool) (i:Nat):Nat:=((((List.range (2 ^ d.n)).map (ZR d.n)).take i).filter (d.may full)).length
theorem Dsk.cnt_zero (d:Dsk) (full:Bool):d.cnt full 0=0:=by simp [Dsk.cnt]
theorem Dsk.cnt_end (d:Dsk) (full:Bool):d.cnt full (2 ^ d.n)=(d.trs full).length:=by
 unfold Dsk.cnt Dsk.trs;rw [List.take_of_length_le (by simp)]
theorem Dsk.cnt_get {d:Dsk} {full:Bool} {i:Nat} (hi:i<2 ^ d.n):((List.range (2 ^ d.n)).map (ZR d.n))[i]?=some (ZR d.n i):=by
 rw [List.getElem?_map,List.getElem?_range hi];rfl
theorem Dsk.cnt_yes {d:Dsk} {full:Bool} {i:Nat} (hi:i<2 ^ d.n) (h:d.may full (ZR d.n i)=true):d.cnt full (i+1)=d.cnt full i+1∧(d.trs full)[d.cnt full i]?=some (ZR d.n i):=by
 have hg:=d.cnt_get (full:=full) hi
 refine ⟨?_,Z7i hg h⟩
 unfold Dsk.cnt
 rw [Z27 hg,h,List.length_append];rfl
theorem Dsk.cnt_no {d:Dsk} {full:Bool} {i:Nat} (hi:i<2 ^ d.n) (h:d.may full (ZR d.n i)=false):d.cnt full (i+1)=d.cnt full i:=by
 have hg:=d.cnt_get (full:=full) hi
 unfold Dsk.cnt
 rw [Z27 hg,h,List.length_append];rfl
theorem Dsk.up_at {d:Dsk} {s:HSt} (hs:s.length=4) {j k:Nat} (hj:j<4):na (d.up s j) k=if j=k then max (na s k) (na d.lasts k) else na s k:=by
 unfold Dsk.up
 rw [Z2K (by omega)]
 by_cases h:j=k
 · subst h;simp
 · rw [if_neg h,if_neg h]
theorem Dsk.up_len {d:Dsk} (s:HSt) (j:Nat):(d.up s j).length=s.length:=by unfold Dsk.up;rw [List.length_set]
theorem Dsk.ups_len {d:Dsk}:∀ (l:List Nat) (s:HSt),(l.foldl d.up s).length=s.length
 | [],_=>rfl
 | j::l,s=>by rw [List.foldl_cons,ups_len l,d.up_len]
theorem Dsk.ups_at {d:Dsk}:∀ (l:List Nat) (s:HSt),s.length=4→(∀ j∈l,j<4)→∀ k,na (l.foldl d.up s) k=if k∈l then max (na s k) (na d.lasts k) else na s k
 | [],s,_,_,k=>by simp
 | j::l,s,hs,hl,k=>by
   rw [List.foldl_cons,ups_at l _ (by rw [d.up_len];exact hs) (fun i hi=>hl i (by simp [hi])),d.up_at hs (hl j (by simp))]
   by_cases h1:j=k
   · subst h1
     by_cases h2:j∈l
     · simp only [h2,if_true,List.mem_cons,true_or];omega
     · simp [h2]
   · have h1':¬ k=j:=fun e=>h1 e.symm
     simp [h1,h1']
theorem Zcr {s t:HSt}:∀ {m:Nat},dn s m=some t→t.length=s.length:=by
 intro m
 induction m generalizing t with
 | zero=>intro e;simp only [dn,Option.some.injEq] at e;rw [e]
 | succ m ih =>
   intro e
   unfold dn at e
   split at e
   · cases e
   · rename_i u hu
     have:=ih hu
     cases h1:decide (na u m=1000000) with
     | true=>rw [h1,cond_true] at e;cases e;exact this
     | false =>
       rw [h1,cond_false] at e
       cases h2:decide (na u m-1<0) with
       | true=>rw [h2,cond_true] at e;cases e
       | false=>rw [h2,cond_false] at e;cases e;rw [List.length_set];exact this
theorem Zh1 {s t:HSt} (hs:s.length=4):∀ {m:Nat},m≤4→dn s m=some t→∀ k,(k<m→na s k=1000000∨1≤na s k)∧na t k=if k<m∧na s k≠1000000 then na s k-1 else na s k:=by
 intro m
 induction m generalizing t with
 | zero=>intro _ e k;simp only [dn,Option.some.injEq] at e;subst e;simp
 | succ m ih =>
   intro hm e k
   unfold dn at e
   split at e
   · cases e
   · rename_i u hu
     obtain ⟨i1,i2⟩:=ih (by omega) hu k
     obtain ⟨_,j2⟩:=ih (by omega) hu m
     have hul:=Zcr hu
     rw [if_neg (by omega)] at j2
     by_cases h1:na u m=1000000
     · rw [decide_eq_true h1,cond_true] at e;cases e
       by_cases hk:k=m
       · subst hk
         rw [j2] at h1
         refine ⟨fun _=>.inl h1,?_⟩
         rw [i2,if_neg (by omega),if_neg (by omega)]
       · refine ⟨fun h=>i1 (by omega),?_⟩
         rw [i2]
         by_cases h2:k<m
         · simp [h2,Nat.lt_succ_of_lt h2]
         · rw [if_neg (by omega),if_neg (by omega)]
     · rw [decide_eq_false h1,cond_false] at e
       by_cases h3:na u m-1<0
       · rw [decide_eq_true h3] at e;cases e
       · rw [decide_eq_false h3,cond_false] at e;cases e
         rw [Z2K (by omega)]
         by_cases hk:m=k
         · subst hk
           rw [if_pos rfl,j2]
           rw [j2] at h1 h3
           refine ⟨fun _=>.inr (by omega),?_⟩
           rw [if_pos ⟨by omega,h1⟩]
         · rw [if_neg hk]
           refine ⟨fun h=>i1 (by omega),?_⟩
           rw [i2]
           by_cases h2:k<m
           · simp [h2,Nat.lt_succ_of_lt h2]
           · rw [if_neg (by omega),if_neg (by omega)]
theorem ZdE {s:HSt} (hs:s.length=4):∀ {m:Nat},m≤4→(∀ k<m,na s k=1000000∨1≤na s k)→∃ t,dn s m=some t:=by
 intro m
 induction m with
 | zero=>intro _ _;exact ⟨s,rfl⟩
 | succ m ih =>
   intro hm h
   obtain ⟨u,hu⟩:=ih (by omega) (fun k hk=>h k (by omega))
   obtain ⟨_,j2⟩:=Zh1 hs (by omega) hu m
   rw [if_neg (by omega)] at j2
   have hm1:=h m (by omega)
   unfold dn
   rw [hu]
   dsimp only
   rw [j2]
   by_cases h1:na s m=1000000
   · rw [decide_eq_true h1];exact ⟨_,rfl⟩
   · rw [decide_eq_false h1,cond_false,decide_eq_false (by omega)];exact ⟨_,rfl⟩
def Dsk.mid (d:Dsk) (s:HSt) (l:List Nat) (k:Nat):Int:=if k∈l then max (na s k) (na d.lasts k) else na s k
theorem Dsk.next_at {d:Dsk} (hn:d.n≤4) {s t:HSt} (hs:s.length=4) {l:List Nat} (hl:∀ k∈l,k<d.n) (e:d.next s l=some t) :
   t.length=4∧∀ k,(k<d.n→d.mid s l k=1000000∨1≤d.mid s l k)∧na t k=if k<d.n∧d.mid s l k≠1000000 then d.mid s l k-1 else d.mid s l k:=by
 have h4:∀ j∈l,j<4:=fun j hj=>by have:=hl j hj;omega
 have hu:=d.ups_len l s
 refine ⟨by rw [Zcr e,hu,hs],fun k=>?_⟩
 have:=Zh1 (by rw [hu,hs]) hn e k
 rw [d.ups_at l s hs h4 k] at this
 exact this
theorem Dsk.next_some {d:Dsk} (hn:d.n≤4) {s:HSt} (hs:s.length=4) {l:List Nat} (hl:∀ k∈l,k<d.n) (h:∀ k<d.n,d.mid s l k=1000000∨1≤d.mid s l k):∃ t,d.next s l=some t:=by
 have h4:∀ j∈l,j<4:=fun j hj=>by have:=hl j hj;omega
 refine ZdE (by rw [d.ups_len,hs]) hn fun k hk=>?_
 rw [d.ups_at l s hs h4 k]
 exact h k hk
structure Dsk.inS (d:Dsk) (s:HSt):Prop where
 len:s.length=4
 at_:∀ k<d.n,(na d.most k=1000000∧na s k=1000000)∨(na d.most k≠1000000∧0≤na s k∧na s k≤na d.most k)
 out:∀ k<4,d.n≤k→na s k=0
theorem Dsk.mem_sts {d:Dsk} (hd:d.ok) (s:HSt):s∈d.sts↔d.inS s:=by
 have hn:=hd.n
 constructor
 · intro h
   obtain ⟨i,_,rfl⟩:=List.mem_map.1 h
   refine ⟨d.sat_len hd i,fun k hk=>?_,fun k hk hk'=>?_⟩
   · rw [d.sat_at hd i (by omega),if_pos hk]
     have h1:=d.dig_lt hd i hk
     have h2:=hd.most.at_ k (by omega)
     by_cases h3:na d.most k=1000000
     · rw [decide_eq_true h3];exact .inl ⟨h3,rfl⟩
     · rw [decide_eq_false h3] at h1 ⊢
       simp only [cond_false] at h1 ⊢
       exact .inr ⟨h3,by omega,by omega⟩
   · rw [d.sat_at hd i hk,if_neg (by omega)]
 · intro h
   have hz:=d.zs_len hd
   let xs:List Nat:=(List.range d.n).map fun k=>if na d.most k=1000000 then 0 else (na s k).toNat
   have hxl:xs.length=d.n:=by simp [xs]
   have hxg:∀ k<d.n,xs.getD k 0=if na d.most k=1000000 then 0 else (na s k).toNat:=fun k hk=>by
     simp only [xs,List.getD_eq_getElem?_getD,List.getElem?_map,List.getElem?_range hk,Option.map_some,Option.getD_some]
   obtain ⟨h1,h2⟩:=Z5A d.zs xs (by omega) (fun k z x hk hx=>by
     have hkn:k<d.n:=by rw [← hz];exact (List.getElem?_eq_some_iff.1 hk).1
     rw [d.zs_get hd hkn] at hk
     cases hk
     have hx2:=hxg k hkn
     rw [List.getD_eq_getElem?_getD,hx,Option.getD_some] at hx2
     rw [hx2]
     rcases h.at_ k hkn with ⟨h3,h4⟩ | ⟨h3,h4⟩
     · rw [if_pos h3,decide_eq_true h3];simp
     · rw [if_neg h3,decide_eq_false h3,cond_false];omega)
   refine List.mem_map.2 ⟨Z8j d.zs xs,List.mem_range.2 h2,?_⟩
   refine Z8i (d.sat_len hd _) h.len fun k hk=>?_
   rw [d.sat_at hd _ hk,h1]
   by_cases hkn:k<d.n
   · rw [if_pos hkn,hxg k hkn]
     rcases h.at_ k hkn with ⟨h3,h4⟩ | ⟨h3,h4⟩
     · rw [decide_eq_true h3,cond_true,h4]
     · rw [decide_eq_false h3,cond_false,if_neg h3];omega
   · rw [if_neg hkn,h.out k hk (by omega)]
theorem Dsk.inS_sml {d:Dsk} (hd:d.ok) {s:HSt} (h:d.inS s):Sml s where
 len:=h.len
 at_ k hk:=by
   rcases Nat.lt_or_ge k d.n with h1 | h1
   · have:=h.at_ k h1
     have h2:=hd.most.at_ k hk
     omega
   · rw [h.out k hk h1];exact ⟨by decide,by decide⟩
theorem Dsk.inS_mid {d:Dsk} (hd:d.ok) {s:HSt} (h:d.inS s) (l:List Nat) {k:Nat} (hk:k<d.n):(na d.most k=1000000∧d.mid s l k=1000000)∨(na d.most k≠1000000∧0≤d.mid s l k∧d.mid s l k≤na d.most k):=by
 have h1:=h.at_ k hk
 have h2:=hd.le k hk
 have h3:=(hd.ever k hk).2.2
 have h4:=hd.most.at_ k (by have:=hd.n;omega)
 have h5:=hd.lasts.at_ k (by have:=hd.n;omega)
 unfold Dsk.mid
 by_cases h6:k∈l
 · rw [if_pos h6];omega
 · rw [if_neg h6];exact h1
theorem Dsk.next_inS {d:Dsk} (hd:d.ok) {s t:HSt} (h:d.inS s) {l:List Nat} (hl:∀ k∈l,k<d.n) (e:d.next s l=some t):d.inS t:=by
 obtain ⟨h1,h2⟩:=d.next_at hd.n.2 h.len hl e
 refine ⟨h1,fun k hk=>?_,fun k hk hk'=>?_⟩
 · obtain ⟨h3,h4⟩:=h2 k
   have h3:=h3 hk
   rcases d.inS_mid hd h l hk with ⟨h5,h6⟩ | ⟨h5,h6,h7⟩
   · rw [if_neg (by omega)] at h4;exact .inl ⟨h5,by omega⟩
   · have h8:=(hd.ever k hk).2.1
     rw [if_pos ⟨hk,by omega⟩] at h4
     exact .inr ⟨h5,by omega,by omega⟩
 · obtain ⟨_,h4⟩:=h2 k
   rw [if_neg (by omega)] at h4
   rw [h4]
   unfold Dsk.mid
   rw [if_neg (fun h=>by have:=hl k h;omega)]
   exact h.out k hk hk'
theorem Dsk.helped_iff {d:Dsk} {A:List HSt} {s:HSt}:d.helped A s=true↔∃ l∈d.trs true,∃ t,d.next s l=some t∧t∈A:=by
 unfold Dsk.helped
 rw [List.any_eq_true]
 constructor
 · rintro ⟨l,hl,h⟩
   refine ⟨l,hl,?_⟩
   cases hn:d.next s l with
   | none=>rw [hn] at h;cases h
   | some t=>rw [hn] at h;exact ⟨t,rfl,by simpa using h⟩
 · rintro ⟨l,hl,t,hn,ht⟩
   refine ⟨l,hl,?_⟩
   rw [hn];simpa using ht
theorem Dsk.alive_succ {d:Dsk} {n:Nat} {s:HSt}:s∈d.alive (n+1)↔s∈d.alive n∧d.helped (d.alive n) s=true:=List.mem_filter
theorem Dsk.alive_sts {d:Dsk}:∀ {n:Nat} {s:HSt},s∈d.alive n→s∈d.sts
 | 0,_,h=>h
 | _+1,_,h=>alive_sts (d.alive_succ.1 h).1
theorem Dsk.alive_le {d:Dsk} {s:HSt} {n:Nat}:∀ {m:Nat},n≤m→s∈d.alive m→s∈d.alive n
 | 0, h, hs => by obtain rfl : n = 0 := by omega
                  exact hs
 | m+1,h,hs=>by
   rcases Nat.lt_or_ge n (m+1) with h1 | h1
   · exact alive_le (by omega) (d.alive_succ.1 hs).1
   · obtain rfl:n=m+1:=by omega
     exact hs
theorem Dsk.alive_fix {d:Dsk} {n:Nat} (h:d.alive (n+1)=d.alive n):∀ m,d.alive (n+m)=d.alive n
 | 0=>rfl
 | m+1=>by
   have ih:=alive_fix h m
   show (d.alive (n+m)).filter (d.helped (d.alive (n+m)))=d.alive n
   rw [ih];exact h
theorem Dsk.lvl_spec {d:Dsk} {s:HSt} (hs:s∈d.sts):∀ {n:Nat},n≤1000000→(d.lvl n s=1000000∧s∈d.alive n)∨∃ j:Nat,j<n∧d.lvl n s=j∧s∈d.alive j∧s∉d.alive (j+1)
 | 0,_=>.inl ⟨rfl,hs⟩
 | n+1,hn=>by
   rcases lvl_spec hs (n:=n) (by omega) with ⟨h1,h2⟩ | ⟨j,h1,h2,h3,h4⟩
   · unfold Dsk.lvl
     rw [decide_eq_true h1,Bool.true_and]
     by_cases h:s∈d.alive (n+1)
     · rw [show (d.alive (n+1)).contains s=true by simpa using h];exact .inl ⟨h1,h⟩
     · rw [show (d.alive (n+1)).contains s=false by simpa using h];exact .inr ⟨n,by omega,rfl,h2,h⟩
   · unfold Dsk.lvl
     rw [decide_eq_false (by omega),Bool.false_and,cond_false]
     exact .inr ⟨j,by omega,h2,h3,h4⟩
def Kpt (d:Dsk) (s:HSt) (v:Int):Prop:=(v=1000000∧∀ m,s∈d.alive m)∨∃ j:Nat,j≤14641∧v=j∧s∈d.alive j∧s∉d.alive (j+1)
theorem Z7Z {d:Dsk} {s:HSt} {v w:Int} (h:Kpt d s v) (h':Kpt d s w):v=w:=by
 rcases h with ⟨rfl,h1⟩ | ⟨j,_,rfl,h1,h2⟩<;>rcases h' with ⟨rfl,h3⟩ | ⟨i,_,rfl,h3,h4⟩
 · rfl
 · exact absurd (h1 _) h4
 · exact absurd (h3 _) h2
 · rcases Nat.lt_trichotomy i j with h | h | h
   · exact absurd (d.alive_le (by omega) h1) h4
   · rw [h]
   · exact absurd (d.alive_le (by omega) h3) h2
theorem Zhr {d:Dsk} {s:HSt} (hs:s∈d.sts) {n:Nat} (hn:n≤14641) (hf:d.alive (n+1)=d.alive n):Kpt d s (d.lvl n s):=by
 rcases d.lvl_spec hs (n:=n) (by omega) with ⟨h1,h2⟩ | ⟨j,h1,h2,h3,h4⟩
 · refine .inl ⟨h1,fun m=>?_⟩
   rcases Nat.lt_or_ge m n with h | h
   · exact d.alive_le (by omega) h2
   · obtain ⟨k,rfl⟩:∃ k,m=n+k:=⟨m-n,by omega⟩
     rw [d.alive_fix hf];exact h2
 · exact .inr ⟨j,by omega,h2,h3,h4⟩
theorem Dsk.lvl_step {d:Dsk} {s:HSt} (hs:s∈d.sts) {n:Nat} (hn:n≤100000):d.lvl (n+1) s=bif (((d.alive n).filter fun s=>!d.helped (d.alive n) s).contains s) then (n:Int) else d.lvl n s:=by
 show (bif decide (d.lvl n s=1000000)&&!((d.alive (n+1)).contains s) then (n:Int) else d.lvl n s)=_
 congr 1
 have e:(((d.alive n).filter fun s=>!d.helped (d.alive n) s).contains s)=true↔s∈d.alive n∧d.helped (d.alive n) s=false:=by
   rw [List.contains_iff_mem,List.mem_filter];simp
 have e2:(decide (d.lvl n s=1000000)&&!(d.alive (n+1)).contains s)=true↔s∈d.alive n∧d.helped (d.alive n) s=false:=by
   rw [Bool.and_eq_true,decide_eq_true_eq,Bool.not_eq_true',← Bool.not_eq_true,List.contains_iff_mem,d.alive_succ]
   have h1:d.lvl n s=1000000↔s∈d.alive n:=by
     rcases d.lvl_spec hs (n:=n) (by omega) with ⟨h1,h2⟩ | ⟨j,h1,h2,h3,h4⟩
     · exact ⟨fun _=>h2,fun _=>h1⟩
     · exact ⟨fun h=>by omega,fun h=>absurd (d.alive_le (by omega) h) h4⟩
   rw [h1]
   cases d.helped (d.alive n) s<;>simp
 rw [Bool.eq_iff_iff,e,e2]
theorem Dsk.alive_same {d:Dsk} {n:Nat} (h:((d.alive n).filter fun s=>!d.helped (d.alive n) s).length=0):d.alive (n+1)=d.alive n:=by
 have h0:=List.length_eq_zero_iff.1 h
 show (d.alive n).filter (d.helped (d.alive n))=d.alive n
 rw [List.filter_eq_self]
 intro s hs
 have:=List.filter_eq_nil_iff.1 h0 s hs
 simpa using this
theorem Z7j {α:Type} (p:α→Bool):∀ (l:List α),(l.filter p).length+(l.filter fun x=>!p x).length=l.length
 | []=>rfl
 | x::l=>by
   have ih:=Z7j p l
   cases h:p x<;>simp [h]<;>omega
theorem Dsk.alive_less {d:Dsk} {n:Nat} (h:((d.alive n).filter fun s=>!d.helped (d.alive n) s).length≠0):(d.alive (n+1)).length<(d.alive n).length:=by
 have:=Z7j (d.helped (d.alive n)) (d.alive n)
 show ((d.alive n).filter (d.helped (d.alive n))).length<_
 omega
open Go
theorem ZeM:Z1g Tryz.prog 36=some 4:=by kernel_rfl
theorem ZeN:arN Tryz.prog 23=some (6,1):=by kernel_rfl
theorem Z5t:cal Tryz.prog 110=true:=by kernel_rfl
theorem Z3g:cal Tryz.prog 113=true:=by kernel_rfl
theorem Zfs:cal Tryz.prog 114=true:=by kernel_rfl
theorem Zft:cal Tryz.prog 115=true:=by kernel_rfl
theorem Zcd:cal Tryz.prog 116=true:=by kernel_rfl
theorem Zfu:cal Tryz.prog 117=true:=by kernel_rfl
theorem Zce:cal Tryz.prog 118=true:=by kernel_rfl
theorem Zfv:cal Tryz.prog 119=true:=by kernel_rfl
theorem Z5u:cal Tryz.prog 147=true:=by kernel_rfl
theorem ZfJ:cal Tryz.prog 148=true:=by kernel_rfl
theorem ZfK:cal Tryz.prog 149=true:=by kernel_rfl
theorem Zds:cal Tryz.prog 15=true:=by kernel_rfl
theorem ZfL:cal Tryz.prog 150=true:=by kernel_rfl
theorem ZfV:cal Tryz.prog 173=true:=by kernel_rfl
theorem Zdv:cal Tryz.prog 42=true:=by kernel_rfl
theorem Zdx:cal Tryz.prog 84=true:=by kernel_rfl
theorem Zct:elN Tryz.prog 24=some 4:=by kernel_rfl
theorem Z3R:elN Tryz.prog 30=some 1:=by kernel_rfl
theorem Zcw:ZT Tryz.prog 26 0=some 0:=by kernel_rfl
theorem Zcx:ZT Tryz.prog 26 1=some 1:=by kernel_rfl
theorem Z49:ZT Tryz.prog 26 2=some 2:=by kernel_rfl
theorem ZX:ZT Tryz.prog 26 3=some 8:=by kernel_rfl
theorem Z28:ZT Tryz.prog 34 0=some 0:=by kernel_rfl
theorem Z29:ZT Tryz.prog 34 1=some 1:=by kernel_rfl
theorem Z5E:ZT Tryz.prog 36 0=some 0:=by kernel_rfl
theorem Z3v:ZT Tryz.prog 36 1=some 1:=by kernel_rfl
theorem Z2G:ZT Tryz.prog 36 2=some 2:=by kernel_rfl
theorem Z1E:Z2n Tryz.prog 24=true:=by kernel_rfl
theorem Z04:Z2n Tryz.prog 30=true:=by kernel_rfl
theorem Z51:Z0g Tryz.prog 131=true:=by kernel_rfl
theorem ZjJ:Z0g Tryz.prog 206=true:=by kernel_rfl
theorem Z31:Z0g Tryz.prog 24=true:=by kernel_rfl
theorem sc3:Z0g Tryz.prog 3=true:=by kernel_rfl
def Z3W (x:HBin):List Value:=[.int .i64 x.warm,.int .i64 x.mark,.int .i64 x.lo,.int .i64 x.hi]
def Zt (l:List HBin):List (List Value):=l.map Z3W
def btl (b:Barn) (sl:Value):List Value:=[.int .i64 b.cool,.int .i64 b.gangs,.int .i64 (na b.rise 0),.int .i64 (na b.rise 1),.int .i64 (na b.rise 2),.int .i64 (na b.rise 3),.int .i64 (na b.rise 4),.int .i64 (na b.rise 5),sl]
def Barn.v (b:Barn) (sl:Value):Value:=.agg (btl b sl).toArray
def Barn.sl (b:Barn) (a:Option Addr) (c:Nat):Value:=.slice a b.bins.length c
abbrev irows (l:List Int):List (List Value):=l.map fun z=>[.int .i64 z]
theorem Z47 {l:List HBin} {k:Nat} {x:HBin} (h:l[k]?=some x):(Zt l)[k]?=some (Z3W x):=by simp [Zt,h]
theorem Z6 (l:List Int):(Zj l).length=l.length:=by simp [Zj]
theorem Z0x {l:List Int} {k:Nat} {v:Int} (h:l[k]?=some v):(Zj l)[k]?=some (.int .i64 v):=by simp [Zj,h]
theorem Z76 {b:Barn} {sl:Value} {k:Nat} (hk:k<6):(btl b sl)[2+k]?=some (.int .i64 (na b.rise k)):=by
 match k,hk with
 | 0,_=>rfl
 | 1,_=>rfl
 | 2,_=>rfl
 | 3,_=>rfl
 | 4,_=>rfl
 | 5,_=>rfl
theorem St.barn {b:Barn} {sl:Value} {bk e:Nat} {H:Z7} {R:Z4} {w:World} (hr:b.rise.length=6) (hs:St ((bk,cel e (btl b sl))::H) R w) :
   St H (RowsA (some ⟨bk,2,none⟩) 1 (irows b.rise)::RowsA (some ⟨bk,0,none⟩) 9 [btl b sl]::R) w:=by
 have h1:=(St.freeze hs).also (f:=RowsA (some ⟨bk,0,none⟩) 9 [btl b sl]) (fun w' hw=>by
   have hb:=hw (fun w=>w.heap[bk]?=some (cel e (btl b sl))) (by simp)
   exact Z4e (junk:=[]) (e:=e) (by rw [hb];simp) (by simp [btl]))
 have h2:=h1.also (f:=RowsA (some ⟨bk,2,none⟩) 1 (irows b.rise)) (fun w' hw=>by
   have hb:=hw (fun w=>w.heap[bk]?=some (cel e (btl b sl))) (by simp)
   intro i row hi
   have hi6:i<6:=by
     have:=(List.getElem?_eq_some_iff.1 hi).1
     simpa [irows,hr] using this
   have e1:row=[.int .i64 (na b.rise i)]:=by
     simp only [irows,List.getElem?_map,Option.map_eq_some_iff] at hi
     obtain ⟨z,hz,rfl⟩:=hi
     simp [na,hz]
   subst e1
   refine ⟨rfl,bk,2,rfl,fun j x hx=>?_⟩
   match j,hx with
   | 0,hx =>
     rw [Z1O hb,Nat.mul_one,Nat.add_zero]
     simp only [List.getElem?_cons_zero] at hx
     rw [← hx]
     simpa using Z76 hi6)
 exact h2.facts (fun g hg=>by
   rcases List.mem_cons.1 hg with h3 | h3
   · simp [h3]
   · rcases List.mem_cons.1 h3 with h4 | h4<;>simp [h4])
def ZaS (l:List Int) (i:Nat):Bool:=match l[i]?,l[i+1]? with
 | some x,some y=>decide (y<x)
 | _,_=>false
theorem Z6X:∀ (l:List Int),srt l=!((List.range l.length).any (ZaS l))
 | []=>rfl
 | [x]=>rfl
 | x::y::l=>by
   have ih:=Z6X (y::l)
   unfold srt
   rw [ih]
   rw [show (x::y::l).length=(y::l).length+1 from rfl,List.range_succ_eq_map (n:=(y::l).length),List.any_cons,List.any_map]
   have e:(ZaS (x::y::l)) ∘ Nat.succ=ZaS (y::l):=by funext i;rfl
   rw [e]
   have e2:ZaS (x::y::l) 0=decide (y<x):=rfl
   rw [e2]
   by_cases h:x≤y
   · simp [h,Int.not_lt.2 h]
   · simp [h,Int.not_le.1 h]
theorem Za3 {l:List Int} {k:Nat} {x y:Int} (hx:l[k]?=some x) (hy:l[k+1]?=some y) (h:y<x):srt l=false:=by
 rw [Z6X,Bool.not_eq_false']
 rw [List.any_eq_true]
 refine ⟨k,List.mem_range.2 (List.getElem?_eq_some_iff.1 hx).1,?_⟩
 unfold ZaS
 rw [hx,hy];simpa using h
theorem Zhm {l:List Int} (h:∀ i,i+1<l.length→ZaS l i=false):srt l=true:=by
 rw [Z6X,Bool.not_eq_true']
 rw [List.any_eq_false]
 intro i _
 rcases Nat.lt_or_ge (i+1) l.length with h1 | h1
 · simp [h i h1]
 · unfold ZaS
   rw [List.getElem?_eq_none h1]
   cases l[i]?<;>simp
theorem Zr {α:Type} {xs:List α} {p:α→Bool} {k:Nat} {x:α} (hx:xs[k]?=some x) (hn:∀ y∈xs.take k,p y=false) (h:p x=true):xs.findIdx? p=some k:=by
 induction xs generalizing k with
 | nil=>simp at hx
 | cons y ys ih =>
   cases k with
   | zero=>simp only [List.getElem?_cons_zero,Option.some.injEq] at hx;subst hx;simp [List.findIdx?_cons,h]
   | succ k =>
     have hy:=hn y (by simp)
     have:=ih (by simpa using hx) (fun z hz=>hn z (by simp [hz]))
     simp [List.findIdx?_cons,hy,this]
theorem Zp {α:Type} {xs:List α} {p:α→Bool} (hn:∀ y∈xs,p y=false):xs.findIdx? p=none:=by
 rw [List.findIdx?_eq_none_iff];exact hn
theorem ZJ {α:Type} {xs:List α} {p:α→Bool} {k:Nat} {x:α} (hx:xs[k]?=some x) (hn:∀ y∈xs.take k,p y=false) (h:p x=false):∀ y∈xs.take (k+1),p y=false:=by
 intro y hy
 rw [List.take_add_one,hx] at hy
 rcases List.mem_append.1 hy with h1 | h1
 · exact hn y h1
 · simp only [Option.toList_some,List.mem_singleton] at h1;subst h1;exact h
theorem Z0b {α:Type} (xs:List α) (p:α→Bool):Value.bool (decide (0≤(match xs.findIdx? p with | some k=>(k:Int) | none => -1))) = .bool (xs.any p):=by
 congr 1
 cases h:xs.findIdx? p with
 | none =>
   have:=List.findIdx?_eq_none_iff.1 h
   have h2:xs.any p=false:=by simpa using this
   rw [h2];rfl
 | some k =>
   have h2:xs.any p=true:=by
     rw [← Bool.not_eq_false];intro h3
     have:xs.findIdx? p=none:=List.findIdx?_eq_none_iff.2 (by simpa using h3)
     rw [this] at h;cases h
   rw [h2];simp
theorem Zx {α:Type} (xs:List α) (p:α→Bool):Value.bool (!xs.any fun x=>!p x) = .bool (xs.all p):=by
 congr 1
 induction xs with
 | nil=>rfl
 | cons x xs ih=>simp [← ih]
theorem Z6l (n lo hi:Int) (H:Z7) (R:Z4) :
    FnV Tryz.prog 113 [.int .i64 n,.int .i64 lo,.int .i64 hi] H R (.bool (inB n lo hi)):=by
 refine Z9 Tryz.func113 rfl Tryz.ntmps113 rfl ?_
 refine sqt 1 rfl (pur 1 rfl (sqt 9 rfl (pur 4 rfl ?_)))
 refine Zv 10 rfl ?_ ?_<;>intro g10
 refine pur 5 rfl (Z5 ?_)
 exact rtA rfl rfl rfl ⟨by simp_all only [Z08,inB,Bool.true_and,Bool.false_and,cond_true,cond_false],rfl,rfl⟩ drp
 refine pur 5 rfl (Z5 ?_)
 exact rtA rfl rfl rfl ⟨by simp_all only [Z08,inB,Bool.true_and,Bool.false_and,cond_true,cond_false],rfl,rfl⟩ drp
theorem Z8J (n:Int) (H:Z7) (R:Z4) :
    FnV Tryz.prog 118 [.int .i64 n] H R (.bool (inB n 0 5)):=by
 refine Z9 Tryz.func118 rfl Tryz.ntmps118 rfl ?_
 refine sqt 1 rfl (pur 1 rfl (sqt 3 rfl (pur 1 rfl ?_)))
 refine clV rfl Z3g rfl rfl (Z6l _ _ _ _ _) ?_
 refine pur 1 rfl (Z5 ?_)
 exact rtA rfl rfl rfl ⟨rfl,rfl,rfl⟩ drp
theorem Z3d (n m:Int) (a:Option Addr) (c:Nat) (H:Z7) (R:Z4) [hR:MemRows a 1 [[.int .i64 m]] R] :
    FnV Tryz.prog 120 [.int .i64 n,.slice a 1 c] H R (.int .i64 (max n m)):=by
 refine Z9 Tryz.func120 rfl Tryz.ntmps120 rfl ?_
 refine sqt 1 rfl (pur 1 rfl (Z0 (sqt 3 rfl (pur 1 rfl (sp rfl (PE.lenSl Z04 rfl) rfl (pur 1 rfl (Z1 ?_)))))))
 refine Zl (a:=a) (sz:=1) (rows:=[[.int .i64 m]]) (by simp) (fun b off he=>?_)
 subst he
 refine Zc (ι:={k:Nat // k≤1}) (fun k=>⟨[(0,.int .i64 (bif k.1 == 0 then n else max n m)),(7,.slice (some ⟨b,off,none⟩) 1 c),(8,.int .i64 1),(9,.int .i64 k.1)],H,R⟩) (fun k=>1-k.1) ⟨0,by omega⟩ ?_ (fun k=>?_)
 exact Zf idH
 obtain ⟨k,hk⟩:=k
 dsimp only
 refine sqt 1 rfl (pur 1 rfl (Z0 ?_))
 refine Z2 rfl ?_ ?_<;>intro hc0
 simp only [cS] at hc0
 obtain rfl:k=0:=by omega
 refine Z3 (Z0 (Z1 (sqt 3 rfl (sp rfl (PE.indexAddr Z3R rfl rfl (by omega) (by omega)) rfl (spL rfl rfl (lf0 sc3 (row:=[.int .i64 m]) rfl rfl) rfl (pur 1 rfl (sqr 4 rfl (pur 2 rfl (sp rfl (PE.max rfl rfl) rfl (pur 1 rfl (sqr 2 rfl (sp rfl (PE.add rfl rfl (by omega)) rfl (pur 1 rfl ?_)))))))))))))
 exact Ze ⟨1,by omega⟩ (by simp) idH
 try simp only [cS] at hc0
 refine Z8 (Za (Za (Zn (sqt 2 rfl (pur 2 rfl (Z5 ?_))))))
 obtain rfl:k=1:=by omega
 exact rtA rfl rfl rfl ⟨rfl,rfl,rfl⟩ drp
theorem Z1m (xs:List Int) (a:Option Addr) (c g:Nat) (fst cap:List Value) (p:Int→Bool) (hg:cal Tryz.prog g=true) (hl:xs.length≤9223372036854775807) (H:Z7) (R:Z4) [hR:MemRows a 1 (irows xs) R] (hp:∀ x,x∈xs→FnV Tryz.prog g (fst++[.int .i64 x]++cap) H R (.bool (p x))) :
    FnV Tryz.prog 147 [.slice a xs.length c,.func (.func g) fst.toArray cap.toArray] H R (.int .i64 (match xs.findIdx? p with | some k=>(k:Int) | none => -1)):=by
 refine Z9 Tryz.func147 rfl Tryz.ntmps147 rfl ?_
 refine sqt 1 rfl (pur 1 rfl (Z0 (sqt 3 rfl (pur 1 rfl (sp rfl (PE.lenSl Z04 rfl) rfl (pur 1 rfl (Z1 ?_)))))))
 refine Zc (ι:={k:Nat // k≤xs.length∧∀ x∈xs.take k,p x=false}) (fun k=>⟨[(0,.slice a xs.length c),(1,.func (.func g) fst.toArray cap.toArray),(7,.int .i64 xs.length),(8,.int .i64 k.1)],H,R⟩) (fun k=>xs.length-k.1) ⟨0,by simp⟩ ?_ (fun k=>?_)
 exact Zf idH
 obtain ⟨k,hk,hn⟩:=k
 dsimp only
 refine sqt 1 rfl (pur 1 rfl (Z0 ?_))
 refine Z2 rfl ?_ ?_<;>intro hc0
 simp only [cS] at hc0
 obtain ⟨x,hx⟩:∃ x,xs[k]?=some x:=⟨_,List.getElem?_eq_getElem (by omega)⟩
 have hxm:=List.mem_of_getElem? hx
 refine Zl (a:=a) (sz:=1) (rows:=irows xs) (by cases xs<;>simp_all [irows]) (fun b off he=>?_)
 subst he
 refine Z3 (Z0 (Z1 (sqt 2 rfl (pur 2 rfl (sqt 6 rfl (pur 3 rfl (sp rfl (PE.indexAddr Z3R rfl rfl (by omega) (by omega)) rfl (spL rfl rfl (lf0 sc3 (by simp [irows,hx];rfl) rfl) rfl ?_))))))))
 refine Z2r rfl rfl (hg) rfl rfl (hp x hxm) ?_
 refine Z2 rfl ?_ ?_<;>intro hc1
 refine sqt 2 rfl (pur 2 rfl (Z5 ?_))
 first | (exact rtA rfl rfl rfl ⟨by rw [Zr hx hn hc1];rfl,rfl,rfl⟩ idH) | (exact rtA rfl rfl rfl ⟨by rw [Zp (by simpa using hn)];rfl,rfl,rfl⟩ idH)
 refine Z3 (sqr 2 rfl (sp rfl (PE.add rfl rfl (by omega)) rfl (pur 1 rfl ?_)))
 exact Zb ⟨k+1,by omega,ZJ hx hn hc1⟩ idH
 simp only [cS] at hc0
 obtain rfl:k=xs.length:=by omega
 refine Z8 (Za (Za (Zn (sqt 1 rfl (pur 1 rfl (Z5 ?_))))))
 first | (exact rtA rfl rfl rfl ⟨by rw [Zr hx hn hc1];rfl,rfl,rfl⟩ idH) | (exact rtA rfl rfl rfl ⟨by rw [Zp (by simpa using hn)];rfl,rfl,rfl⟩ idH)
theorem Z1l (xs:List Int) (a:Option Addr) (c g:Nat) (fst cap:List Value) (p:Int→Bool) (hg:cal Tryz.prog g=true) (hl:xs.length≤9223372036854775807) (H:Z7) (R:Z4) [hR:MemRows a 1 (irows xs) R] (hp:∀ x,x∈xs→FnV Tryz.prog g (fst++[.int .i64 x]++cap) H R (.bool (p x))) :
    FnV Tryz.prog 110 [.slice a xs.length c,.func (.func g) fst.toArray cap.toArray] H R (.bool (xs.any p)):=by
 refine Z9 Tryz.func110 rfl Tryz.ntmps110 rfl ?_
 refine sqt 1 rfl (pur 1 rfl (sqt 5 rfl (pur 2 rfl ?_)))
 refine clV rfl Z5u rfl rfl (Z1m xs a c g fst cap p hg hl _ _ hp) ?_
 refine pur 2 rfl (Z5 ?_)
 exact rtA rfl rfl rfl ⟨by simp only [Z08];exact Z0b _ _,rfl,rfl⟩ drp
theorem Z1k (x:Int) (g bf:Nat) (fst cap:List Value) (p:Bool) (hg:cal Tryz.prog g=true) (H:Z7) (R:Z4) [hM:Mem1 bf (cel 131 [.func (.func g) fst.toArray cap.toArray]) H] (hp:FnV Tryz.prog g (fst++[.int .i64 x]++cap) H R (.bool p)) :
    FnV Tryz.prog 148 [.int .i64 x,.pointer (some ⟨bf,0,none⟩)] H R (.bool !p):=by
 refine Z9 Tryz.func148 rfl Tryz.ntmps148 rfl ?_
 refine sqt 1 rfl (pur 1 rfl (sqt 5 rfl (spL rfl rfl (lh Z51 rfl rfl) rfl (pur 1 rfl ?_))))
 refine Z2r rfl rfl (hg) rfl rfl (hp) ?_
 refine pur 2 rfl (Z5 ?_)
 exact rtA rfl rfl rfl ⟨rfl,rfl,rfl⟩ drp
theorem Z07 (xs:List Int) (a:Option Addr) (c g:Nat) (fst cap:List Value) (p:Int→Bool) (hg:cal Tryz.prog g=true) (hl:xs.length≤9223372036854775807) (H:Z7) (R:Z4) [hR:MemRows a 1 (irows xs) R] (hp:∀ b x,x∈xs→FnV Tryz.prog g (fst++[.int .i64 x]++cap) ((b,cel 131 [.func (.func g) fst.toArray cap.toArray])::H) R (.bool (p x))) :
    FnV Tryz.prog 114 [.slice a xs.length c,.func (.func g) fst.toArray cap.toArray] H R (.bool (xs.all p)):=by
 refine Z9 Tryz.func114 rfl Tryz.ntmps114 rfl ?_
 refine sqt 2 rfl (bx rfl rfl rfl (fun b3=>pur 1 rfl (sqt 5 rfl (pur 1 rfl (sp rfl (PE.makeFunc rfl rfl) rfl ?_)))))
 refine clV rfl Z5t rfl rfl (Z1l xs a c 148 [] [_] (fun x=>!p x) ZfJ hl _ _ (hp:=fun x hx=>Z1k x g _ fst cap (p x) hg _ _ (hp:=hp _ x hx))) ?_
 refine pur 2 rfl (Z5 ?_)
 exact rtA rfl rfl rfl ⟨by simp only [Z08];rw [Zx],rfl,rfl⟩ drp
theorem Z3f (xs:List HBin) (a:Option Addr) (c g:Nat) (fst cap:List Value) (p:HBin→Bool) (hg:cal Tryz.prog g=true) (hl:xs.length≤9223372036854775807) (H:Z7) (R:Z4) [hR:MemRows a 4 (Zt xs) R] (hp:∀ x,x∈xs→FnV Tryz.prog g (fst++[.agg (Z3W x).toArray]++cap) H R (.bool (p x))) :
    FnV Tryz.prog 173 [.slice a xs.length c,.func (.func g) fst.toArray cap.toArray] H R (.int .i64 (match xs.findIdx? p with | some k=>(k:Int) | none => -1)):=by
 refine Z9 Tryz.func173 rfl Tryz.ntmps173 rfl ?_
 refine sqt 1 rfl (pur 1 rfl (Z0 (sqt 3 rfl (pur 1 rfl (sp rfl (PE.lenSl Z1E rfl) rfl (pur 1 rfl (Z1 ?_)))))))
 refine Zc (ι:={k:Nat // k≤xs.length∧∀ x∈xs.take k,p x=false}) (fun k=>⟨[(0,.slice a xs.length c),(1,.func (.func g) fst.toArray cap.toArray),(7,.int .i64 xs.length),(8,.int .i64 k.1)],H,R⟩) (fun k=>xs.length-k.1) ⟨0,by simp⟩ ?_ (fun k=>?_)
 exact Zf idH
 obtain ⟨k,hk,hn⟩:=k
 dsimp only
 refine sqt 1 rfl (pur 1 rfl (Z0 ?_))
 refine Z2 rfl ?_ ?_<;>intro hc0
 simp only [cS] at hc0
 obtain ⟨x,hx⟩:∃ x,xs[k]?=some x:=⟨_,List.getElem?_eq_getElem (by omega)⟩
 have hxm:=List.mem_of_getElem? hx
 refine Zl (a:=a) (sz:=4) (rows:=Zt xs) (by cases xs<;>simp_all [Zt]) (fun b off he=>?_)
 subst he
 refine Z3 (Z0 (Z1 (sqt 2 rfl (pur 2 rfl (sqt 6 rfl (pur 3 rfl (sp rfl (PE.indexAddr Zct rfl rfl (by omega) (by omega)) rfl (spL rfl rfl (lfA ZeM (row:=Z3W x) (by simp [Zt,hx]) rfl) rfl ?_))))))))
 refine Z2r rfl rfl (hg) rfl rfl (hp x hxm) ?_
 refine Z2 rfl ?_ ?_<;>intro hc1
 refine sqt 2 rfl (pur 2 rfl (Z5 ?_))
 first | (exact rtA rfl rfl rfl ⟨by rw [Zr hx hn hc1];rfl,rfl,rfl⟩ idH) | (exact rtA rfl rfl rfl ⟨by rw [Zp (by simpa using hn)];rfl,rfl,rfl⟩ idH)
 refine Z3 (sqr 2 rfl (sp rfl (PE.add rfl rfl (by omega)) rfl (pur 1 rfl ?_)))
 exact Zb ⟨k+1,by omega,ZJ hx hn hc1⟩ idH
 simp only [cS] at hc0
 obtain rfl:k=xs.length:=by omega
 refine Z8 (Za (Za (Zn (sqt 1 rfl (pur 1 rfl (Z5 ?_))))))
 first | (exact rtA rfl rfl rfl ⟨by rw [Zr hx hn hc1];rfl,rfl,rfl⟩ idH) | (exact rtA rfl rfl rfl ⟨by rw [Zp (by simpa using hn)];rfl,rfl,rfl⟩ idH)
theorem Z3e (xs:List HBin) (a:Option Addr) (c g:Nat) (fst cap:List Value) (p:HBin→Bool) (hg:cal Tryz.prog g=true) (hl:xs.length≤9223372036854775807) (H:Z7) (R:Z4) [hR:MemRows a 4 (Zt xs) R] (hp:∀ x,x∈xs→FnV Tryz.prog g (fst++[.agg (Z3W x).toArray]++cap) H R (.bool (p x))) :
    FnV Tryz.prog 149 [.slice a xs.length c,.func (.func g) fst.toArray cap.toArray] H R (.bool (xs.any p)):=by
 refine Z9 Tryz.func149 rfl Tryz.ntmps149 rfl ?_
 refine sqt 1 rfl (pur 1 rfl (sqt 5 rfl (pur 2 rfl ?_)))
 refine clV rfl ZfV rfl rfl (Z3f xs a c g fst cap p hg hl _ _ hp) ?_
 refine pur 2 rfl (Z5 ?_)
 exact rtA rfl rfl rfl ⟨by simp only [Z08];exact Z0b _ _,rfl,rfl⟩ drp
theorem Z3a (x:HBin) (g bf:Nat) (fst cap:List Value) (p:Bool) (hg:cal Tryz.prog g=true) (H:Z7) (R:Z4) [hM:Mem1 bf (cel 206 [.func (.func g) fst.toArray cap.toArray]) H] (hp:∀ b,FnV Tryz.prog g (fst++[.agg (Z3W x).toArray]++cap) ((b,cel 36 (Z3W x))::H) R (.bool p)) :
    FnV Tryz.prog 150 [.agg (Z3W x).toArray,.pointer (some ⟨bf,0,none⟩)] H R (.bool !p):=by
 refine Z9 Tryz.func150 rfl Tryz.ntmps150 rfl ?_
 refine sqt 2 rfl (bx rfl rfl rfl (fun b2=>pur 1 rfl (sqt 5 rfl (spL rfl rfl (lh ZjJ rfl rfl) rfl (spL rfl rfl (lhA [_,_,_,_] ZeM rfl rfl rfl) rfl ?_)))))
 refine Z2r rfl rfl (hg) rfl rfl (hp _) ?_
 refine pur 2 rfl (Z5 ?_)
 exact rtA rfl rfl rfl ⟨rfl,rfl,rfl⟩ drp
theorem Z0h (xs:List HBin) (a:Option Addr) (c g:Nat) (fst cap:List Value) (p:HBin→Bool) (hg:cal Tryz.prog g=true) (hl:xs.length≤9223372036854775807) (H:Z7) (R:Z4) [hR:MemRows a 4 (Zt xs) R] (hp:∀ b b2 x,x∈xs→FnV Tryz.prog g (fst++[.agg (Z3W x).toArray]++cap) ((b2,cel 36 (Z3W x))::(b,cel 206 [.func (.func g) fst.toArray cap.toArray])::H) R (.bool (p x))) :
    FnV Tryz.prog 116 [.slice a xs.length c,.func (.func g) fst.toArray cap.toArray] H R (.bool (xs.all p)):=by
 refine Z9 Tryz.func116 rfl Tryz.ntmps116 rfl ?_
 refine sqt 2 rfl (bx rfl rfl rfl (fun b3=>pur 1 rfl (sqt 5 rfl (pur 1 rfl (sp rfl (PE.makeFunc rfl rfl) rfl ?_)))))
 refine clV rfl ZfK rfl rfl (Z3e xs a c 150 [] [_] (fun x=>!p x) ZfL hl _ _ (hp:=fun x hx=>Z3a x g _ fst cap (p x) hg _ _ (hp:=fun b=>hp _ _ x hx))) ?_
 refine pur 2 rfl (Z5 ?_)
 exact rtA rfl rfl rfl ⟨by simp only [Z08];rw [Zx],rfl,rfl⟩ drp
theorem Z5n (n:Int) (H:Z7) (R:Z4) :
    FnV Tryz.prog 115 [.int .i64 n] H R (.bool (Z1I n)):=by
 refine Z9 Tryz.func115 rfl Tryz.ntmps115 rfl ?_
 refine sqt 1 rfl (pur 1 rfl (sqt 7 rfl (pur 3 rfl ?_)))
 refine Zv 5 rfl ?_ ?_<;>intro g5
 refine pur 4 rfl (Z5 ?_)
 exact rtA rfl rfl rfl ⟨by simp_all only [Z08,Z1I,Bool.true_or,Bool.false_or,cond_true,cond_false],rfl,rfl⟩ drp
 refine pur 1 rfl ?_
 refine Z4A rfl rfl rfl rfl Z3g rfl rfl (Z6l _ _ _ _ _) ?_
 refine pur 2 rfl (Z5 ?_)
 exact rtA rfl rfl rfl ⟨by simp_all only [Z08,Z1I,Bool.true_or,Bool.false_or,cond_true,cond_false],rfl,rfl⟩ drp
theorem Z5o (x:HBin) (H:Z7) (R:Z4) :
    FnV Tryz.prog 117 [.agg (Z3W x).toArray] H R (.bool x.ok):=by
 refine Z9 Tryz.func117 rfl Tryz.ntmps117 rfl ?_
 refine sqt 2 rfl (bx rfl rfl rfl (fun b1=>pur 1 rfl (sqt 23 rfl (sp rfl (PE.fA Z3v rfl) rfl (spL rfl rfl (lh sc3 rfl rfl) rfl ?_)))))
 refine clV rfl Z3g rfl rfl (Z6l _ _ _ _ _) ?_
 refine pur 1 rfl ?_
 refine Zv 6 rfl ?_ ?_<;>intro g6
 refine spG rfl rfl rfl rfl (PE.fA Z5E rfl) rfl ?_
 refine Z1b rfl rfl rfl rfl rfl (lh sc3 rfl rfl) rfl ?_
 refine spG rfl rfl rfl rfl (PE.fA Z3v rfl) rfl ?_
 refine Z1b rfl rfl rfl rfl rfl (lh sc3 rfl rfl) rfl ?_
 refine Z4A rfl rfl rfl rfl Z3g rfl rfl (Z6l _ _ _ _ _) ?_
 refine pur 2 rfl ?_
 refine Zv 13 rfl ?_ ?_<;>intro g13
 refine spG rfl rfl rfl rfl (PE.fA Z2G rfl) rfl ?_
 refine spG rfl rfl rfl rfl (PE.fA Z28 rfl) rfl ?_
 refine Z1b rfl rfl rfl rfl rfl (lh sc3 rfl rfl) rfl ?_
 refine Z4A rfl rfl rfl rfl Zce rfl rfl (Z8J _ _ _) ?_
 refine pur 2 rfl ?_
 refine Zv 19 rfl ?_ ?_<;>intro g19
 refine spG rfl rfl rfl rfl (PE.fA Z2G rfl) rfl ?_
 refine spG rfl rfl rfl rfl (PE.fA Z29 rfl) rfl ?_
 refine Z1b rfl rfl rfl rfl rfl (lh sc3 rfl rfl) rfl ?_
 refine Z4A rfl rfl rfl rfl Zce rfl rfl (Z8J _ _ _) ?_
 refine pur 2 rfl (Z5 ?_)
 exact rtA rfl rfl rfl ⟨by simp_all only [Z08,HBin.ok,Bool.true_and,Bool.false_and,Bool.and_true,Bool.and_false,cond_true,cond_false],rfl,rfl⟩ drp
 refine pur 6 rfl (Z5 ?_)
 exact rtA rfl rfl rfl ⟨by simp_all only [Z08,HBin.ok,Bool.true_and,Bool.false_and,Bool.and_true,Bool.and_false,cond_true,cond_false],rfl,rfl⟩ drp
 refine pur 12 rfl (Z5 ?_)
 exact rtA rfl rfl rfl ⟨by simp_all only [Z08,HBin.ok,Bool.true_and,Bool.false_and,Bool.and_true,Bool.and_false,cond_true,cond_false],rfl,rfl⟩ drp
 refine pur 19 rfl (Z5 ?_)
 exact rtA rfl rfl rfl ⟨by simp_all only [Z08,HBin.ok,Bool.true_and,Bool.false_and,Bool.and_true,Bool.and_false,cond_true,cond_false],rfl,rfl⟩ drp
theorem Z8H (x:HBin) (H:Z7) (R:Z4) :
    FnV Tryz.prog 119 [.agg (Z3W x).toArray] H R (.bool (decide (x.lo≤x.hi))):=by
 refine Z9 Tryz.func119 rfl Tryz.ntmps119 rfl ?_
 refine sqt 2 rfl (bx rfl rfl rfl (fun b1=>pur 1 rfl (sqt 8 rfl (sp rfl (PE.fA Z2G rfl) rfl (sp rfl (PE.fA Z28 rfl) rfl (spL rfl rfl (lh sc3 rfl rfl) rfl (sp rfl (PE.fA Z2G rfl) rfl (sp rfl (PE.fA Z29 rfl) rfl (spL rfl rfl (lh sc3 rfl rfl) rfl (pur 2 rfl (Z5 ?_)))))))))))
 exact rtA rfl rfl rfl ⟨rfl,rfl,rfl⟩ drp
theorem Z98 (n:Int) (H:Z7) (R:Z4) :
    FnV Tryz.prog 84 [.int .i64 n] H R (.bool false):=by
 refine Z9 Tryz.func84 rfl Tryz.ntmps84 rfl ?_
 refine sqt 1 rfl (pur 1 rfl (sqt 4 rfl (pur 4 rfl (Z5 ?_))))
 exact rtA rfl rfl rfl ⟨by simp [Z08],rfl,rfl⟩ drp
theorem Zfi (x y:Int) (H:Z7) (R:Z4) :
    FnV Tryz.prog 42 [.int .i64 x,.int .i64 y] H R (.bool (decide (x<y))):=by
 refine Z9 Tryz.func42 rfl Tryz.ntmps42 rfl ?_
 refine sqt 1 rfl (pur 1 rfl (sqt 13 rfl (pur 1 rfl ?_)))
 refine clV rfl Zdx rfl rfl (Z98 x _ _) ?_
 refine pur 11 rfl (Z5 ?_)
 exact rtA rfl rfl rfl ⟨rfl,rfl,rfl⟩ drp
theorem Z7K (xs:List Int) (a:Option Addr) (c:Nat) (hl:xs.length≤9223372036854775807) (H:Z7) (R:Z4) [hR:MemRows a 1 (irows xs) R] :
    FnV Tryz.prog 15 [.slice a xs.length c] H R (.bool (srt xs)):=by
 refine Z9 Tryz.func15 rfl Tryz.ntmps15 rfl ?_
 refine sqt 1 rfl (pur 1 rfl (Z0 (sqt 4 rfl (pur 1 rfl (sp rfl (PE.lenSl Z04 rfl) rfl (sp rfl (PE.sub rfl rfl (by omega)) rfl (pur 1 rfl (Z1 ?_))))))))
 refine Zc (ι:={k:Nat // k≤xs.length∧∀ i,k≤i+1→i+1<xs.length→ZaS xs i=false}) (fun k=>⟨[(0,.slice a xs.length c),(3,.int .i64 ((k.1:Int)-1))],H,R⟩) (fun k=>k.1) ⟨xs.length,by omega,fun i h1 h2=>by omega⟩ ?_ (fun k=>?_)
 exact Zf idH
 obtain ⟨k,hk,hn⟩:=k
 dsimp only
 refine Z0 (sqt 2 rfl (pur 2 rfl ?_))
 refine Z2 rfl ?_ ?_<;>intro hc0<;>try simp only [cS] at hc0
 obtain ⟨k,rfl⟩:∃ j,k=j+2:=⟨k-2,by omega⟩
 obtain ⟨y,hy⟩:∃ y,xs[k+1]?=some y:=⟨_,List.getElem?_eq_getElem (by omega)⟩
 obtain ⟨x,hx⟩:∃ x,xs[k]?=some x:=⟨_,List.getElem?_eq_getElem (by omega)⟩
 rw [show (((k+2:Nat):Int)-1)=(k+1:Nat) from by omega]
 refine Zl (a:=a) (sz:=1) (rows:=irows xs) (by cases xs<;>simp_all) (fun b off he=>?_)
 subst he
 refine Z3 (Z0 (Z1 (Z0 ?_)))
 refine Zd [0,0,3,7,0,0,32,112,240,511] (tks 0 3 (.ld 3 (tks 4 4 (.ld 8 (.big 9 .done))))) Zq (by kernel_rfl) ?_
 refine Zm 2 rfl (tk rfl (PE.indexAddr Z3R rfl rfl (by omega) (by omega)) rfl (ld rfl rfl (lf0 (x:=.int .i64 y) sc3 (by simp [irows];exact ⟨y,hy,rfl⟩) rfl) rfl (Zm 2 rfl (tk rfl (PE.sub rfl rfl (by omega)) rfl (tk rfl (PE.indexAddr Z3R rfl rfl (by omega) (by omega)) rfl (ld rfl rfl (lf0 (x:=.int .i64 x) sc3 (by rw [show (((k+1:Nat):Int)-1).toNat=k from by omega];simp [irows];exact ⟨x,hx,rfl⟩) rfl) rfl ?_))))))
 refine clV rfl Zdv rfl rfl (Zfi y x _ _) ?_
 refine bgT ?_
 refine Z2 rfl ?_ ?_<;>intro hc1<;>try simp only [cS] at hc1
 have hbn:=Za3 hx hy hc1
 refine sqt 1 rfl (pur 1 rfl (Z5 ?_))
 exact rtA rfl rfl rfl ⟨by simp only [Z08];rw [hbn],rfl,rfl⟩ drp
 refine Z3 (sqr 3 rfl (pur 1 rfl (sp rfl (PE.sub rfl rfl (by omega)) rfl (pur 1 rfl ?_))))
 refine Z0e ⟨k+1,by omega,fun i h1 h2=>?_⟩ (by dsimp only;omega) (by dsimp only;rw [show ((k+1:Nat):Int)-1=((k+1:Nat):Int)-1 from rfl];exact sbA) idH
 rcases Nat.lt_or_ge k i with h3 | h3
 · exact hn i (by omega) h2
 · obtain rfl:i=k:=by omega
   unfold ZaS
   rw [hx,hy]
   simp only [decide_eq_false_iff_not]
   omega
 have hbn:=Zhm (l:=xs) (fun i hi=>hn i (by omega) hi)
 refine Z8 (Za (Za (Zn (sqt 1 rfl (pur 1 rfl (Z5 ?_))))))
 exact rtA rfl rfl rfl ⟨by simp only [Z08];rw [hbn],rfl,rfl⟩ drp
theorem Z5q (xs:List Int) (n:Nat) (hn:xs.length=n) (a:Option Addr) (c g:Nat) (fst cap:List Value) (p:Int→Bool) (hg:cal Tryz.prog g=true) (hl:xs.length≤9223372036854775807) (H:Z7) (R:Z4) [hR:MemRows a 1 (irows xs) R] (hp:∀ b x,x∈xs→FnV Tryz.prog g (fst++[.int .i64 x]++cap) ((b,cel 131 [.func (.func g) fst.toArray cap.toArray])::H) R (.bool (p x))) :
 FnV Tryz.prog 114 [.slice a n c,.func (.func g) fst.toArray cap.toArray] H R (.bool (xs.all p)):=by subst hn;exact Z07 xs a c g fst cap p hg hl H R hp
theorem Z6d (xs:List Int) (n:Nat) (hn:xs.length=n) (a:Option Addr) (c:Nat) (hl:xs.length≤9223372036854775807) (H:Z7) (R:Z4) [hR:MemRows a 1 (irows xs) R]:FnV Tryz.prog 15 [.slice a n c] H R (.bool (srt xs)):=by subst hn;exact Z7K xs a c hl H R
theorem Z0M (b:Barn) (ab:Option Addr) (cb:Nat) (hl:b.bins.length≤9223372036854775807) (hr:b.rise.length=6) (H:Z7) (R:Z4) [hB:MemRows ab 4 (Zt b.bins) R] :
    FnV Tryz.prog 79 [b.v (b.sl ab cb)] H R (.int .i64 b.check):=by
 refine Z9 Tryz.func79 rfl Tryz.ntmps79 rfl ?_
 refine sqt 2 rfl (bx rfl rfl rfl (fun b1=>?_))
 refine Sy.heap (fun w h=>St.barn (b:=b) (sl:=b.sl ab cb) hr (h.pull b1)) ?_
 refine pur 1 rfl (Z0 (Z1 (sqt 6 rfl (sp rfl (PE.fA ZX rfl) rfl (spL rfl rfl (lfB (sz:=9) Z31 rfl) rfl (sp rfl (PE.lenSl Z1E rfl) rfl ?_))))))
 refine clV rfl Z3g rfl rfl (Z6l _ _ _ _ _) ?_
 refine pur 2 rfl ?_
 refine Z2 rfl ?_ ?_<;>intro hc0
 refine sqt 1 rfl (pur 1 rfl (Z5 ?_))
 exact rtA rfl rfl rfl ⟨congrArg (Value.int .i64) (by simp_all only [Z08,Barn.check,cond_true,cond_false,Bool.not_true,Bool.not_false,Bool.not_eq_true',Bool.not_eq_false',Bool.true_or,Bool.or_true,Bool.false_or,Bool.or_false]),rfl,rfl⟩ drp
 refine sqt 11 rfl (sp rfl (PE.fA Zcw rfl) rfl (spL rfl rfl (lfB (sz:=9) sc3 rfl) rfl ?_))
 refine clV rfl Z3g rfl rfl (Z6l _ _ _ _ _) ?_
 refine pur 2 rfl ?_
 refine Zv 14 rfl ?_ ?_<;>intro g14
 refine pur 6 rfl ?_
 refine Z00 rfl ?_
 refine sqt 1 rfl (pur 1 rfl (Z5 ?_))
 exact rtA rfl rfl rfl ⟨congrArg (Value.int .i64) (by simp_all only [Z08,Barn.check,cond_true,cond_false,Bool.not_true,Bool.not_false,Bool.not_eq_true',Bool.not_eq_false',Bool.true_or,Bool.or_true,Bool.false_or,Bool.or_false]),rfl,rfl⟩ drp
 refine spG rfl rfl rfl rfl (PE.fA Zcx rfl) rfl ?_
 refine Z1b rfl rfl rfl rfl rfl (lfB (sz:=9) sc3 rfl) rfl ?_
 refine Z4A rfl rfl rfl rfl Z3g rfl rfl (Z6l _ _ _ _ _) ?_
 refine pur 3 rfl ?_
 refine Z2 rfl ?_ ?_<;>intro hc1
 refine sqt 1 rfl (pur 1 rfl (Z5 ?_))
 exact rtA rfl rfl rfl ⟨congrArg (Value.int .i64) (by simp_all only [Z08,Barn.check,cond_true,cond_false,Bool.not_true,Bool.not_false,Bool.not_eq_true',Bool.not_eq_false',Bool.true_or,Bool.or_true,Bool.false_or,Bool.or_false]),rfl,rfl⟩ drp
 refine sqt 5 rfl (sp rfl (PE.fA Z49 rfl) rfl (sp rfl (PE.slArr ZeN rfl) rfl ?_))
 refine clV rfl Zfs rfl rfl (Z5q b.rise 6 hr (some ⟨b1,2,none⟩) 6 115 [] [] Z1I Zft (by omega) _ _ (fun _ x _=>Z5n x _ _)) ?_
 refine pur 2 rfl ?_
 refine Z2 rfl ?_ ?_<;>intro hc2
 refine sqt 1 rfl (pur 1 rfl (Z5 ?_))
 exact rtA rfl rfl rfl ⟨congrArg (Value.int .i64) (by simp_all only [Z08,Barn.check,cond_true,cond_false,Bool.not_true,Bool.not_false,Bool.not_eq_true',Bool.not_eq_false',Bool.true_or,Bool.or_true,Bool.false_or,Bool.or_false]),rfl,rfl⟩ drp
 refine sqt 5 rfl (sp rfl (PE.fA ZX rfl) rfl (spL rfl rfl (lfB (sz:=9) Z31 rfl) rfl ?_))
 refine clV rfl Zcd rfl rfl (Z0h b.bins ab cb 117 [] [] HBin.ok Zfu hl _ _ (fun _ _ x _=>Z5o x _ _)) ?_
 refine pur 2 rfl ?_
 refine Z2 rfl ?_ ?_<;>intro hc3
 refine sqt 1 rfl (pur 1 rfl (Z5 ?_))
 exact rtA rfl rfl rfl ⟨congrArg (Value.int .i64) (by simp_all only [Z08,Barn.check,cond_true,cond_false,Bool.not_true,Bool.not_false,Bool.not_eq_true',Bool.not_eq_false',Bool.true_or,Bool.or_true,Bool.false_or,Bool.or_false]),rfl,rfl⟩ drp
 refine sqt 11 rfl (sp rfl (PE.fA Z49 rfl) rfl (sp rfl (PE.slArr ZeN rfl) rfl ?_))
 refine clV rfl Zds rfl rfl (Z6d b.rise 6 hr (some ⟨b1,2,none⟩) 6 (by omega) _ _) ?_
 refine pur 2 rfl ?_
 refine Zv 35 rfl ?_ ?_<;>intro g35
 refine pur 6 rfl ?_
 refine Z00 rfl ?_
 refine sqt 1 rfl (pur 1 rfl (Z5 ?_))
 exact rtA rfl rfl rfl ⟨congrArg (Value.int .i64) (by simp_all only [Z08,Barn.check,cond_true,cond_false,Bool.not_true,Bool.not_false,Bool.not_eq_true',Bool.not_eq_false',Bool.true_or,Bool.or_true,Bool.false_or,Bool.or_false]),rfl,rfl⟩ drp
 refine spG rfl rfl rfl rfl (PE.fA ZX rfl) rfl ?_
 refine Z1b rfl rfl rfl rfl rfl (lfB (sz:=9) Z31 rfl) rfl ?_
 refine Z4A rfl rfl rfl rfl Zcd rfl rfl (Z0h b.bins ab cb 119 [] [] (fun x=>decide (x.lo≤x.hi)) Zfv hl _ _ (fun _ _ x _=>Z8H x _ _)) ?_
 refine pur 3 rfl ?_
 refine Z2 rfl ?_ ?_<;>intro hc4
 refine sqt 1 rfl (pur 1 rfl (Z5 ?_))
 exact rtA rfl rfl rfl ⟨congrArg (Value.int .i64) (by simp_all only [Z08,Barn.check,cond_true,cond_false,Bool.not_true,Bool.not_false,Bool.not_eq_true',Bool.not_eq_false',Bool.true_or,Bool.or_true,Bool.false_or,Bool.or_false]),rfl,rfl⟩ drp
 refine Z3 (sqt 1 rfl (pur 1 rfl (Z5 ?_)))
 exact rtA rfl rfl rfl ⟨congrArg (Value.int .i64) (by simp_all only [Z08,Barn.check,cond_true,cond_false,Bool.not_true,Bool.not_false,Bool.not_eq_true',Bool.not_eq_false',Bool.true_or,Bool.or_true,Bool.false_or,Bool.or_false]),rfl,rfl⟩ drp
theorem Z3U:Z1g Tryz.prog 26=some 9:=by kernel_rfl
theorem Zcg:cal Tryz.prog 124=true:=by kernel_rfl
theorem ZhA {l:List Int} {k:Nat} (h:k<l.length):na l k∈l:=by
 unfold na;rw [List.getD_eq_getElem?_getD,List.getElem?_eq_getElem h];exact List.getElem_mem h
theorem na_get {l:List Int} {k:Nat} (h:k<l.length):l[k]?=some (na l k):=by
 unfold na;rw [List.getD_eq_getElem?_getD,List.getElem?_eq_getElem h];rfl
theorem Barn.worst_range {b:Barn} (hb:b.ok) {x:HBin} (hx:x∈b.bins):b.worst x=0∨(6≤b.worst x∧b.worst x≤20):=by
 have h1:=(hb.bins x hx).2.2.2
 exact hb.rise _ (ZhA (by rw [hb.len];omega))
theorem Barn.days_range {b:Barn} (hb:b.ok) {x:HBin} (hx:x∈b.bins) {w:Int} (hw:0≤w):b.days x w=1000000∨(0≤b.days x w∧b.days x w≤10):=by
 have h1:=b.worst_range hb hx
 have h2:=(hb.bins x hx).1
 unfold Barn.days Z09
 by_cases h0:b.worst x=0
 · rw [h0];exact .inl rfl
 · rw [decide_eq_false h0,cond_false]
   by_cases h3:x.mark<w
   · rw [decide_eq_true h3,cond_true];exact .inr (by omega)
   · rw [decide_eq_false h3,cond_false]
     refine .inr ⟨Int.ediv_nonneg (by omega) (by omega),?_⟩
     have:(x.mark-w) / b.worst x<11:=Int.ediv_lt_of_lt_mul (by omega) (by omega)
     omega
theorem Z6L {l:List Int} (h:l.length≤4):(pad l).length=4:=by simp [pad];omega
theorem Ze6 {l:List Int} {k:Nat} (h:k<l.length):(pad l)[k]?=l[k]?:=by unfold pad;rw [List.getElem?_append_left h]
theorem Z7t {l:List Int} {k:Nat} (h:l.length≤k) (h4:k<4):(pad l)[k]?=some 0:=by
 unfold pad
 rw [List.getElem?_append_right h,List.getElem?_replicate,if_pos (by omega)]
theorem Z2X (y:List Int) (i:Nat) (x:Int):Zj (y.set i x)=(Zj y).set i (.int .i64 x):=by simp [Zj,List.map_set]
theorem Z0P {l:List Value} {k:Nat} {v:Value} (h:k<l.length):spl l k [v]=l.set k v:=by
 simp only [spl,List.length_singleton,List.append_assoc,List.singleton_append]
 rw [List.set_eq_take_append_cons_drop,if_pos h]
theorem Ze7 {l:List Int} (h:l.length<4) (v:Int):spl (Zj (pad l)) (0+l.length*1) [.int .i64 v]=Zj (pad (l++[v])):=by
 rw [show 0+l.length*1=l.length by omega,Z0P (by rw [Z6,Z6L (by omega)];exact h),← Z2X]
 unfold pad
 have e:(4-l.length)=(4-(l.length+1))+1:=by omega
 rw [e,List.replicate_succ,List.set_append_right _ _ (Nat.le_refl _),Nat.sub_self,List.set_cons_zero,List.length_append,List.length_singleton,List.append_assoc]
 rfl
def stv (s:HSt):Value:=.agg (Zj s).toArray
def dcs (b:Barn) (sl:Value) (lasts most:List Int) (m:Nat):List Value:=btl b sl++(Zj lasts++(Zj most++[.map (some m)]))
theorem Z4D {b:Barn} {sl:Value} {y z:List Int} {m:Nat} (hy:y.length=4) (hz:z.length=4):(dcs b sl y z m).length=18:=by simp [dcs,btl,hy,hz]
theorem Z5z {b:Barn} {sl:Value} {y z:List Int} {m k i:Nat} (hy:y.length=4) (hk:k<4) (e:i=9+k):(dcs b sl y z m)[i]?=some (.int .i64 (na y k)):=by
 subst e
 show (([_,_,_,_,_,_,_,_,_]++(Zj y++(Zj z++[.map (some m)])):List Value))[9+k]?=_
 rw [List.getElem?_append_right (by simp)]
 simp only [List.length_cons,List.length_nil,Nat.zero_add,Nat.add_sub_cancel_left]
 rw [List.getElem?_append_left (by rw [Z6];omega)]
 exact Z0x (na_get (by omega))
theorem Z4E {b:Barn} {sl:Value} {y z:List Int} {m k i:Nat} (hy:y.length=4) (hz:z.length=4) (hk:k<4) (e:i=13+k):(dcs b sl y z m)[i]?=some (.int .i64 (na z k)):=by
 subst e
 show (([_,_,_,_,_,_,_,_,_]++(Zj y++(Zj z++[.map (some m)])):List Value))[13+k]?=_
 rw [List.getElem?_append_right (by simp;omega)]
 simp only [List.length_cons,List.length_nil,Nat.zero_add]
 rw [List.getElem?_append_right (by rw [Z6];omega),Z6,hy,show 13+k-9-4=k by omega,List.getElem?_append_left (by rw [Z6];omega)]
 exact Z0x (na_get (by omega))
theorem Z3m {b:Barn} {sl:Value} {y z:List Int} {m:Nat} (hy:y.length=4) (hz:z.length=4):(dcs b sl y z m)[17]?=some (.map (some m)):=by
 show (([_,_,_,_,_,_,_,_,_]++(Zj y++(Zj z++[.map (some m)])):List Value))[17]?=_
 rw [List.getElem?_append_right (by simp)]
 simp only [List.length_cons,List.length_nil,Nat.zero_add]
 rw [List.getElem?_append_right (by rw [Z6];omega),Z6,hy,List.getElem?_append_right (by rw [Z6];omega),Z6,hz]
 rfl
theorem Zbc {b:Barn} {sl:Value} {y z:List Int} {m k i:Nat} (v:Int) (hy:y.length=4) (hz:z.length=4) (hk:k<4) (e:i=9+k):spl (dcs b sl y z m) i [.int .i64 v]=dcs b sl (y.set k v) z m:=by
 subst e
 rw [Z0P (by rw [Z4D hy hz];omega)]
 show (([_,_,_,_,_,_,_,_,_]++(Zj y++(Zj z++[.map (some m)])):List Value)).set (9+k) _=[_,_,_,_,_,_,_,_,_]++(Zj (y.set k v)++(Zj z++[.map (some m)]))
 rw [List.set_append_right _ _ (by simp)]
 simp only [List.length_cons,List.length_nil,Nat.zero_add,Nat.add_sub_cancel_left]
 rw [List.set_append_left _ _ (by rw [Z6];omega),Z2X]
theorem Zbd {b:Barn} {sl:Value} {y z:List Int} {m k i:Nat} (v:Int) (hy:y.length=4) (hz:z.length=4) (hk:k<4) (e:i=13+k):spl (dcs b sl y z m) i [.int .i64 v]=dcs b sl y (z.set k v) m:=by
 subst e
 rw [Z0P (by rw [Z4D hy hz];omega)]
 show (([_,_,_,_,_,_,_,_,_]++(Zj y++(Zj z++[.map (some m)])):List Value)).set (13+k) _=[_,_,_,_,_,_,_,_,_]++(Zj y++(Zj (z.set k v)++[.map (some m)]))
 rw [List.set_append_right _ _ (by simp;omega)]
 simp only [List.length_cons,List.length_nil,Nat.zero_add]
 rw [List.set_append_right _ _ (by rw [Z6];omega),Z6,hy,show 13+k-9-4=k by omega,List.set_append_left _ _ (by rw [Z6];omega),Z2X]
theorem Z7B {α:Type} {l l':List α} {k:Nat} {v:α} (hl:l.length=l'.length) (h:l'[k]?=some v):(l'.take k++l.drop k).set k v=l'.take (k+1)++l.drop (k+1):=by
 have hk:k<l'.length:=(List.getElem?_eq_some_iff.1 h).1
 rw [List.set_append_right _ _ (by rw [List.length_take];omega),List.length_take,show k-min k l'.length=0 by omega,List.take_add_one,h,show l.drop k=l[k]'(by omega)::l.drop (k+1) from List.drop_eq_getElem_cons (by omega),List.set_cons_zero,List.append_assoc]
 rfl
theorem Z9g (b:Barn) (ab:Option Addr) (cb:Nat) (k:Nat) (x:HBin) (hx:b.bins[k]?=some x) (hh:0≤x.hi∧x.hi≤5) (H:Z7) (R:Z4) [hB:MemRows ab 4 (Zt b.bins) R] :
    FnV Tryz.prog 124 [b.v (b.sl ab cb),.int .i64 k] H R (.int .i64 (b.worst x)):=by
 have hk:=(List.getElem?_eq_some_iff.1 hx).1
 refine Z9 Tryz.func124 rfl Tryz.ntmps124 rfl ?_
 refine sqt 2 rfl (bx rfl rfl rfl (fun b2=>pur 1 rfl (sqt 11 rfl (sp rfl (PE.fA ZX rfl) rfl (spL rfl rfl (lh Z31 rfl rfl) rfl (pur 1 rfl ?_))))))
 refine Zl (a:=ab) (sz:=4) (rows:=Zt b.bins) (by intro h0;simp [Zt] at h0;simp [h0] at hx) (fun ba oa he=>?_)
 subst he
 refine sp rfl (PE.indexAddr Zct rfl rfl (by omega) (by omega)) rfl (sp rfl (PE.fA Z2G rfl) rfl (sp rfl (PE.fA Z29 rfl) rfl (spL rfl rfl (lf (j:=3) sc3 (Z47 hx) rfl) rfl (sp rfl (PE.fA Z49 rfl) rfl (sp rfl (PE.indexArr ZeN rfl rfl (by omega) (by omega)) rfl (spL rfl rfl (lh sc3 rfl (by rw [show 0+2+x.hi.toNat*1=2+x.hi.toNat by omega];exact Z76 (by omega))) rfl (pur 1 rfl (Z5 ?_))))))))
 exact rtA rfl rfl rfl ⟨rfl,rfl,rfl⟩ drp
theorem Zc9 (b:Barn) (ab:Option Addr) (cb:Nat) (hok:b.ok) (k:Nat) (x:HBin) (hx:b.bins[k]?=some x) (w:Int) (hw:0≤w∧w≤1000000) (H:Z7) (R:Z4) [hB:MemRows ab 4 (Zt b.bins) R] :
    FnV Tryz.prog 83 [b.v (b.sl ab cb),.int .i64 k,.int .i64 w] H R (.int .i64 (b.days x w)):=by
 have hk:=(List.getElem?_eq_some_iff.1 hx).1
 have hm:=List.mem_of_getElem? hx
 have hh:=(hok.bins x hm).2.2.2
 have hmk:=(hok.bins x hm).1
 have hwr:=b.worst_range hok hm
 refine Z9 Tryz.func83 rfl Tryz.ntmps83 rfl ?_
 refine sqt 2 rfl (bx rfl rfl rfl (fun b3=>pur 1 rfl (Z0 (Z1 (sqt 5 rfl (spL rfl rfl (lhA (btl b (b.sl ab cb)) Z3U rfl rfl rfl) rfl (pur 1 rfl ?_)))))))
 refine clV rfl Zcg rfl rfl (Z9g b ab cb k x hx hh _ _) ?_
 refine pur 2 rfl ?_
 refine Z2 rfl ?_ ?_<;>intro hc0<;>try simp only [cS] at hc0
 refine sqt 1 rfl (pur 1 rfl (Z5 ?_))
 exact rtA rfl rfl rfl ⟨by simp only [Z08,Barn.days,Z09];first | (rw [dT hc0];rfl) | (rw [dF hc0,dT hc1];rfl) | (rw [dF hc0,dF (by omega)];rfl),rfl,rfl⟩ drp
 refine sqt 9 rfl (pur 1 rfl (sp rfl (PE.fA ZX rfl) rfl (spL rfl rfl (lh Z31 rfl rfl) rfl (pur 1 rfl ?_))))
 refine Zl (a:=ab) (sz:=4) (rows:=Zt b.bins) (by intro h0;simp [Zt] at h0;simp [h0] at hx) (fun ba oa he=>?_)
 subst he
 refine sp rfl (PE.indexAddr Zct rfl rfl (by omega) (by omega)) rfl (sp rfl (PE.fA Z3v rfl) rfl (spL rfl rfl (lf sc3 (Z47 hx) rfl) rfl (pur 2 rfl ?_)))
 refine Z2 rfl ?_ ?_<;>intro hc1<;>try simp only [cS] at hc1
 refine sqt 1 rfl (pur 1 rfl (Z5 ?_))
 exact rtA rfl rfl rfl ⟨by simp only [Z08,Barn.days,Z09];first | (rw [dT hc0];rfl) | (rw [dF hc0,dT hc1];rfl) | (rw [dF hc0,dF (by omega)];rfl),rfl,rfl⟩ drp
 refine Z3 (Z0 ?_)
 refine Zd [0,1,0,7,15,31,0,127,0,0,768,2047,4095] (.tk 0 (.ld 1 (tks 2 3 (.ld 5 (.tk 6 (.tk 7 (.ld 8 (.tk 9 (.big 10 (.tk 11 (.tk 12 .done))))))))))) Zq (by kernel_rfl) ?_
 refine tk rfl (PE.fA ZX rfl) rfl (ld rfl rfl (lh Z31 rfl rfl) rfl (Zm 1 rfl (tk rfl (PE.indexAddr Zct rfl rfl (by omega) (by omega)) rfl (tk rfl (PE.fA Z3v rfl) rfl (ld rfl rfl (lf sc3 (Z47 hx) rfl) rfl (Zm 1 rfl (tk rfl (PE.sub rfl rfl (by omega)) rfl (ld rfl rfl (lhA (btl b (b.sl (some ⟨ba,oa,none⟩) cb)) Z3U rfl rfl rfl) rfl (Zm 1 rfl ?_)))))))))
 refine clV rfl Zcg rfl rfl (Z9g b (some ⟨ba,oa,none⟩) cb k x hx hh _ _) ?_
 refine bg (fun w hs=>⟨trivial,(lf sc3 (Z47 hx) rfl) w hs,(lh Z31 rfl rfl) w hs,trivial⟩) ?_
 refine tk rfl (PE.quo rfl rfl (by omega)) rfl (Zm 1 rfl (Z5 ?_))
 exact rtA rfl rfl rfl ⟨by simp only [Z08,Barn.days,Z09];first | (rw [dT hc0];rfl) | (rw [dF hc0,dT hc1];rfl) | (rw [dF hc0,dF (by omega)];rfl),rfl,rfl⟩ drp
theorem Z1e:Z1g Tryz.prog 107=some 4:=by kernel_rfl
theorem Z0u:arN Tryz.prog 107=some (4,1):=by kernel_rfl
theorem Zcf:cal Tryz.prog 120=true:=by kernel_rfl
theorem Zdu:cal Tryz.prog 41=true:=by kernel_rfl
theorem Zj2:cal Tryz.prog 79=true:=by kernel_rfl
theorem Zj3:cal Tryz.prog 80=true:=by kernel_rfl
theorem ZgM:cal Tryz.prog 83=true:=by kernel_rfl
theorem Z3k:ZB Tryz.prog 107=some 4:=by kernel_rfl
theorem cn3:ZB Tryz.prog 3=some 1:=by kernel_rfl
theorem Zib:ZB Tryz.prog 36=some 4:=by kernel_rfl
theorem Z12:ZT Tryz.prog 110 0=some 0:=by kernel_rfl
theorem Z6r:ZT Tryz.prog 110 1=some 9:=by kernel_rfl
theorem Z4I:ZT Tryz.prog 110 2=some 13:=by kernel_rfl
theorem ZhE:ZL Tryz.prog 110=some [(0,9),(9,4),(13,4),(17,1)]:=by kernel_rfl
theorem Z6a:slE Tryz.prog 30=some (3,1):=by kernel_rfl
theorem Z2m:Zw Tryz.prog 107=some ([.int .i64 0,.int .i64 0,.int .i64 0,.int .i64 0]):=by kernel_rfl
theorem Zi4:Zw Tryz.prog 110=some ([.int .i64 0,.int .i64 0,.int .i64 0,.int .i64 0,.int .i64 0,.int .i64 0,.int .i64 0,.int .i64 0,.slice none 0 0,.int .i64 0,.int .i64 0,.int .i64 0,.int .i64 0,.int .i64 0,.int .i64 0,.int .i64 0,.int .i64 0,.map none]):=by kernel_rfl
theorem zl3:Zw Tryz.prog 3=some ([.int .i64 0]):=by kernel_rfl
theorem ZeJ:Zw Tryz.prog 36=some ([.int .i64 0,.int .i64 0,.int .i64 0,.int .i64 0]):=by kernel_rfl
theorem Barn.map_get {b:Barn} (hok:b.ok) (f:HBin→Int) {k:Nat} {x:HBin} (hx:b.bins[k]?=some x):(pad (b.bins.map f))[k]?=some (f x):=by
 have hk:=(List.getElem?_eq_some_iff.1 hx).1
 rw [Ze6 (by simpa using hk),List.getElem?_map,hx];rfl
theorem Barn.map_sml {b:Barn} (hok:b.ok) {f:HBin→Int} (hf:∀ x∈b.bins,0≤f x∧f x≤1000000):Sml (pad (b.bins.map f)) where
 len:=Z6L (by rw [List.length_map];exact hok.many.2)
 at_ k hk:=by
   unfold na
   rw [List.getD_eq_getElem?_getD]
   rcases Nat.lt_or_ge k b.bins.length with h | h
   · obtain ⟨x,hx⟩:∃ x,b.bins[k]?=some x:=⟨_,List.getElem?_eq_getElem h⟩
     rw [b.map_get hok f hx];exact hf x (List.mem_of_getElem? hx)
   · rw [Z7t (by simpa using h) hk];exact ⟨by decide,by decide⟩
theorem Barn.days_sml {b:Barn} (hb:b.ok) {x:HBin} (hx:x∈b.bins) {w:Int} (hw:0≤w):0≤b.days x w∧b.days x w≤1000000:=by
 have:=b.days_range hb hx hw;omega
theorem Barn.state_sml {b:Barn} (hb:b.ok):Sml b.state:=b.map_sml hb fun x hx=>b.days_sml hb hx (hb.bins x hx).2.1.1
theorem Barn.lasts_sml {b:Barn} (hb:b.ok):Sml b.lasts:=b.map_sml hb fun x hx=>b.days_sml hb hx hb.cool.1
theorem Barn.most_sml {b:Barn} (hb:b.ok):Sml b.most:=b.map_sml hb fun x hx=>by
 have h1:=b.days_sml hb hx (hb.bins x hx).2.1.1
 have h2:=b.days_sml hb hx hb.cool.1
 omega
theorem Z6F {m:List Int} (h:m.length=4):∃ a b c d,m=[a,b,c,d]:=by
 match m,h with
 | [a,b,c,d],_=>exact ⟨a,b,c,d,rfl⟩
theorem Z1f {l:List Int} {k:Nat} {v:Int} (h:l[k]?=some v):na l k=v:=by unfold na;rw [List.getD_eq_getElem?_getD,h];rfl
theorem Zay {l l':List Int} {k:Nat} (hl:l.length=l'.length) (hk:k≤l.length):(l'.take k++l.drop k).length=l.length:=by simp;omega
theorem ZjW {l l':List Int} {k:Nat} {v:Int} (hl:l.length=l'.length) (h:l[k]?=some v):(l'.take k++l.drop k)[k]?=some v:=by
 have hk:=(List.getElem?_eq_some_iff.1 h).1
 rw [List.getElem?_append_right (by rw [List.length_take];omega),List.length_take,show k-min k l'.length=0 by omega,List.getElem?_drop]
 simpa using h
theorem ZhZ {l l':List Int} {k:Nat} {v:Int} (hl:l.length=l'.length) (h:l'[k]?=some v):(l'.take (k+1)++l.drop (k+1))[k]?=some v:=by
 have hk:=(List.getElem?_eq_some_iff.1 h).1
 rw [List.getElem?_append_left (by rw [List.length_take];omega),List.getElem?_take,if_pos (by omega)];exact h
theorem Zax {l l':List Int} {n:Nat} (h:l.length=n) (h':l'.length=n):(pad l').take n++(pad l).drop n=pad l':=by
 unfold pad
 rw [List.take_append_of_le_length (by omega),List.take_of_length_le (by omega),List.drop_append,List.drop_of_length_le (by omega),h,h',Nat.sub_self]
 rfl
def nxv:Option HSt→Value
 | none=>.tuple #[stv [0,0,0,0],.bool false]
 | some t=>.tuple #[stv t,.bool true]
abbrev il (l:List Nat):List Int:=l.map fun (n:Nat)=>(n:Int)
theorem Z4i {s:List Int} {k i:Nat} {v:Int} (hs:s.length=4) (hk:k<4) (e:i=k):spl (Zj s) i [.int .i64 v]=Zj (s.set k v):=by
 subst e;rw [Z0P (by rw [Z6];omega),Z2X]
theorem Z56 {s:List Int} {k i:Nat} (hs:s.length=4) (hk:k<4) (e:i=k):(Zj s)[i]?=some (.int .i64 (na s k)):=by
 subst e;exact Z0x (na_get (by omega))
theorem Z6m (b:Barn) (ab:Option Addr) (cb:Nat) (hok:b.ok) (H:Z7) (R:Z4) [hB:MemRows ab 4 (Zt b.bins) R] :
    FnV Tryz.prog 41 [b.v (b.sl ab cb)] H R (stv b.state):=by
 refine Z9 Tryz.func41 rfl Tryz.ntmps41 rfl ?_
 refine sqt 2 rfl (bx rfl rfl rfl (fun b1=>alc rfl Z2m rfl (fun b2=>sqt 1 rfl (alc rfl Z2m rfl (fun b3=>Z0 (sqt 4 rfl (sp rfl (PE.fA ZX rfl) rfl (spL rfl rfl (lh Z31 rfl rfl) rfl (sp rfl (PE.lenSl Z1E rfl) rfl (pur 1 rfl (Z1 ?_)))))))))))
 refine Zc (ι:={k:Nat // k≤b.bins.length}) (fun k=>⟨[(1,.pointer (some ⟨b1,0,none⟩)),(2,.pointer (some ⟨b2,0,none⟩)),(3,.pointer (some ⟨b3,0,none⟩)),(7,b.sl ab cb),(8,.int .i64 b.bins.length),(9,.int .i64 k.1)],(b3,cel 107 (Zj (pad ((b.bins.take k.1).map fun x=>b.days x x.warm))))::(b2,cel 107 [.int .i64 0,.int .i64 0,.int .i64 0,.int .i64 0])::(b1,cel 26 (btl b (b.sl ab cb)))::H,R⟩) (fun k=>b.bins.length-k.1) ⟨0,by omega⟩ ?_ (fun k=>?_)
 exact Zf idH
 obtain ⟨k,hk⟩:=k
 dsimp only at hk ⊢
 have hmn:=hok.many
 refine sqt 1 rfl (pur 1 rfl (Z0 ?_))
 refine Z2 rfl ?_ ?_<;>intro hc0<;>try simp only [cS] at hc0
 obtain ⟨x,hx⟩:∃ x,b.bins[k]?=some x:=⟨_,List.getElem?_eq_getElem (by omega)⟩
 have hm:=List.mem_of_getElem? hx
 have hwm:=(hok.bins x hm).2.1
 have hmk:=(hok.bins x hm).1
 have hll:((b.bins.take k).map fun x=>b.days x x.warm).length=k:=by simp;omega
 refine Zl (a:=ab) (sz:=4) (rows:=Zt b.bins) (by intro h0;simp [Zt] at h0;simp [h0] at hx) (fun ba oa he=>?_)
 subst he
 refine Z3 (Z0 (Z1 (sqt 6 rfl (pur 1 rfl (sp rfl (PE.indexAddr Zct rfl rfl (by omega) (by omega)) rfl (spL rfl rfl (lfA ZeM (row:=Z3W x) (Z47 hx) rfl) rfl (alc rfl ZeJ rfl (fun b5=>pur 1 rfl ?_))))))))
 refine sto rfl rfl rfl Zib rfl rfl rfl rfl ?_
 refine sqr 8 rfl (pur 1 rfl (spL rfl rfl (lhA (btl b (b.sl (some ⟨ba,oa,none⟩) cb)) Z3U rfl rfl rfl) rfl (pur 1 rfl (sp rfl (PE.fA Z5E rfl) rfl (spL rfl rfl (lh sc3 rfl rfl) rfl ?_)))))
 refine clV rfl ZgM rfl rfl (Zc9 b (some ⟨ba,oa,none⟩) cb hok k x hx x.warm (by omega) _ _) ?_
 refine sp rfl (PE.indexArr Z0u rfl rfl (by omega) (by omega)) rfl ?_
 refine Z03 (l':=Zj (pad ((b.bins.take (k+1)).map fun x=>b.days x x.warm))) rfl rfl rfl cn3 rfl rfl rfl (by rw [List.take_add_one,hx,Option.toList_some,List.map_append];have:=Ze7 (l:=(b.bins.take k).map fun x=>b.days x x.warm) (by omega) (b.days x x.warm);rw [hll] at this;exact this) (by rw [Z6,Z6L (by omega)];show 0+((k:Nat):Int).toNat*1+1≤4;omega) ?_
 refine sqr 2 rfl (sp rfl (PE.add rfl rfl (by omega)) rfl (pur 1 rfl ?_))
 exact Zb ⟨k+1,by omega⟩ (fun w h=>h.del b5)
 obtain rfl:k=b.bins.length:=by omega
 rw [List.take_length]
 have hsl:=(b.state_sml hok).len
 refine Z8 (Za (Za (Zn (sqt 2 rfl (spL rfl rfl (lhI b.state Z1e rfl rfl (hsl)) rfl ?_)))))
 refine ZbQ rfl rfl rfl Z3k rfl (by rw [Z6];exact hsl) rfl (Z06 _) ?_
 refine Z5 ?_
 exact Zk (vs:=[_]) rfl (.cons (RV.cell rfl (lhI b.state Z1e rfl rfl (hsl))) .nil) rfl ⟨rfl,rfl,rfl⟩ drp
theorem Z4x (b:Barn) (ab:Option Addr) (cb:Nat) (hok:b.ok) (H:Z7) (R:Z4) [hB:MemRows ab 4 (Zt b.bins) R] :
    Fn Tryz.prog 80 [b.v (b.sl ab cb)] H R (fun v H' R'=>∃ bd m,v = .pointer (some ⟨bd,0,none⟩)∧H'=(m,ZQ true [])::H∧R'=RowsA (some ⟨bd,0,none⟩) 18 [dcs b (b.sl ab cb) b.lasts b.most m]::R):=by
 refine Z9 Tryz.func80 rfl Tryz.ntmps80 rfl ?_
 refine sqt 2 rfl (bx rfl rfl rfl (fun b1=>pur 1 rfl (Z0 ?_)))
 refine Z2j (ι:=Nat×Nat) (fun x=>⟨[(1,.pointer (some ⟨b1,0,none⟩)),(3,.pointer (some ⟨x.1,0,none⟩))],(x.1,cel 110 (dcs b (b.sl ab cb) [0,0,0,0] b.state x.2))::(x.2,ZQ true [])::(b1,cel 26 (btl b (b.sl ab cb)))::H,R⟩) ?_ ?_
 refine Zd [0,0,2,0,15,31,63] (.ld 0 (.ld 1 (.any (.alt 2 (.big 3 (.tk 4 (.big 5 (.tk 6 .done)))) (.alt 3 (.big 2 (.tk 4 (.big 5 (.tk 6 .done)))) .stop))))) Zq (by kernel_rfl) ?_
 refine ld rfl rfl (lhA (btl b (b.sl ab cb)) Z3U rfl rfl rfl) rfl (ld rfl rfl (lhA (btl b (b.sl ab cb)) Z3U rfl rfl rfl) rfl ?_)
 refine Zs ?_ ?_
 refine clV rfl Zdu rfl rfl (Z6m b ab cb hok _ _) ?_
 refine bg (fun w hs=>⟨trivial,(lhA (btl b (b.sl ab cb)) Z3U rfl rfl rfl) w hs,trivial⟩) ?_
 refine mkm rfl rfl true (fun m=>?_)
 refine bg (fun w hs=>⟨(lhA (btl b (b.sl ab cb)) Z3U rfl rfl rfl) w hs,trivial⟩) ?_
 obtain ⟨s0,s1,s2,s3,hs4⟩:=Z6F (b.state_sml hok).len
 rw [show stv b.state = .agg #[.int .i64 s0,.int .i64 s1,.int .i64 s2,.int .i64 s3] by rw [hs4];rfl]
 refine tk rfl (PE.build (out:=dcs b (b.sl ab cb) [0,0,0,0] [s0,s1,s2,s3] m) ZhE Zi4 rfl rfl) rfl (bx rfl rfl rfl (fun b10=>bgT ?_))
 rw [← hs4]
 refine Zm 1 rfl ?_
 exact Zh (b10,m) idH
 refine Zs ?_ ?_
 refine mkm rfl rfl true (fun m=>?_)
 refine bg (fun w hs=>⟨(lhA (btl b (b.sl ab cb)) Z3U rfl rfl rfl) w hs,(lhA (btl b (b.sl ab cb)) Z3U rfl rfl rfl) w hs,trivial⟩) ?_
 refine clV rfl Zdu rfl rfl (Z6m b ab cb hok _ _) ?_
 refine bg (fun w hs=>⟨trivial,(lhA (btl b (b.sl ab cb)) Z3U rfl rfl rfl) w hs,trivial⟩) ?_
 obtain ⟨s0,s1,s2,s3,hs4⟩:=Z6F (b.state_sml hok).len
 rw [show stv b.state = .agg #[.int .i64 s0,.int .i64 s1,.int .i64 s2,.int .i64 s3] by rw [hs4];rfl]
 refine tk rfl (PE.build (out:=dcs b (b.sl ab cb) [0,0,0,0] [s0,s1,s2,s3] m) ZhE Zi4 rfl rfl) rfl (bx rfl rfl rfl (fun b10=>bgT ?_))
 rw [← hs4]
 refine Zm 1 rfl ?_
 exact Zh (b10,m) idH
 exact ZO
 rintro ⟨b10,m⟩
 dsimp only
 refine Z0 (sqt 4 rfl (sp rfl (PE.fA ZX rfl) rfl (spL rfl rfl (lh Z31 rfl rfl) rfl (sp rfl (PE.lenSl Z1E rfl) rfl (pur 1 rfl (Z1 ?_))))))
 have hmn:=hok.many
 have hl4:=(b.lasts_sml hok).len
 have hm4:=(b.most_sml hok).len
 have hs4:=(b.state_sml hok).len
 refine Zc (ι:={k:Nat // k≤b.bins.length}) (fun k=>⟨[(1,.pointer (some ⟨b1,0,none⟩)),(3,.pointer (some ⟨b10,0,none⟩)),(13,.int .i64 b.bins.length),(14,.int .i64 k.1)],(b10,cel 110 (dcs b (b.sl ab cb) (b.lasts.take k.1++([0,0,0,0]:List Int).drop k.1) (b.most.take k.1++b.state.drop k.1) m))::(m,ZQ true [])::(b1,cel 26 (btl b (b.sl ab cb)))::H,R⟩) (fun k=>b.bins.length-k.1) ⟨0,by omega⟩ ?_ (fun k=>?_)
 exact Zf idH
 obtain ⟨k,hk⟩:=k
 dsimp only at hk ⊢
 refine sqt 1 rfl (pur 1 rfl (Z0 ?_))
 refine Z2 rfl ?_ ?_<;>intro hc0<;>try simp only [cS] at hc0
 obtain ⟨x,hx⟩:∃ x,b.bins[k]?=some x:=⟨_,List.getElem?_eq_getElem (by omega)⟩
 have hv1:b.lasts[k]?=some (b.days x b.cool):=b.map_get hok _ hx
 have hv2:b.most[k]?=some (max (b.days x x.warm) (b.days x b.cool)):=b.map_get hok _ hx
 have hv0:b.state[k]?=some (b.days x x.warm):=b.map_get hok _ hx
 have hcl:=hok.cool
 have y1:(b.lasts.take k++([0,0,0,0]:List Int).drop k).length=4:=Zay (by rw [hl4];rfl) (by simp;omega)
 have y2:(b.lasts.take (k+1)++([0,0,0,0]:List Int).drop (k+1)).length=4:=Zay (by rw [hl4];rfl) (by simp;omega)
 have z1:(b.most.take k++b.state.drop k).length=4:=by rw [Zay (by rw [hm4,hs4]) (by omega)];exact hs4
 have p1:∀ {i:Nat},i=9+k→spl (dcs b (b.sl ab cb) (b.lasts.take k++([0,0,0,0]:List Int).drop k) (b.most.take k++b.state.drop k) m) i [.int .i64 (b.days x b.cool)]=dcs b (b.sl ab cb) (b.lasts.take (k+1)++([0,0,0,0]:List Int).drop (k+1)) (b.most.take k++b.state.drop k) m:=fun e=>by
   rw [Zbc _ y1 z1 (by omega) e,Z7B (by rw [hl4];rfl) hv1]
 have p2:∀ {i:Nat},i=13+k→spl (dcs b (b.sl ab cb) (b.lasts.take (k+1)++([0,0,0,0]:List Int).drop (k+1)) (b.most.take k++b.state.drop k) m) i [.int .i64 (max (b.days x x.warm) (b.days x b.cool))]=dcs b (b.sl ab cb) (b.lasts.take (k+1)++([0,0,0,0]:List Int).drop (k+1)) (b.most.take (k+1)++b.state.drop (k+1)) m:=fun e=>by
   rw [Zbd _ y2 z1 (by omega) e,Z7B (by rw [hm4,hs4]) hv2]
 have q1:∀ {i:Nat},i=9+k→(dcs b (b.sl ab cb) (b.lasts.take (k+1)++([0,0,0,0]:List Int).drop (k+1)) (b.most.take k++b.state.drop k) m)[i]?=some (.int .i64 (b.days x b.cool)):=fun e=>by
   rw [Z5z y2 (by omega) e,Z1f (ZhZ (by rw [hl4];rfl) hv1)]
 have q2:∀ {i:Nat},i=13+k→(dcs b (b.sl ab cb) (b.lasts.take (k+1)++([0,0,0,0]:List Int).drop (k+1)) (b.most.take k++b.state.drop k) m)[i]?=some (.int .i64 (b.days x x.warm)):=fun e=>by
   rw [Z4E y2 z1 (by omega) e,Z1f (ZjW (by rw [hm4,hs4]) hv0)]
 refine Z3 (Z0 (Z1 (sqt 2 rfl (pur 2 rfl (Z0 ?_)))))
 refine Zd [0,0,0,0,0,16,60,1,129,511,1023] (.tk 0 (.tk 1 (.ld 2 (.tk 3 (.tk 4 (.ld 5 (.tk 7 (.tk 8 (.big 6 (.tk 9 (.big 10 .done))))))))))) Zq (by kernel_rfl) ?_
 refine Zm 2 rfl (ld rfl rfl (lhA (btl b (b.sl ab cb)) Z3U rfl rfl rfl) rfl (Zm 1 rfl (tk rfl (PE.fA Zcw rfl) rfl (ld rfl rfl (lh sc3 rfl rfl) rfl (tk rfl (PE.nilCheck rfl) rfl (tk rfl (PE.fA Z6r rfl) rfl ?_))))))
 refine clV rfl ZgM rfl rfl (Zc9 b ab cb hok k x hx b.cool (by omega) _ _) ?_
 refine bgT (tk rfl (PE.indexArr Z0u rfl rfl (by omega) (by omega)) rfl ?_)
 refine Z03 (l':=dcs b (b.sl ab cb) (b.lasts.take (k+1)++([0,0,0,0]:List Int).drop (k+1)) (b.most.take k++b.state.drop k) m) rfl rfl rfl cn3 rfl rfl rfl (p1 (by show 0+9+((k:Nat):Int).toNat*1=_;omega)) (by rw [Z4D y1 z1];show 0+9+((k:Nat):Int).toNat*1+1≤18;omega) ?_
 refine bgT ?_
 refine Zd [0,0,0,0,4,20,60,124,0,0,256,1280,3840,7936,16128,32764,1,65537,262143,524287] (tks 0 7 (.ld 7 (tks 8 5 (.ld 13 (.tk 16 (.tk 17 (.big 14 (.big 15 (.tk 18 (.big 19 .done)))))))))) Zq (by kernel_rfl) ?_
 refine Zm 4 rfl (tk rfl (PE.nilCheck rfl) rfl (tk rfl (PE.fA Z4I rfl) rfl (tk rfl (PE.indexArr Z0u rfl rfl (by omega) (by omega)) rfl (ld rfl rfl (lh sc3 rfl (q2 (by show 0+13+((k:Nat):Int).toNat*1=_;omega))) rfl (Zm 2 rfl (tk rfl (PE.nilCheck rfl) rfl (tk rfl (PE.fA Z6r rfl) rfl (tk rfl (PE.indexArr Z0u rfl rfl (by omega) (by omega)) rfl (ld rfl rfl (lh sc3 rfl (q1 (by show 0+9+((k:Nat):Int).toNat*1=_;omega))) rfl (tk rfl (PE.nilCheck rfl) rfl (tk rfl (PE.fA Z4I rfl) rfl ?_)))))))))))
 refine bsl (out:=[_]) rfl Z6a zl3 rfl rfl rfl rfl rfl rfl (fun b41=>?_)
 refine bg (fun w hs=>⟨trivial,(lh sc3 rfl (q2 (by show 0+13+((k:Nat):Int).toNat*1=_;omega))) w hs,trivial⟩) ?_
 refine Sy.heap (fun w h=>St.intRows (l:=[b.days x b.cool]) (h.pull b41)) ?_
 refine clV rfl Zcf rfl rfl (Z3d (b.days x x.warm) (b.days x b.cool) (some ⟨b41,0,none⟩) 1 _ _) ?_
 refine bgT (tk rfl (PE.indexArr Z0u rfl rfl (by omega) (by omega)) rfl ?_)
 refine Z03 (l':=dcs b (b.sl ab cb) (b.lasts.take (k+1)++([0,0,0,0]:List Int).drop (k+1)) (b.most.take (k+1)++b.state.drop (k+1)) m) rfl rfl rfl cn3 rfl rfl rfl (p2 (by show 0+13+((k:Nat):Int).toNat*1=_;omega)) (by rw [Z4D y2 z1];show 0+13+((k:Nat):Int).toNat*1+1≤18;omega) ?_
 refine bgT (sqr 2 rfl (sp rfl (PE.add rfl rfl (by omega)) rfl (pur 1 rfl ?_)))
 exact Zb ⟨k+1,by omega⟩ (fun w h=>h.ftail)
 obtain rfl:k=b.bins.length:=by omega
 have e1:(b.lasts.take b.bins.length++([0,0,0,0]:List Int).drop b.bins.length)=b.lasts:=by
   have:=Zax (l:=[]) (l':=[]) (n:=0) rfl rfl
   have h1:(pad (b.bins.map fun x=>b.days x b.cool)).take b.bins.length++(pad (b.bins.map fun _=>(0:Int))).drop b.bins.length=pad (b.bins.map fun x=>b.days x b.cool):=Zax (List.length_map _) (List.length_map _)
   have h2:pad (b.bins.map fun _=>(0:Int))=[0,0,0,0]:=by
     have:∀ n,n≤4→pad (List.replicate n (0:Int))=[0,0,0,0]:=by decide
     rw [List.map_const']
     exact this _ (by omega)
   rw [h2] at h1
   exact h1
 have e2:(b.most.take b.bins.length++b.state.drop b.bins.length)=b.most:=Zax (List.length_map _) (List.length_map _)
 rw [e1,e2]
 refine Z8 (Za (Za (Zn (sqt 2 rfl (pur 2 rfl (Z5 ?_))))))
 refine Sy.heap (fun w h=>St.rows (sz:=18) (rows:=[dcs b (b.sl ab cb) b.lasts b.most m]) (rest:=[]) (by simpa using h.pull b10) (by simp [dcs,btl,hl4,hm4])) ?_
 exact rtA rfl rfl rfl ⟨b10,m,rfl,rfl,rfl⟩ (fun w h=>h.del b1)
theorem Z23 (b:Barn) (ab:Option Addr) (cb:Nat) (hl:b.bins.length≤9223372036854775807) (hr:b.rise.length=6) (H:Z7) (R:Z4) [hB:MemRows ab 4 (Zt b.bins) R] :
    Fn Tryz.prog 39 [b.v (b.sl ab cb)] H R (fun v H' R'=>(b.check≠0∧v = .tuple #[.pointer none,.int .i64 b.check]∧H'=H∧R'=R)∨(b.check=0∧∃ bd m,v = .tuple #[.pointer (some ⟨bd,0,none⟩),.int .i64 0]∧H'=(m,ZQ true [])::H∧R'=RowsA (some ⟨bd,0,none⟩) 18 [dcs b (b.sl ab cb) b.lasts b.most m]::R)):=by
 refine Z9 Tryz.func39 rfl Tryz.ntmps39 rfl ?_
 refine sqt 3 rfl (bx rfl rfl rfl (fun b1=>pur 2 rfl (Z0 (sqt 3 rfl (spL rfl rfl (lhA (btl b (b.sl ab cb)) Z3U rfl rfl rfl) rfl ?_)))))
 refine clV rfl Zj2 rfl rfl (Z0M b ab cb hl hr _ _) ?_
 refine pur 1 rfl (sqt 2 rfl (pur 2 rfl ?_))
 refine Z2 rfl ?_ ?_<;>intro hc0<;>try simp only [cS] at hc0
 refine sqt 3 rfl (pur 3 rfl (Z5 ?_))
 exact rtB rfl rfl rfl rfl (.inl ⟨hc0,rfl,rfl,rfl⟩) drp
 have hck:b.check=0:=by omega
 have hok:=Barn.ok_of hr hck
 refine Z3 (sqt 4 rfl (spL rfl rfl (lhA (btl b (b.sl ab cb)) Z3U rfl rfl rfl) rfl ?_))
 refine cl rfl Zj3 rfl rfl (Z4x b ab cb hok _ _) ?_
 rintro _ _ _ ⟨bd,m,rfl,rfl,rfl⟩
 refine pur 2 rfl (Z5 ?_)
 exact rtB rfl rfl rfl rfl (.inr ⟨hck,bd,m,rfl,rfl,rfl⟩) (fun w h=>h.del b1)
theorem Zfk (b:Barn) (hok:b.ok) (ab:Option Addr) (cb bd m:Nat) (s:HSt) (hs:Sml s) (l:List Nat) (hl:∀ k∈l,k<b.bins.length) (hll:l.length≤1000000) (al:Option Addr) (cl:Nat) (H:Z7) (R:Z4) [hD:MemRows (some ⟨bd,0,none⟩) 18 [dcs b (b.sl ab cb) b.lasts b.most m] R] [hL:MemRows al 1 (irows (il l)) R] :
    FnV Tryz.prog 123 [.pointer (some ⟨bd,0,none⟩),stv s,.slice al l.length cl] H R (nxv (b.dsk.next s l)):=by
 refine Z9 Tryz.func123 rfl Tryz.ntmps123 rfl ?_
 refine sqt 3 rfl (bx rfl rfl rfl (fun b4=>alc rfl Z2m rfl (fun b6=>pur 1 rfl (Z0 (sqt 3 rfl (pur 1 rfl (sp rfl (PE.lenSl Z04 rfl) rfl (pur 1 rfl (Z1 ?_)))))))))
 have hmn:=hok.many
 have hls:=b.lasts_sml hok
 have hl4:=hls.len
 have hm4:=(b.most_sml hok).len
 refine Zc (ι:={k:Nat // k≤l.length}) (fun k=>⟨[(0,.pointer (some ⟨bd,0,none⟩)),(2,.slice al l.length cl),(4,.pointer (some ⟨b4,0,none⟩)),(6,.pointer (some ⟨b6,0,none⟩)),(11,.slice al l.length cl),(12,.int .i64 l.length),(13,.int .i64 k.1)],(b4,cel 107 (Zj ((l.take k.1).foldl b.dsk.up s)))::(b6,cel 107 [.int .i64 0,.int .i64 0,.int .i64 0,.int .i64 0])::H,R⟩) (fun k=>l.length-k.1) ⟨0,by omega⟩ ?_ (fun k=>?_)
 ·
  exact Zf (fun w h=>h.perm (.swap _ _ _))
 obtain ⟨k,hk⟩:=k
 dsimp only at hk ⊢
 have hu:Sml ((l.take k).foldl b.dsk.up s):=b.dsk.ups_sml hls hs (fun j hj=>by have:=hl j (List.mem_of_mem_take hj);omega)
 refine sqt 1 rfl (pur 1 rfl (Z0 ?_))
 refine Z2 rfl ?_ ?_<;>intro hc0<;>try simp only [cS] at hc0
 obtain ⟨j,hj⟩:∃ j,l[k]?=some j:=⟨_,List.getElem?_eq_getElem (by omega)⟩
 have hjn:=hl j (List.mem_of_getElem? hj)
 have hj4:j<4:=by omega
 have eu:((l.take (k+1)).foldl b.dsk.up s)=b.dsk.up ((l.take k).foldl b.dsk.up s) j:=by rw [List.take_add_one,hj,Option.toList_some,List.foldl_append];rfl
 have hu':=b.dsk.up_sml hls hu hj4
 generalize ((l.take k).foldl b.dsk.up s)=u at hu hu' eu ⊢
 have hju:=hu.at_ j hj4
 have hjl:=hls.at_ j hj4
 refine Zl (a:=al) (sz:=1) (rows:=irows (il l)) (by intro h0;simp [il] at h0;simp [h0] at hj) (fun bl' ol' he=>?_)
 subst he
 refine Z3 (Z0 (Z1 (sqt 3 rfl (sp rfl (PE.indexAddr Z3R rfl rfl (by omega) (by omega)) rfl (spL rfl rfl (lf0 (x:=.int .i64 j) sc3 (by simp [irows,il,hj];rfl) rfl) rfl (pur 1 rfl ?_))))))
 refine Zd [0,0,2,6,0,0,16,80,240,496,1008,2046,4095,8191] (tks 0 3 (.ld 3 (tks 4 5 (.ld 9 (.big 10 (.big 11 (.tk 12 (.big 13 .done)))))))) Zq (by kernel_rfl) ?_
 refine Zm 2 rfl (tk rfl (PE.indexArr Z0u rfl rfl (by omega) (by omega)) rfl (ld rfl rfl (lh sc3 rfl (Z56 hu.len hj4 (by show 0+((j:Nat):Int).toNat*1=_;omega))) rfl (Zm 2 rfl (tk rfl (PE.nilCheck rfl) rfl (tk rfl (PE.fA Z6r rfl) rfl (tk rfl (PE.indexArr Z0u rfl rfl (by omega) (by omega)) rfl (ld rfl rfl (lfB (sz:=18) (x:=.int .i64 (na b.lasts j)) sc3 (Z5z hl4 hj4 (by show 0+9+((j:Nat):Int).toNat*1=_;omega))) rfl ?_)))))))
 refine bsl (out:=[_]) rfl Z6a zl3 rfl rfl rfl rfl rfl rfl (fun b27=>?_)
 refine bg (fun w hs=>⟨trivial,(lh sc3 rfl (Z56 hu.len hj4 (by show 0+((j:Nat):Int).toNat*1=_;omega))) w hs,trivial⟩) ?_
 refine Sy.heap (fun w h=>St.intRows (l:=[na b.lasts j]) (h.pull b27)) ?_
 refine clV rfl Zcf rfl rfl (Z3d (na u j) (na b.lasts j) (some ⟨b27,0,none⟩) 1 _ _) ?_
 refine bgT (tk rfl (PE.indexArr Z0u rfl rfl (by omega) (by omega)) rfl ?_)
 refine Z03 (l':=Zj (b.dsk.up u j)) rfl rfl rfl cn3 rfl rfl rfl (Z4i hu.len hj4 (by show 0+((j:Nat):Int).toNat*1=_;omega)) (by rw [Z6,hu.len];show 0+((j:Nat):Int).toNat*1+1≤4;omega) ?_
 refine bgT (sqr 2 rfl (sp rfl (PE.add rfl rfl (by omega)) rfl (pur 1 rfl ?_)))
 exact Zb ⟨k+1,by omega⟩ (fun w h=>by dsimp only;rw [eu];exact h.ftail)
 obtain rfl:k=l.length:=by omega
 rw [List.take_length] at hu ⊢
 refine Z8 (Za (Za (Zn (Z0 (sqt 7 rfl (pur 1 rfl (sp rfl (PE.nilCheck rfl) rfl (sp rfl (PE.fA Z12 rfl) rfl (sp rfl (PE.fA ZX rfl) rfl (spL rfl rfl (lfB (sz:=18) Z31 rfl) rfl (sp rfl (PE.lenSl Z1E rfl) rfl (pur 1 rfl (Z1 ?_)))))))))))))
 obtain ⟨u,hu0⟩:∃ u,l.foldl b.dsk.up s=u:=⟨_,rfl⟩
 rw [hu0] at hu ⊢
 refine Zc (ι:={x:Nat×HSt // x.1≤b.bins.length∧dn u x.1=some x.2}) (fun x=>⟨[(0,.pointer (some ⟨bd,0,none⟩)),(2,.slice al l.length cl),(4,.pointer (some ⟨b4,0,none⟩)),(6,.pointer (some ⟨b6,0,none⟩)),(36,.int .i64 b.bins.length),(37,.int .i64 x.1.1)],(b4,cel 107 (Zj x.1.2))::(b6,cel 107 [.int .i64 0,.int .i64 0,.int .i64 0,.int .i64 0])::H,R⟩) (fun x=>b.bins.length-x.1.1) ⟨(0,u),by omega,rfl⟩ ?_ (fun x=>?_)
 exact Zf idH
 obtain ⟨⟨k,t⟩,hk,ht⟩:=x
 dsimp only at hk ht ⊢
 have htm:=Zcs hu (by omega) ht
 refine sqt 1 rfl (pur 1 rfl (Z0 ?_))
 refine Z2 rfl ?_ ?_<;>intro hc1<;>try simp only [cS] at hc1
 have hk4:k<4:=by omega
 have hkt:=htm.at_ k hk4
 refine Z3 (Z0 (Z1 (sqt 2 rfl (pur 2 rfl (Z0 (sqt 4 rfl (pur 1 rfl (sp rfl (PE.indexArr Z0u rfl rfl (by omega) (by omega)) rfl (spL rfl rfl (lh sc3 rfl (Z56 htm.len hk4 (by show 0+((k:Nat):Int).toNat*1=_;omega))) rfl (pur 1 rfl ?_))))))))))
 refine Z2 rfl ?_ ?_<;>intro hc2<;>try simp only [cS] at hc2
 have hd1:dn u (k+1)=some t:=by unfold dn;rw [ht];dsimp only;rw [dT hc2];rfl
 refine Z8 (Za (Zn (sqr 2 rfl (sp rfl (PE.add rfl rfl (by omega)) rfl (pur 1 rfl ?_)))))
 first | exact Ze ⟨(k+1,t),by dsimp only;omega,hd1⟩ (by dsimp only;omega) idH | exact Ze ⟨(k+1,t.set k (na t k-1)),by dsimp only;omega,hd1⟩ (by dsimp only;omega) idH
 refine Z3 (sqt 6 rfl (pur 1 rfl (sp rfl (PE.indexArr Z0u rfl rfl (by omega) (by omega)) rfl (spL rfl rfl (lh sc3 rfl (Z56 htm.len hk4 (by show 0+((k:Nat):Int).toNat*1=_;omega))) rfl (sp rfl (PE.sub rfl rfl (by omega)) rfl (sp rfl (PE.indexArr Z0u rfl rfl (by omega) (by omega)) rfl ?_))))))
 refine Z03 (l':=Zj (t.set k (na t k-1))) rfl rfl rfl cn3 rfl rfl rfl (Z4i htm.len hk4 (by show 0+((k:Nat):Int).toNat*1=_;omega)) (by rw [Z6,htm.len];show 0+((k:Nat):Int).toNat*1+1≤4;omega) ?_
 refine sqt 4 rfl (pur 1 rfl (sp rfl (PE.indexArr Z0u rfl rfl (by omega) (by omega)) rfl (spL rfl rfl (lh (v:=.int .i64 (na t k-1)) sc3 rfl (by rw [Z56 (k:=k) (by rw [List.length_set];exact htm.len) hk4 (by show 0+((k:Nat):Int).toNat*1=_;omega),Z2K (by rw [htm.len];exact hk4),if_pos rfl])) rfl (pur 1 rfl ?_))))
 refine Z2 rfl ?_ ?_<;>intro hc3<;>try simp only [cS] at hc3
 have hd0:dn u (k+1)=none:=by unfold dn;rw [ht];dsimp only;rw [dF hc2,cond_false,dT hc3];rfl
 have hdn:b.dsk.next s l=none:=by unfold Dsk.next;rw [hu0];exact ZdD (show k+1≤b.bins.length by omega) hd0
 refine sqt 3 rfl (sp rfl (PE.zero (.inr (by rw [Z0u];rfl)) Z2m) rfl ?_)
 refine sto rfl rfl rfl Z3k rfl rfl rfl rfl ?_
 refine pur 1 rfl (Z5 ?_)
 first
   | exact Zk (vs:=[_,_]) rfl (.cons (RV.cell rfl (lhA [_,_,_,_] Z1e rfl rfl rfl)) (.cons (RV.tmp rfl) .nil)) rfl ⟨by rw [hdn];rfl,rfl,rfl⟩ drp
   | exact Zk (vs:=[_,_]) rfl (.cons (RV.cell rfl (lhI t Z1e rfl rfl (htm.len))) (.cons (RV.tmp rfl) .nil)) rfl ⟨by rw [show b.dsk.next s l=some t by unfold Dsk.next;rw [hu0];exact ht];rfl,rfl,rfl⟩ drp
 have hd1:dn u (k+1)=some (t.set k (na t k-1)):=by unfold dn;rw [ht];dsimp only;rw [dF hc2,cond_false,dF (by omega)];rfl
 refine Z3 (sqr 2 rfl (sp rfl (PE.add rfl rfl (by omega)) rfl (pur 1 rfl ?_)))
 first | exact Ze ⟨(k+1,t),by dsimp only;omega,hd1⟩ (by dsimp only;omega) idH | exact Ze ⟨(k+1,t.set k (na t k-1)),by dsimp only;omega,hd1⟩ (by dsimp only;omega) idH
 obtain rfl:k=b.bins.length:=by omega
 refine Z8 (Za (Za (Zn (sqt 3 rfl (spL rfl rfl (lhI t Z1e rfl rfl (htm.len)) rfl ?_)))))
 refine ZbQ rfl rfl rfl Z3k rfl (by rw [Z6];exact htm.len) rfl (Z06 _) ?_
 refine pur 1 rfl (Z5 ?_)
 first
   | exact Zk (vs:=[_,_]) rfl (.cons (RV.cell rfl (lhA [_,_,_,_] Z1e rfl rfl rfl)) (.cons (RV.tmp rfl) .nil)) rfl ⟨by rw [hdn];rfl,rfl,rfl⟩ drp
   | exact Zk (vs:=[_,_]) rfl (.cons (RV.cell rfl (lhI t Z1e rfl rfl (htm.len))) (.cons (RV.tmp rfl) .nil)) rfl ⟨by rw [show b.dsk.next s l=some t by unfold Dsk.next;rw [hu0];exact ht];rfl,rfl,rfl⟩ drp
theorem Zc5:apT Tryz.prog 30=some (3,1,8):=by kernel_rfl
theorem Z1w:Z0g Tryz.prog 103=true:=by kernel_rfl
theorem sc4:Z0g Tryz.prog 4=true:=by kernel_rfl
theorem Barn.dsk_ok {b:Barn} (hb:b.ok):b.dsk.ok where
 n:=hb.many
 gangs:=hb.gangs
 lasts:=b.lasts_sml hb
 most:=b.most_sml hb
 le k hk:=by
   obtain ⟨x,hx⟩:∃ x,b.bins[k]?=some x:=⟨_,List.getElem?_eq_getElem hk⟩
   have h1:na b.lasts k=_:=Z1f (b.map_get hb _ hx)
   have h2:na b.most k=_:=Z1f (b.map_get hb _ hx)
   show na b.lasts k≤na b.most k
   rw [h1,h2];omega
 ever k hk:=by
   obtain ⟨x,hx⟩:∃ x,b.bins[k]?=some x:=⟨_,List.getElem?_eq_getElem hk⟩
   have hm:=List.mem_of_getElem? hx
   have h1:na b.lasts k=_:=Z1f (b.map_get hb _ hx)
   have h2:na b.most k=_:=Z1f (b.map_get hb _ hx)
   show (na b.lasts k=1000000∨na b.lasts k≤10)∧(na b.most k=1000000∨na b.most k≤10)∧(na b.lasts k=1000000↔na b.most k=1000000)
   have r1:=b.days_range hb hm (hb.bins x hm).2.1.1
   have r2:=b.days_range hb hm hb.cool.1
   rw [h1,h2]
   have e:b.days x x.warm=1000000↔b.days x b.cool=1000000:=by
     have z:∀ w,0≤w→(b.days x w=1000000↔b.worst x=0):=fun w hw=>by
       constructor
       · intro h
         rcases Classical.em (b.worst x=0) with h0 | h0
         · exact h0
         · have h9:=b.worst_range hb hm
           have h8:=(hb.bins x hm).1
           unfold Barn.days Z09 at h
           rw [decide_eq_false h0,cond_false] at h
           by_cases h3:x.mark<w
           · rw [decide_eq_true h3,cond_true] at h;omega
           · rw [decide_eq_false h3,cond_false] at h
             have:(x.mark-w) / b.worst x<11:=Int.ediv_lt_of_lt_mul (by omega) (by omega)
             omega
       · intro h;unfold Barn.days Z09;rw [h];rfl
     rw [z _ (hb.bins x hm).2.1.1,z _ hb.cool.1]
   omega
theorem Zhk (l:List Nat):(il l).length=l.length:=by simp [il]
theorem Z7P (bd:Nat) (full:Bool) (H:Z7) (R:Z4) :
    Fn Tryz.prog 122 [.pointer (some ⟨bd,0,none⟩),.bool full] H R (fun v H' R'=>∃ xb xf,v = .func (.func 151) #[] #[.pointer (some ⟨xb,0,none⟩),.pointer (some ⟨xf,0,none⟩)]∧H'=H∧R'=RowsA (some ⟨xf,0,none⟩) 1 [[.bool full]]::RowsA (some ⟨xb,0,none⟩) 1 [[.pointer (some ⟨bd,0,none⟩)]]::R):=by
 refine Z9 Tryz.func122 rfl Tryz.ntmps122 rfl ?_
 refine sqt 3 rfl (bx rfl rfl rfl (fun b2=>bx rfl rfl rfl (fun b3=>pur 1 rfl (sqt 2 rfl (sp rfl (PE.makeFunc rfl rfl) rfl (pur 1 rfl (Z5 ?_)))))))
 refine Sy.heap (fun w h=>St.rows (sz:=1) (rows:=[[.pointer (some ⟨bd,0,none⟩)]]) (rest:=[]) (h.pull b2) (by simp)) ?_
 refine Sy.heap (fun w h=>St.rows (sz:=1) (rows:=[[.bool full]]) (rest:=[]) (h.pull b3) (by simp)) ?_
 exact rtA rfl rfl rfl ⟨b2,b3,rfl,rfl,rfl⟩ idH
theorem Zb8 (bd:Nat) (H:Z7) (R:Z4) :
    Fn Tryz.prog 81 [.pointer (some ⟨bd,0,none⟩)] H R (fun v H' R'=>∃ xb,v = .func (.func 121) #[] #[.pointer (some ⟨xb,0,none⟩)]∧H'=H∧R'=RowsA (some ⟨xb,0,none⟩) 1 [[.pointer (some ⟨bd,0,none⟩)]]::R):=by
 refine Z9 Tryz.func81 rfl Tryz.ntmps81 rfl ?_
 refine sqt 2 rfl (bx rfl rfl rfl (fun b1=>pur 1 rfl (sqt 2 rfl (sp rfl (PE.makeFunc rfl rfl) rfl (pur 1 rfl (Z5 ?_))))))
 refine Sy.heap (fun w h=>St.rows (sz:=1) (rows:=[[.pointer (some ⟨bd,0,none⟩)]]) (rest:=[]) (h.pull b1) (by simp)) ?_
 exact rtA rfl rfl rfl ⟨b1,rfl,rfl,rfl⟩ idH
theorem Z6n (b:Barn) (hok:b.ok) (ab:Option Addr) (cb bd m:Nat) (full:Bool) (xb xf lp:Nat) (I:Nat→Z7→Z4→Prop) (E:Z7→Z4→Prop) (hI:∀ k H R,I k H R→RowsA (some ⟨xb,0,none⟩) 1 [[.pointer (some ⟨bd,0,none⟩)]]∈R∧RowsA (some ⟨xf,0,none⟩) 1 [[.bool full]]∈R∧RowsA (some ⟨bd,0,none⟩) 18 [dcs b (b.sl ab cb) b.lasts b.most m]∈R)
    (hy:∀ k l a c H R,(b.dsk.trs full)[k]?=some l→I k H R→Yd Tryz.prog lp [.slice a l.length c] H (RowsA a 1 (irows (il l))::R) (fun v H' R'=>(v = .bool true∧I (k+1) H' R')∨(v = .bool false∧E H' R'))) (H:Z7) (R:Z4) (h0:I 0 H R) :
    Fn Tryz.prog 151 [yv lp,.pointer (some ⟨xb,0,none⟩),.pointer (some ⟨xf,0,none⟩)] H R (fun _ H' R'=>I (b.dsk.trs full).length H' R'∨E H' R'):=by
 have hmn:=hok.many
 have hgg:=hok.gangs
 obtain ⟨hF1,hF2,hF3⟩:=hI _ _ _ h0
 haveI:MemRows (some ⟨xb,0,none⟩) 1 [[.pointer (some ⟨bd,0,none⟩)]] R:=⟨hF1⟩
 haveI:MemRows (some ⟨xf,0,none⟩) 1 [[.bool full]] R:=⟨hF2⟩
 haveI:MemRows (some ⟨bd,0,none⟩) 18 [dcs b (b.sl ab cb) b.lasts b.most m] R:=⟨hF3⟩
 refine Z9 Tryz.func151 rfl Tryz.ntmps151 rfl ?_
 refine Z0 ?_
 refine Zd [0,1,3,7,15,0,32,96,224,480,992,2047,4095] (.ld 0 (tks 1 3 (.ld 4 (.ld 5 (tks 6 3 (.ld 9 (tks 10 3 .done))))))) Zq (by kernel_rfl) ?_
 refine ld rfl rfl (lfB (sz:=1) Z1w rfl) rfl (tk rfl (PE.nilCheck rfl) rfl (tk rfl (PE.fA Z12 rfl) rfl (tk rfl (PE.fA Zcx rfl) rfl (ld rfl rfl (lfB (sz:=18) sc3 rfl) rfl (ld rfl rfl (lfB (sz:=1) Z1w rfl) rfl (tk rfl (PE.nilCheck rfl) rfl (tk rfl (PE.fA Z12 rfl) rfl (tk rfl (PE.fA ZX rfl) rfl (ld rfl rfl (lfB (sz:=18) Z31 rfl) rfl (tk rfl (PE.lenSl Z1E rfl) rfl (tk rfl (PE.min rfl rfl) rfl (Zm 1 rfl (sqt 8 rfl (spL rfl rfl (lfB (sz:=1) Z1w rfl) rfl (sp rfl (PE.nilCheck rfl) rfl ?_)))))))))))))))
 refine sp rfl (PE.fA Z12 rfl) rfl (sp rfl (PE.fA ZX rfl) rfl (spL rfl rfl (lfB (sz:=18) Z31 rfl) rfl (sp rfl (PE.lenSl Z1E rfl) rfl (sp rfl (PE.shlN (m:=1) (n:=b.bins.length) rfl rfl rfl (by omega) (by have:=Nat.pow_le_pow_right (show 0<2 by decide) hmn.2;omega)) rfl (pur 1 rfl (Z1 ?_))))))
 have h16:2 ^ b.bins.length≤16:=Nat.pow_le_pow_right (show 0<2 by decide) hmn.2
 refine Zc (ι:={x:Nat×Z7×Z4 // x.1≤2 ^ b.bins.length∧I (b.dsk.cnt full x.1) x.2.1 x.2.2}) (fun x=>⟨[(0,yv lp),(1,.pointer (some ⟨xb,0,none⟩)),(2,.pointer (some ⟨xf,0,none⟩)),(4,.int .i64 b.dsk.g),(26,.int .i64 ((1*2 ^ b.bins.length:Nat):Int)),(27,.int .i64 x.1.1)],x.1.2.1,x.1.2.2⟩) (fun x=>2 ^ b.bins.length-x.1.1) ⟨(0,H,R),Nat.zero_le _,by rw [Dsk.cnt_zero];exact h0⟩ ?_ (fun x=>?_)
 exact Zf idH
 obtain ⟨⟨i,H0,R0⟩,hi,hI0⟩:=x
 dsimp only at hi hI0 ⊢
 obtain ⟨hF1,hF2,hF3⟩:=hI _ _ _ hI0
 haveI:MemRows (some ⟨xb,0,none⟩) 1 [[.pointer (some ⟨bd,0,none⟩)]] R0:=⟨hF1⟩
 haveI:MemRows (some ⟨xf,0,none⟩) 1 [[.bool full]] R0:=⟨hF2⟩
 haveI:MemRows (some ⟨bd,0,none⟩) 18 [dcs b (b.sl ab cb) b.lasts b.most m] R0:=⟨hF3⟩
 refine sqt 1 rfl (pur 1 rfl (Z0 ?_))
 refine Z2 rfl ?_ ?_<;>intro hc0<;>try simp only [cS] at hc0
 have hi2:i<2 ^ b.bins.length:=by omega
 refine Z3 (Z0 (Z1 (sqt 2 rfl (pur 2 rfl (sqt 1 rfl (pur 1 rfl (Z0 (sqt 7 rfl (spL rfl rfl (lfB (sz:=1) Z1w rfl) rfl (sp rfl (PE.nilCheck rfl) rfl (sp rfl (PE.fA Z12 rfl) rfl (sp rfl (PE.fA ZX rfl) rfl (spL rfl rfl (lfB (sz:=18) Z31 rfl) rfl (sp rfl (PE.lenSl Z1E rfl) rfl (pur 1 rfl ?_)))))))))))))))
 refine Z1 ?_
 refine Zc (ι:=(k:{k:Nat // k≤b.bins.length})×OSl 3 1 (irows (il (ZR k.1 i)))) (fun x=>⟨[(0,yv lp),(1,.pointer (some ⟨xb,0,none⟩)),(2,.pointer (some ⟨xf,0,none⟩)),(4,.int .i64 b.dsk.g),(26,.int .i64 ((1*2 ^ b.bins.length:Nat):Int)),(27,.int .i64 i),(5,.int .i64 i),(6,x.2.fs),(35,.int .i64 b.bins.length),(36,.int .i64 x.1.1)],x.2.G++H0,R0⟩) (fun x=>b.bins.length-x.1.1) ⟨⟨0,by omega⟩,OSl.nil _ _⟩ ?_ (fun x=>?_)
 exact Zf idH
 obtain ⟨⟨k,hk⟩,o⟩:=x
 dsimp only at hk o ⊢
 refine sqt 1 rfl (pur 1 rfl (Z0 ?_))
 refine Z2 rfl ?_ ?_<;>intro hc1<;>try simp only [cS] at hc1
 have eb:=Z5j k i
 refine Z3 (Z0 (Z1 (sqt 2 rfl (pur 2 rfl (sqt 5 rfl (pur 2 rfl (sp rfl (PE.shrN (m:=i) (n:=k) rfl rfl (by omega)) rfl (sp rfl (PE.andN (m:=i>>>k) (n:=1) rfl rfl rfl (Nat.le_trans (Nat.shiftRight_le _ _) (by omega)) (by decide)) rfl (pur 1 rfl ?_)))))))))
 refine Z2 rfl ?_ ?_<;>intro hc2
 rw [Z8w] at hc2
 rw [hc2,cond_true] at eb
 refine sqr 5 rfl (pur 2 rfl ?_)
 refine bsl (out:=[_]) rfl Z6a zl3 rfl rfl rfl rfl rfl rfl (fun b46=>?_)
 refine apO (o) rfl Zc5 rfl rfl (Z2z (row:=[.int .i64 k]) rfl) rfl rfl ((by have:=Z1A k i;simp only [irows,il,List.length_map,List.length_singleton];omega)) rfl (fun o47=>?_)
 refine pur 1 rfl (sqr 2 rfl (sp rfl (PE.add rfl rfl (by omega)) rfl (pur 1 rfl ?_)))
 first
   | exact Ze ⟨⟨k+1,by omega⟩,o47.cast (by rw [eb];simp [irows,il])⟩ (by dsimp only;omega) (fun w h=>h.del b46)
   | exact Ze ⟨⟨k+1,by omega⟩,o.cast (by rw [eb])⟩ (by dsimp only;omega) idH
 rw [Z8w] at hc2
 rw [hc2,cond_false,List.append_nil] at eb
 refine Z3 (sqr 2 rfl (sp rfl (PE.add rfl rfl (by omega)) rfl (pur 1 rfl ?_)))
 first
   | exact Ze ⟨⟨k+1,by omega⟩,o47.cast (by rw [eb];simp [irows,il])⟩ (by dsimp only;omega) (fun w h=>h.del b46)
   | exact Ze ⟨⟨k+1,by omega⟩,o.cast (by rw [eb])⟩ (by dsimp only;omega) idH
 obtain rfl:k=b.bins.length:=by omega
 obtain ⟨al,cl,he,hf⟩:=o.freeze
 rw [he]
 refine Sy.heap (fun w h=>hf h) ?_
 clear he hf
 rw [show (irows (il (ZR b.bins.length i))).length=(ZR b.bins.length i).length from by simp [irows,il]]
 have hbl:=Z1A b.bins.length i
 refine Z8 (Za (Za (Zn (Z0 (sqt 13 rfl (pur 1 rfl (sp rfl (PE.lenSl Z04 rfl) rfl (pur 3 rfl ?_))))))))
 refine Zv 53 rfl ?_ ?_<;>intro g53
 try simp only [cS] at g53
 have hmy:b.dsk.may full (ZR b.dsk.n i)=false:=by unfold Dsk.may;rw [dT (show b.dsk.g<((ZR b.dsk.n i).length:Int) from g53)];rfl
 have hcn:=b.dsk.cnt_no (full:=full) hi2 hmy
 refine pur 2 rfl ?_
 repeat refine spU rfl rfl rfl rfl rfl rfl rfl ?_
 refine pur 2 rfl ?_
 refine Z00 rfl ?_
 refine Z8 (Za (Zn (sqr 2 rfl (sp rfl (PE.add rfl rfl (by omega)) rfl (pur 1 rfl ?_)))))
 first | exact Ze ⟨(i+1,H3,R3),by dsimp only;omega,by dsimp only;rw [hcn];exact hI3⟩ (by dsimp only;omega) idH | exact Ze ⟨(i+1,H0,R0),by dsimp only;omega,by dsimp only;rw [hcn];exact hI0⟩ (by dsimp only;omega) (fun w h=>h.ftail)
 try simp only [cS] at g53
 refine Z1b rfl rfl rfl rfl rfl (lfB (sz:=1) sc4 rfl) rfl (pur 1 rfl ?_)
 refine Zv 55 rfl ?_ ?_<;>intro g55
 refine pur 1 rfl ?_
 refine spG rfl rfl rfl rfl (PE.lenSl Z04 rfl) rfl ?_
 refine pur 4 rfl ?_
 refine Z2 rfl ?_ ?_<;>intro hc3<;>try simp only [cS] at hc3
 have hmy:b.dsk.may full (ZR b.dsk.n i)=false:=by unfold Dsk.may;rw [dF (show ¬ b.dsk.g<((ZR b.dsk.n i).length:Int) from Int.not_lt.2 g53),g55,dT (show ((ZR b.dsk.n i).length:Int)<b.dsk.g from hc3)];rfl
 have hcn:=b.dsk.cnt_no (full:=full) hi2 hmy
 refine Z8 (Za (Zn (sqr 2 rfl (sp rfl (PE.add rfl rfl (by omega)) rfl (pur 1 rfl ?_)))))
 first | exact Ze ⟨(i+1,H3,R3),by dsimp only;omega,by dsimp only;rw [hcn];exact hI3⟩ (by dsimp only;omega) idH | exact Ze ⟨(i+1,H0,R0),by dsimp only;omega,by dsimp only;rw [hcn];exact hI0⟩ (by dsimp only;omega) (fun w h=>h.ftail)
 have hmy:b.dsk.may full (ZR b.dsk.n i)=true:=by unfold Dsk.may;rw [dF (show ¬ b.dsk.g<((ZR b.dsk.n i).length:Int) from Int.not_lt.2 g53),g55,dF (show ¬ ((ZR b.dsk.n i).length:Int)<b.dsk.g from Int.not_lt.2 hc3)];rfl
 obtain ⟨hcn,htr⟩:=b.dsk.cnt_yes (full:=full) hi2 hmy
 refine Z3 (sqt 4 rfl (pur 2 rfl ?_))
 refine clY rfl rfl rfl rfl (hy _ _ al cl _ _ htr hI0) ?_
 rintro v H3 R3 (⟨rfl,hI3⟩ | ⟨rfl,hE3⟩)
 refine pur 1 rfl ?_
 refine ZD rfl ?_
 refine Z3 (sqr 2 rfl (sp rfl (PE.add rfl rfl (by omega)) rfl (pur 1 rfl ?_)))
 first | exact Ze ⟨(i+1,H3,R3),by dsimp only;omega,by dsimp only;rw [hcn];exact hI3⟩ (by dsimp only;omega) idH | exact Ze ⟨(i+1,H0,R0),by dsimp only;omega,by dsimp only;rw [hcn];exact hI0⟩ (by dsimp only;omega) (fun w h=>h.ftail)
 refine pur 1 rfl ?_
 refine Z00 rfl ?_
 refine Z5 ?_
 exact Zk (vs:=[]) rfl .nil rfl (.inr hE3) idH
 try simp only [cS] at g55
 have hmy:b.dsk.may full (ZR b.dsk.n i)=true:=by unfold Dsk.may;rw [dF (show ¬ b.dsk.g<((ZR b.dsk.n i).length:Int) from Int.not_lt.2 g53),g55];rfl
 obtain ⟨hcn,htr⟩:=b.dsk.cnt_yes (full:=full) hi2 hmy
 refine pur 6 rfl ?_
 refine ZD rfl ?_
 refine Z3 (sqt 4 rfl (pur 2 rfl ?_))
 refine clY rfl rfl rfl rfl (hy _ _ al cl _ _ htr hI0) ?_
 rintro v H3 R3 (⟨rfl,hI3⟩ | ⟨rfl,hE3⟩)
 refine pur 1 rfl ?_
 refine ZD rfl ?_
 refine Z3 (sqr 2 rfl (sp rfl (PE.add rfl rfl (by omega)) rfl (pur 1 rfl ?_)))
 first | exact Ze ⟨(i+1,H3,R3),by dsimp only;omega,by dsimp only;rw [hcn];exact hI3⟩ (by dsimp only;omega) idH | exact Ze ⟨(i+1,H0,R0),by dsimp only;omega,by dsimp only;rw [hcn];exact hI0⟩ (by dsimp only;omega) (fun w h=>h.ftail)
 refine pur 1 rfl ?_
 refine Z00 rfl ?_
 refine Z5 ?_
 exact Zk (vs:=[]) rfl .nil rfl (.inr hE3) idH
 obtain rfl:i=2 ^ b.bins.length:=by omega
 have hce:b.dsk.cnt full (2 ^ b.bins.length)=(b.dsk.trs full).length:=b.dsk.cnt_end full
 refine Z8 (Za (Za (Zn ?_)))
 exact Z0Q (vs:=[]) rfl .nil rfl (.inl (hce▸hI0)) idH
theorem Z9f (b:Barn) (hok:b.ok) (ab:Option Addr) (cb bd m:Nat) (xb lp:Nat) (I:Nat→Z7→Z4→Prop) (E:Z7→Z4→Prop) (hI:∀ k H R,I k H R→RowsA (some ⟨xb,0,none⟩) 1 [[.pointer (some ⟨bd,0,none⟩)]]∈R∧RowsA (some ⟨bd,0,none⟩) 18 [dcs b (b.sl ab cb) b.lasts b.most m]∈R)
    (hy:∀ k s q o H R,b.dsk.sts[k]?=some s→I k H R→Yd Tryz.prog lp [stv s] ((q,o)::H) R (fun v H' R'=>(v = .bool true∧∃ H2,H'=(q,o)::H2∧I (k+1) H2 R')∨(v = .bool false∧∃ H2,H'=(q,o)::H2∧E H2 R'))) (H:Z7) (R:Z4) (h0:I 0 H R) :
    Fn Tryz.prog 121 [yv lp,.pointer (some ⟨xb,0,none⟩)] H R (fun _ H' R'=>I b.dsk.nst H' R'∨E H' R'):=by
 have hmn:=hok.many
 have hdk:=b.dsk_ok hok
 have hl4:=hdk.lasts.len
 have hm4:=hdk.most.len
 obtain ⟨hF1,hF3⟩:=hI _ _ _ h0
 haveI:MemRows (some ⟨xb,0,none⟩) 1 [[.pointer (some ⟨bd,0,none⟩)]] R:=⟨hF1⟩
 haveI:MemRows (some ⟨bd,0,none⟩) 18 [dcs b (b.sl ab cb) b.lasts b.most m] R:=⟨hF3⟩
 refine Z9 Tryz.func121 rfl Tryz.ntmps121 rfl ?_
 refine sqt 3 rfl (sp rfl (PE.zero (.inr (by rw [Z0u];rfl)) Z2m) rfl (alc rfl Z2m rfl (fun b3=>?_)))
 refine sto rfl rfl rfl Z3k rfl rfl rfl rfl ?_
 refine Z0 (sqt 7 rfl (spL rfl rfl (lfB (sz:=1) Z1w rfl) rfl (sp rfl (PE.nilCheck rfl) rfl (sp rfl (PE.fA Z12 rfl) rfl (sp rfl (PE.fA ZX rfl) rfl (spL rfl rfl (lfB (sz:=18) Z31 rfl) rfl (sp rfl (PE.lenSl Z1E rfl) rfl (pur 1 rfl (Z1 ?_)))))))))
 refine Zc (ι:={k:Nat // k≤b.bins.length}) (fun k=>⟨[(0,yv lp),(1,.pointer (some ⟨xb,0,none⟩)),(3,.pointer (some ⟨b3,0,none⟩)),(12,.int .i64 b.bins.length),(13,.int .i64 k.1)],(b3,cel 107 (Zj (zst b.dsk k.1)))::H,R⟩) (fun k=>b.bins.length-k.1) ⟨0,by omega⟩ ?_ (fun k=>?_)
 exact Zf idH
 obtain ⟨k,hk⟩:=k
 dsimp only at hk ⊢
 refine sqt 1 rfl (pur 1 rfl (Z0 ?_))
 refine Z2 rfl ?_ ?_<;>intro hc0<;>try simp only [cS] at hc0
 refine Z3 (Z0 (Z1 (sqt 2 rfl (pur 2 rfl (sqt 7 rfl (spL rfl rfl (lfB (sz:=1) Z1w rfl) rfl (pur 1 rfl (sp rfl (PE.nilCheck rfl) rfl (sp rfl (PE.fA Z4I rfl) rfl (sp rfl (PE.indexArr Z0u rfl rfl (by omega) (by omega)) rfl (spL rfl rfl (lfB (sz:=18) (x:=.int .i64 (na b.most k)) sc3 (Z4E (k:=k) hl4 hm4 (by omega) (by show 0+13+((k:Nat):Int).toNat*1=_;omega))) rfl (pur 1 rfl ?_))))))))))))
 refine Z2 rfl ?_ ?_<;>intro hc1<;>try simp only [cS] at hc1
 refine sqr 3 rfl (pur 1 rfl (sp rfl (PE.indexArr Z0u rfl rfl (by omega) (by omega)) rfl ?_))
 refine Z03 (l':=Zj (zst b.dsk (k+1))) rfl rfl rfl cn3 rfl rfl rfl ((Z4i (k:=k) (Z1y _ _) (by omega) (by show 0+((k:Nat):Int).toNat*1=k;omega)).trans (by rw [ZeL (d:=b.dsk) (k:=k) (by omega) hc1])) (by rw [Z6,Z1y];show 0+((k:Nat):Int).toNat*1+1≤4;omega) ?_
 refine sqr 2 rfl (sp rfl (PE.add rfl rfl (by omega)) rfl (pur 1 rfl ?_))
 first
   | exact Ze ⟨k+1,by omega⟩ (by dsimp only;omega) (fun w h=>by dsimp only;rw [← ZcW (d:=b.dsk) (k:=k) hc1];exact h)
   | exact Ze ⟨k+1,by omega⟩ (by dsimp only;omega) idH
 refine Z3 (sqr 2 rfl (sp rfl (PE.add rfl rfl (by omega)) rfl (pur 1 rfl ?_)))
 first
   | exact Ze ⟨k+1,by omega⟩ (by dsimp only;omega) (fun w h=>by dsimp only;rw [← ZcW (d:=b.dsk) (k:=k) hc1];exact h)
   | exact Ze ⟨k+1,by omega⟩ (by dsimp only;omega) idH
 obtain rfl:k=b.bins.length:=by omega
 rw [show zst b.dsk b.bins.length=b.dsk.sat 0 from ZeK hdk]
 refine Z8 (Za (Za (Zn (Z1 ?_))))
 refine Zc (ι:={x:Nat×Z7×Z4 // x.1<b.dsk.nst∧I x.1 x.2.1 x.2.2}) (fun x=>⟨[(0,yv lp),(1,.pointer (some ⟨xb,0,none⟩)),(3,.pointer (some ⟨b3,0,none⟩))],(b3,cel 107 (Zj (b.dsk.sat x.1.1)))::x.1.2.1,x.1.2.2⟩) (fun x=>b.dsk.nst-x.1.1) ⟨(0,H,R),(b.dsk.nst_le hdk).1,h0⟩ ?_ (fun x=>?_)
 exact Zf idH
 obtain ⟨⟨i,H0,R0⟩,hi,hI0⟩:=x
 dsimp only at hi hI0 ⊢
 have hs:=b.dsk.sat_sml hdk i
 refine Z1 (Z0 (sqt 4 rfl (pur 1 rfl (spL rfl rfl (lhI (b.dsk.sat i) Z1e rfl rfl (hs.len)) rfl ?_))))
 refine clY rfl rfl rfl rfl (hy _ _ b3 _ _ _ (b.dsk.sts_get hi) hI0) ?_
 rintro v H3 R3 (⟨rfl,H2,rfl,hI3⟩ | ⟨rfl,H2,rfl,hE3⟩)
 refine pur 1 rfl ?_
 refine ZD rfl ?_
 refine Z3 (sqt 1 rfl (pur 1 rfl (Z0 (Z1 ?_))))
 obtain ⟨hF1,hF3⟩:=hI _ _ _ hI3
 haveI:MemRows (some ⟨xb,0,none⟩) 1 [[.pointer (some ⟨bd,0,none⟩)]] R3:=⟨hF1⟩
 haveI:MemRows (some ⟨bd,0,none⟩) 18 [dcs b (b.sl ab cb) b.lasts b.most m] R3:=⟨hF3⟩
 refine Zc (ι:={a:Nat // a≤b.bins.length∧∀ j<a,na (b.dsk.sat i) j=na b.most j}) (fun a=>⟨[(0,yv lp),(1,.pointer (some ⟨xb,0,none⟩)),(3,.pointer (some ⟨b3,0,none⟩)),(5,.int .i64 a.1)],(b3,cel 107 (Zj (rsz (b.dsk.sat i) a.1)))::H2,R3⟩) (fun a=>b.bins.length-a.1) ⟨0,by omega,by omega⟩ ?_ (fun a=>?_)
 exact Zf (fun w h=>by dsimp only;rw [ZbG hs.len];exact h)
 obtain ⟨a,ha,hat⟩:=a
 dsimp only at ha hat ⊢
 refine Z0 (Z0 ?_)
 refine Zd [0,0,2,6,14,30,62,127,255,511,1023,2047,511,511,4607,20991,61951,127487,262143,524287] (.tk 0 (.ld 1 (tks 2 3 (.ld 5 (tks 6 5 (.ld 11 (.ld 12 (tks 13 4 (.ld 17 (.tk 18 (.tk 19 .done))))))))))) Zq (by kernel_rfl) ?_
 refine Zm 1 rfl (ld rfl rfl (lfB (sz:=1) Z1w rfl) rfl (tk rfl (PE.nilCheck rfl) rfl (tk rfl (PE.fA Z12 rfl) rfl (tk rfl (PE.fA ZX rfl) rfl (ld rfl rfl (lfB (sz:=18) Z31 rfl) rfl (tk rfl (PE.lenSl Z1E rfl) rfl (Zm 2 rfl ?_)))))))
 refine Zv 38 rfl ?_ ?_<;>intro g38
 simp only [decide_eq_true_eq] at g38
 have hra:na (rsz (b.dsk.sat i) a) a=na (b.dsk.sat i) a:=by rw [Z1v (by omega),dF (Nat.lt_irrefl a)];rfl
 refine Zm 1 rfl ?_
 refine tkG rfl rfl rfl rfl (PE.indexArr Z0u rfl rfl (by omega) (by omega)) rfl ?_
 refine ldG rfl rfl rfl rfl rfl (lh sc3 rfl (Z56 (k:=a) (ZW _ _) (by omega) (by show 0+((a:Nat):Int).toNat*1=_;omega))) rfl (ldG rfl rfl rfl rfl rfl (lfB (sz:=1) Z1w rfl) rfl (Zm 1 rfl ?_))
 refine tkG rfl rfl rfl rfl (PE.nilCheck rfl) rfl ?_
 refine tkG rfl rfl rfl rfl (PE.fA Z4I rfl) rfl ?_
 refine tkG rfl rfl rfl rfl (PE.indexArr Z0u rfl rfl (by omega) (by omega)) rfl ?_
 refine ldG rfl rfl rfl rfl rfl (lfB (sz:=18) (x:=.int .i64 (na b.most a)) sc3 (Z4E (k:=a) hl4 hm4 (by omega) (by show 0+13+((a:Nat):Int).toNat*1=_;omega))) rfl (Zm 2 rfl ?_)
 refine Z2 rfl ?_ ?_<;>intro hc3<;>try simp only [cS] at hc3
 refine Z3 (Z1 (Z0 (sqt 4 rfl (pur 1 rfl (sp rfl (PE.indexArr Z0u rfl rfl (by omega) (by omega)) rfl (spL rfl rfl (lh sc3 rfl (Z56 (k:=a) (ZW _ _) (by omega) (by show 0+((a:Nat):Int).toNat*1=_;omega))) rfl (pur 1 rfl ?_)))))))
 refine Z2 rfl ?_ ?_<;>intro hc4<;>try simp only [cS] at hc4
 have hat2:∀ j<a+1,na (b.dsk.sat i) j=na b.most j:=fun j hj=>by
   rcases Nat.lt_or_ge j a with h1 | h1
   · exact hat j h1
   · obtain rfl:j=a:=by omega
     rw [← hra];exact hc3
 refine sqr 3 rfl (pur 1 rfl (sp rfl (PE.indexArr Z0u rfl rfl (by omega) (by omega)) rfl ?_))
 refine Z03 (l':=Zj (rsz (b.dsk.sat i) (a+1))) rfl rfl rfl cn3 rfl rfl rfl ((Z4i (k:=a) (ZW _ _) (by omega) (by show 0+((a:Nat):Int).toNat*1=a;omega)).trans (by rw [Zeh (by omega) (by rw [← hra];exact hc4)])) (by rw [Z6,ZW];show 0+((a:Nat):Int).toNat*1+1≤4;omega) ?_
 refine sqr 3 rfl (pur 1 rfl (sp rfl (PE.add rfl rfl (by omega)) rfl (pur 1 rfl ?_)))
 exact Zb ⟨a+1,by omega,hat2⟩ idH
 have hat2:∀ j<a+1,na (b.dsk.sat i) j=na b.most j:=fun j hj=>by
   rcases Nat.lt_or_ge j a with h1 | h1
   · exact hat j h1
   · obtain rfl:j=a:=by omega
     rw [← hra];exact hc3
 have hev:na (b.dsk.sat i) a=1000000:=by rw [← hra];omega
 refine Z3 (sqr 3 rfl (pur 1 rfl (sp rfl (PE.add rfl rfl (by omega)) rfl (pur 1 rfl ?_))))
 exact Zb ⟨a+1,by omega,hat2⟩ (fun w h=>by dsimp only;rw [ZbF hev];exact h)
 have hne3:na (b.dsk.sat i) a≠na b.most a:=by rw [← hra];exact hc3
 refine Z8 (Za (Za (Zn (Z0 (sqt 8 rfl (pur 1 rfl (spL rfl rfl (lfB (sz:=1) Z1w rfl) rfl (sp rfl (PE.nilCheck rfl) rfl (sp rfl (PE.fA Z12 rfl) rfl (sp rfl (PE.fA ZX rfl) rfl (spL rfl rfl (lfB (sz:=18) Z31 rfl) rfl (sp rfl (PE.lenSl Z1E rfl) rfl (pur 1 rfl ?_)))))))))))))
 refine Z2 rfl ?_ ?_<;>intro hc5<;>try simp only [cS] at hc5
 have hae:a=b.bins.length:=by omega
 subst hae
 have hlast:=b.dsk.sat_last hdk hi hat
 refine Z5 ?_
 first | exact Zk (vs:=[]) rfl .nil rfl (.inr hE3) (fun _ h=>h.tail) | exact Zk (vs:=[]) rfl .nil rfl (.inl (hlast▸hI3)) (fun _ h=>h.tail)
 have hne:na (b.dsk.sat i) a≠na b.most a:=by first | exact hne3 | (exfalso;omega)
 refine Z3 (sqr 6 rfl (pur 1 rfl (sp rfl (PE.indexArr Z0u rfl rfl (by omega) (by omega)) rfl (spL rfl rfl (lh sc3 rfl (Z56 (k:=a) (ZW _ _) (by omega) (by show 0+((a:Nat):Int).toNat*1=_;omega))) rfl (sp rfl (PE.add rfl rfl (by have:=(b.dsk.sat_sml hdk i).at_ a (by omega);rw [Z1v (by omega),dF (Nat.lt_irrefl a)];simp only [Bool.false_and,cond_false];omega)) rfl (sp rfl (PE.indexArr Z0u rfl rfl (by omega) (by omega)) rfl ?_))))))
 refine Z03 (l':=Zj (b.dsk.sat (i+1))) rfl rfl rfl cn3 rfl rfl rfl ((Z4i (k:=a) (ZW _ _) (by omega) (by show 0+((a:Nat):Int).toNat*1=a;omega)).trans (by rw [show na (rsz (b.dsk.sat i) a) a=na (b.dsk.sat i) a by rw [Z1v (by omega),dF (Nat.lt_irrefl a)];rfl,b.dsk.sat_next hdk (show a<b.dsk.n by show a<b.bins.length;omega) hat hne])) (by rw [Z6,ZW];show 0+((a:Nat):Int).toNat*1+1≤4;omega) ?_
 have hlt:i+1<b.dsk.nst:=by
   rcases Nat.lt_or_ge (i+1) b.dsk.nst with h1 | h1
   · exact h1
   · exact absurd (b.dsk.sat_max hdk (show i+1=b.dsk.nst by omega) (show a<b.dsk.n by show a<b.bins.length;omega)) hne
 exact Zb ⟨(i+1,H2,R3),hlt,hI3⟩ idH
 simp only [decide_eq_false_iff_not] at g38
 refine Zm 2 rfl ?_
 repeat refine ldN rfl rfl rfl rfl rfl rfl rfl rfl ?_
 refine Zm 4 rfl ?_
 refine ldN rfl rfl rfl rfl rfl rfl rfl rfl ?_
 refine Zm 2 rfl ?_
 refine ZD rfl ?_
 refine Z8 (Za (Za (Zn (Z0 (sqt 8 rfl (pur 1 rfl (spL rfl rfl (lfB (sz:=1) Z1w rfl) rfl (sp rfl (PE.nilCheck rfl) rfl (sp rfl (PE.fA Z12 rfl) rfl (sp rfl (PE.fA ZX rfl) rfl (spL rfl rfl (lfB (sz:=18) Z31 rfl) rfl (sp rfl (PE.lenSl Z1E rfl) rfl (pur 1 rfl ?_)))))))))))))
 refine Z2 rfl ?_ ?_<;>intro hc5<;>try simp only [cS] at hc5
 have hae:a=b.bins.length:=by omega
 subst hae
 have hlast:=b.dsk.sat_last hdk hi hat
 refine Z5 ?_
 first | exact Zk (vs:=[]) rfl .nil rfl (.inr hE3) (fun _ h=>h.tail) | exact Zk (vs:=[]) rfl .nil rfl (.inl (hlast▸hI3)) (fun _ h=>h.tail)
 have hne:na (b.dsk.sat i) a≠na b.most a:=by first | exact hne3 | (exfalso;omega)
 refine Z3 (sqr 6 rfl (pur 1 rfl (sp rfl (PE.indexArr Z0u rfl rfl (by omega) (by omega)) rfl (spL rfl rfl (lh sc3 rfl (Z56 (k:=a) (ZW _ _) (by omega) (by show 0+((a:Nat):Int).toNat*1=_;omega))) rfl (sp rfl (PE.add rfl rfl (by have:=(b.dsk.sat_sml hdk i).at_ a (by omega);rw [Z1v (by omega),dF (Nat.lt_irrefl a)];simp only [Bool.false_and,cond_false];omega)) rfl (sp rfl (PE.indexArr Z0u rfl rfl (by omega) (by omega)) rfl ?_))))))
 refine Z03 (l':=Zj (b.dsk.sat (i+1))) rfl rfl rfl cn3 rfl rfl rfl ((Z4i (k:=a) (ZW _ _) (by omega) (by show 0+((a:Nat):Int).toNat*1=a;omega)).trans (by rw [show na (rsz (b.dsk.sat i) a) a=na (b.dsk.sat i) a by rw [Z1v (by omega),dF (Nat.lt_irrefl a)];rfl,b.dsk.sat_next hdk (show a<b.dsk.n by show a<b.bins.length;omega) hat hne])) (by rw [Z6,ZW];show 0+((a:Nat):Int).toNat*1+1≤4;omega) ?_
 have hlt:i+1<b.dsk.nst:=by
   rcases Nat.lt_or_ge (i+1) b.dsk.nst with h1 | h1
   · exact h1
   · exact absurd (b.dsk.sat_max hdk (show i+1=b.dsk.nst by omega) (show a<b.dsk.n by show a<b.bins.length;omega)) hne
 exact Zb ⟨(i+1,H2,R3),hlt,hI3⟩ idH
 refine pur 1 rfl ?_
 refine Z00 rfl ?_
 refine Z5 ?_
 first | exact Zk (vs:=[]) rfl .nil rfl (.inr hE3) (fun _ h=>h.tail) | exact Zk (vs:=[]) rfl .nil rfl (.inl (hlast▸hI3)) (fun _ h=>h.tail)
theorem Zd4:apT Tryz.prog 164=some (107,4,32):=by kernel_rfl
theorem Zfw:cal Tryz.prog 121=true:=by kernel_rfl
theorem Zfx:cal Tryz.prog 122=true:=by kernel_rfl
theorem Zfy:cal Tryz.prog 123=true:=by kernel_rfl
theorem ZfM:cal Tryz.prog 151=true:=by kernel_rfl
theorem Zj4:cal Tryz.prog 81=true:=by kernel_rfl
theorem Zj5:cal Tryz.prog 82=true:=by kernel_rfl
theorem ZgR:ZB Tryz.prog 164=some 1:=by kernel_rfl
theorem cn4:ZB Tryz.prog 4=some 1:=by kernel_rfl
theorem Zh5:elN Tryz.prog 164=some 4:=by kernel_rfl
theorem Z7h:eqB Tryz.prog 10000 107=some (true,4):=by kernel_rfl
theorem Z4J:ZT Tryz.prog 110 3=some 17:=by kernel_rfl
theorem Z9X:Z2n Tryz.prog 164=true:=by kernel_rfl
theorem Z7q:Z1t Tryz.prog 108=some (107,3):=by kernel_rfl
theorem Z7r:Z2S Tryz.prog 10000 107=true:=by kernel_rfl
theorem Zan:Z0g Tryz.prog 108=true:=by kernel_rfl
theorem ZhQ:Z0g Tryz.prog 164=true:=by kernel_rfl
theorem Zen:slE Tryz.prog 164=some (107,4):=by kernel_rfl
theorem Zk0:Zw Tryz.prog 164=some ([.slice none 0 0]):=by kernel_rfl
theorem zl4:Zw Tryz.prog 4=some ([.bool false]):=by kernel_rfl
theorem zv3:zvl Tryz.prog 3=some (.int .i64 0):=by kernel_rfl
structure KvOk (d:Dsk) (n:Nat) (kv:KV):Prop where
 len:∀ e∈kv,e.1.length=4
 get:∀ s∈d.sts,kv.get s=some (.int .i64 (d.lvl n s))
theorem KV.put_len {kv:KV} {k:List Int} {v:Value} {n:Nat} (hk:k.length=n) (h:∀ e∈kv,e.1.length=n):∀ e∈kv.put k v,e.1.length=n:=fun e he=>by
 rcases KV.put_mem he with rfl | h1
 · exact hk
 · exact h e h1
def Dsk.hit (d:Dsk) (A:List HSt) (s:HSt) (l:List Nat):Bool:=match d.next s l with
 | some t=>A.contains t
 | none=>false
theorem ZeY {α:Type} {L:List α} {p:α→Bool} {k:Nat} {x:α} (h:L[k]?=some x) (hp:p x=true):L.any p=true:=List.any_eq_true.2 ⟨x,List.mem_of_getElem? h,hp⟩
theorem Z8r {α:Type} {L:List α} {p:α→Bool} (h:∀ i x,i<L.length→L[i]?=some x→p x=false):L.any p=false:=List.any_eq_false.2 fun x hx=>by
 obtain ⟨i,hi⟩:=List.getElem?_of_mem hx
 simp [h i x (List.getElem?_eq_some_iff.1 hi).1 hi]
theorem Za2 {α:Type} {L:List α} {p:α→Bool} {k:Nat} {x:α} (hk:L[k]?=some x) (hn:∀ i y,i<k→L[i]?=some y→p y=false) (h:p x=false):∀ i y,i<k+1→L[i]?=some y→p y=false:=fun i y hi hy=>by
 rcases Nat.lt_or_ge i k with h1 | h1
 · exact hn i y h1 hy
 · obtain rfl:i=k:=by omega
   rw [hk] at hy;cases hy;exact h
theorem Zb5 (b:Barn) (hok:b.ok) (ab:Option Addr) (cb bd m:Nat) (n:Nat) (hn:n≤100000) (kv:KV) (hkv:KvOk b.dsk n kv) (s:HSt) (hs:s∈b.dsk.sts) (H:Z7) (R:Z4) [hD:MemRows (some ⟨bd,0,none⟩) 18 [dcs b (b.sl ab cb) b.lasts b.most m] R] [hM:Mem1 m (ZQ true kv) H] :
    FnV Tryz.prog 82 [.pointer (some ⟨bd,0,none⟩),stv s] H R (.bool (b.dsk.helped (b.dsk.alive n) s)):=by
 refine Z1G Tryz.func82 rfl Tryz.ntmps82 rfl ?_
 refine sqt 3 rfl (bx rfl rfl rfl (fun b2=>bx rfl rfl rfl (fun b3=>alc rfl zl4 rfl (fun b4=>Z0 (sqt 2 rfl (spL rfl rfl (lh Z1w rfl rfl) rfl ?_))))))
 refine cl rfl Zfx rfl rfl (Z7P bd true _ _) ?_
 rintro _ _ _ ⟨xb,xf,rfl,rfl,rfl⟩
 have hdk:=b.dsk_ok hok
 have hsi:=(b.dsk.mem_sts hdk s).1 hs
 have hsm:=b.dsk.inS_sml hdk hsi
 have hl4:=hdk.lasts.len
 have hm4:=hdk.most.len
 refine ZE b2 ?_
 refine ZE b3 ?_
 refine ZE b4 ?_
 refine Z1 ?_
 refine Z0o rfl ZfM (fun c0 bl0 bd0 hcp0 hca0 hcb0 hck0=>?_)
 refine ⟨fun st pend T R'=>(st = .ready∧pend=none∧b.dsk.helped (b.dsk.alive n) s=false∧T=(bd0,.deferred (some []))::(b4,cel 4 [.bool false])::(b3,cel 107 (Zj s))::(b2,cel 103 [.pointer (some ⟨bd,0,none⟩)])::H∧R'=RowsA (some ⟨xf,0,none⟩) 1 [[.bool true]]::RowsA (some ⟨xb,0,none⟩) 1 [[.pointer (some ⟨bd,0,none⟩)]]::R) ∨
     (st = .done∧pend=some .ret∧b.dsk.helped (b.dsk.alive n) s=true∧T=(bd0,.deferred (some []))::(b4,cel 4 [.bool true])::(b3,cel 107 (Zj s))::(b2,cel 103 [.pointer (some ⟨bd,0,none⟩)])::H∧R'=RowsA (some ⟨xf,0,none⟩) 1 [[.bool true]]::RowsA (some ⟨xb,0,none⟩) 1 [[.pointer (some ⟨bd,0,none⟩)]]::R),
   Fn.mono (Z6n b hok ab cb bd m true xb xf bl0 (fun k H' R'=>(∀ i l,i<k→(b.dsk.trs true)[i]?=some l→b.dsk.hit (b.dsk.alive n) s l=false)∧H'=(bl0,lob c0 .ready none)::(bd0,.deferred (some []))::(b4,cel 4 [.bool false])::(b3,cel 107 (Zj s))::(b2,cel 103 [.pointer (some ⟨bd,0,none⟩)])::H∧R'=RowsA (some ⟨xf,0,none⟩) 1 [[.bool true]]::RowsA (some ⟨xb,0,none⟩) 1 [[.pointer (some ⟨bd,0,none⟩)]]::R)
     (fun H' R'=>b.dsk.helped (b.dsk.alive n) s=true∧H'=(bl0,lob c0 .done (some .ret))::(bd0,.deferred (some []))::(b4,cel 4 [.bool true])::(b3,cel 107 (Zj s))::(b2,cel 103 [.pointer (some ⟨bd,0,none⟩)])::H∧R'=RowsA (some ⟨xf,0,none⟩) 1 [[.bool true]]::RowsA (some ⟨xb,0,none⟩) 1 [[.pointer (some ⟨bd,0,none⟩)]]::R)
     (fun k H' R' h=>by obtain ⟨_,_,rfl⟩:=h;exact ⟨by simp,by simp,List.mem_cons_of_mem _ (List.mem_cons_of_mem _ hD.mem)⟩) (fun k l a c H' R' hk hI=>?_) _ _ ⟨fun _ _ h=>absurd h (Nat.not_lt_zero _),rfl,rfl⟩) (fun v H' R' h=>?_),?_⟩
 rotate_left
 · rcases h with ⟨hn,rfl,rfl⟩ | ⟨hh,rfl,rfl⟩
   · exact ⟨.ready,none,_,by simp,.refl _,.inl ⟨rfl,rfl,Z8r hn,rfl,rfl⟩⟩
   · exact ⟨.done,some .ret,_,by simp,.refl _,.inr ⟨rfl,rfl,hh,rfl,rfl⟩⟩
 rotate_left
 have hlt:=b.dsk.trs_lt (List.mem_of_getElem? hk)
 have hll:l.length≤1000000:=by
   obtain ⟨i,_,rfl⟩:=List.mem_map.1 (List.mem_filter.1 (List.mem_of_getElem? hk)).1
   have:=Z1A b.dsk.n i
   have:=hdk.n
   omega
 obtain ⟨hno,rfl,rfl⟩:=hI
 refine Zc1 hcp0 hca0 hcb0 hck0 rfl ?_
 refine sqr 1 rfl (pur 1 rfl ?_)
 refine ZA ?_
 refine Z1 (sqt 10 rfl (spL rfl rfl (lh Z1w rfl rfl) rfl (spL rfl rfl (lhI s Z1e rfl rfl (hsi.len)) rfl (pur 1 rfl ?_))))
 refine cl rfl Zfy rfl rfl (Zfk b hok ab cb bd m s hsm l hlt hll a c _ _) ?_
 rintro _ _ _ ⟨rfl,rfl,rfl⟩
 rcases hnx:b.dsk.next s l with _ | t
 refine pur 3 rfl (alc rfl Z2m rfl (fun b6=>?_))
 first | (refine ZbQ rfl rfl rfl Z3k rfl rfl rfl (Z06 _) ?_) | (refine ZbQ rfl rfl rfl Z3k rfl (by rw [Z6];exact hts.len) rfl (Z06 _) ?_)
 refine pur 1 rfl (Z0 ?_)
 refine Zd [0,1,3,7,15,31,3,127,255,511] (.tk 0 (.tk 1 (.ld 2 (.tk 3 (.tk 4 (.ld 5 (.ld 6 (.ld 7 (.tk 8 (.tk 9 .done)))))))))) Zq (by kernel_rfl) ?_
 have hno2:b.dsk.hit (b.dsk.alive n) s l=false:=by simp only [Dsk.hit,hnx]
 refine Zm 2 rfl ?_
 refine ldN rfl rfl rfl rfl rfl rfl rfl rfl ?_
 refine Zm 2 rfl ?_
 repeat refine ldN rfl rfl rfl rfl rfl rfl rfl rfl ?_
 refine Zm 2 rfl ?_
 refine ZD rfl ?_
 refine Z3 ?_
 exact Zi (.inl ⟨rfl,Za2 hk hno hno2,rfl,rfl⟩) (fun _ h=>h.tail.ftail)
 refine pur 2 rfl ?_
 have hts:=b.dsk.next_inS hdk hsi hlt hnx
 have htm:=(b.dsk.mem_sts hdk t).2 hts
 have hkt:=hkv.get t htm
 refine pur 1 rfl (alc rfl Z2m rfl (fun b6=>?_))
 first | (refine ZbQ rfl rfl rfl Z3k rfl rfl rfl (Z06 _) ?_) | (refine ZbQ rfl rfl rfl Z3k rfl (by rw [Z6];exact hts.len) rfl (Z06 _) ?_)
 refine pur 1 rfl (Z0 ?_)
 refine Zd [0,1,3,7,15,31,3,127,255,511] (.tk 0 (.tk 1 (.ld 2 (.tk 3 (.tk 4 (.ld 5 (.ld 6 (.ld 7 (.tk 8 (.tk 9 .done)))))))))) Zq (by kernel_rfl) ?_
 refine Zm 2 rfl (ldG rfl rfl rfl rfl rfl (lh Z1w rfl rfl) rfl ?_)
 refine tkG rfl rfl rfl rfl (PE.nilCheck rfl) rfl ?_
 refine tkG rfl rfl rfl rfl (PE.fA Z4J rfl) rfl ?_
 refine ldG rfl rfl rfl rfl rfl (lfB (sz:=18) Zan (Z3m hl4 hm4)) rfl (ldG rfl rfl rfl rfl rfl (lhI t Z1e rfl rfl (hts.len)) rfl ?_)
 refine Zjy rfl rfl rfl rfl rfl rfl (Z6G (b:=true) kv t Z7q (KeyT.of Z7h Z7r) (Z0q zv3) hts.len hkv.len false) rfl ?_
 rw [hkt]
 refine Zm 2 rfl ?_
 refine Z2 rfl ?_ ?_<;>intro hc0<;>try simp only [cS] at hc0
 have hyes:b.dsk.hit (b.dsk.alive n) s l=true:=by
   rcases b.dsk.lvl_spec htm (n:=n) (by omega) with ⟨h1,h2⟩ | ⟨j,h1,h2,h3,h4⟩
   · simp only [Dsk.hit,hnx];simpa using h2
   · exfalso;have hc:b.dsk.lvl n t=1000000:=hc0;omega
 refine sqt 1 rfl ?_
 refine sto rfl rfl rfl cn4 rfl rfl rfl rfl ?_
 refine Z5 ?_
 exact Z70 (.inr ⟨rfl,ZeY hk hyes,rfl,rfl⟩) (fun _ h=>h.tail.ftail)
 have hno2:b.dsk.hit (b.dsk.alive n) s l=false:=by
   rcases b.dsk.lvl_spec htm (n:=n) (by omega) with ⟨h1,h2⟩ | ⟨j,h1,h2,h3,h4⟩
   · exact absurd h1 hc0
   · simp only [Dsk.hit,hnx]
     have:t∉b.dsk.alive n:=fun h=>h4 (b.dsk.alive_le (by omega) h)
     simpa using this
 refine Z3 ?_
 exact Zi (.inl ⟨rfl,Za2 hk hno hno2,rfl,rfl⟩) (fun _ h=>h.tail.ftail)
 rintro _ _ _ _ (⟨rfl,rfl,hh,rfl,rfl⟩ | ⟨rfl,rfl,hh,rfl,rfl⟩)
 refine Z40 ?_
 refine sqt 1 rfl ?_
 refine sto rfl rfl rfl cn4 rfl rfl rfl rfl ?_
 refine Z5 ?_
 exact ZF [bd0] idH rfl (.cons (RV.cell rfl (lh sc4 rfl rfl)) .nil) rfl ⟨by rw [hh];rfl,rfl,rfl⟩ (fun w h=>(((h.del b4).del b3).del b2).ftail.ftail)
 refine ZjV ?_
 refine Z5 ?_
 exact ZF [bd0] idH rfl (.cons (RV.cell rfl (lh sc4 rfl rfl)) .nil) rfl ⟨by rw [hh];rfl,rfl,rfl⟩ (fun w h=>(((h.del b4).del b3).del b2).ftail.ftail)
def Z05 (l:List HSt):List (List Value):=l.map Zj
theorem Z0k (l:List HSt):(Z05 l).length=l.length:=List.length_map _
theorem Z4k {l:List HSt} {k:Nat} {s:HSt} (h:l[k]?=some s):(Z05 l)[k]?=some (Zj s):=by simp [Z05,h]
theorem Z3L {α:Type} {l:List α} {k:Nat} {x:α} (h:l[k]?=some x):l.take (k+1)=l.take k++[x]:=by rw [List.take_add_one,h];rfl
theorem Z4B (l:List HSt) (x y:HSt):(l++[x]).contains y=(l.contains y||decide (x=y)):=by
 by_cases h:x=y
 · subst h;simp
 · have h':¬ y=x:=fun e=>h e.symm
   simp [h,h']
theorem Zfn (b:Barn) (hok:b.ok) (ab:Option Addr) (cb bd m:Nat) (H:Z7) (R:Z4) [hD:MemRows (some ⟨bd,0,none⟩) 18 [dcs b (b.sl ab cb) b.lasts b.most m] R] :
    Fn Tryz.prog 40 [.pointer (some ⟨bd,0,none⟩)] ((m,ZQ true [])::H) R (fun _ H' R'=>∃ n kv,n≤14641∧b.dsk.alive (n+1)=b.dsk.alive n∧KvOk b.dsk n kv∧H'=(m,ZQ true kv)::H∧R'=R):=by
 refine Z1G Tryz.func40 rfl Tryz.ntmps40 rfl ?_
 refine sqt 1 rfl (bx rfl rfl rfl (fun b1=>sqt 1 rfl (alc rfl Zk0 rfl (fun b2=>Z0 (sqt 2 rfl (spL rfl rfl (lh Z1w rfl rfl) rfl ?_))))))
 refine cl rfl Zj4 rfl rfl (Zb8 bd _ _) ?_
 rintro _ _ _ ⟨xb,rfl,rfl,rfl⟩
 have hdk:=b.dsk_ok hok
 have hl4:=hdk.lasts.len
 have hm4:=hdk.most.len
 have hnst:=b.dsk.nst_le hdk
 have hsl:=b.dsk.sts_len
 refine ZE b1 ?_
 refine ZE b2 ?_
 refine Z1 ?_
 refine Z0o rfl Zfw (fun c0 bl0 bd0 hcp0 hca0 hcb0 hck0=>?_)
 refine ⟨fun st pend T R'=>st = .ready∧pend=none∧∃ (o:OSl 107 4 (Z05 b.dsk.sts)) (kv:KV),T=(bd0,.deferred (some []))::(b2,cel 164 [o.fs])::(b1,cel 103 [.pointer (some ⟨bd,0,none⟩)])::(o.G++(m,ZQ true kv)::H)∧R'=RowsA (some ⟨xb,0,none⟩) 1 [[.pointer (some ⟨bd,0,none⟩)]]::R∧KvOk b.dsk 0 kv,
   Fn.mono (Z9f b hok ab cb bd m xb bl0 (fun k H' R'=>∃ (o:OSl 107 4 (Z05 (b.dsk.sts.take k))) (kv:KV),H'=(bl0,lob c0 .ready none)::(bd0,.deferred (some []))::(b2,cel 164 [o.fs])::(b1,cel 103 [.pointer (some ⟨bd,0,none⟩)])::(o.G++(m,ZQ true kv)::H)∧R'=RowsA (some ⟨xb,0,none⟩) 1 [[.pointer (some ⟨bd,0,none⟩)]]::R∧(∀ e∈kv,e.1.length=4)∧∀ s∈b.dsk.sts.take k,kv.get s=some (.int .i64 1000000)) (fun _ _=>False)
     (fun k H' R' h=>by obtain ⟨_,_,_,rfl,_⟩:=h;exact ⟨by simp,List.mem_cons_of_mem _ hD.mem⟩) (fun k s q oo H' R' hk hI=>?_) _ _ ⟨OSl.nil _ _,[],rfl,rfl,by simp,by simp⟩) (fun v H' R' h=>?_),?_⟩
 rotate_left
 · rcases h with ⟨o,kv,rfl,rfl,h1,h2⟩ | h
   · rw [List.take_of_length_le (by rw [hsl];exact Nat.le_refl _)] at h2
     exact ⟨.ready,none,_,by simp,.refl _,rfl,rfl,o.cast (by rw [List.take_of_length_le (by rw [hsl];exact Nat.le_refl _)]),kv,rfl,rfl,h1,h2⟩
   · exact h.elim
 rotate_left
 have hmem:=List.mem_of_getElem? hk
 have hsi:=(b.dsk.mem_sts hdk s).1 hmem
 have hkl:=(List.getElem?_eq_some_iff.1 hk).1
 obtain ⟨s0,s1,s2,s3,rfl⟩:=Z6F hsi.len
 obtain ⟨o,kv,rfl,rfl,hkv1,hkv2⟩:=hI
 refine Zc1 hcp0 hca0 hcb0 hck0 rfl ?_
 refine sqr 2 rfl (alc rfl Z2m rfl (fun b3=>?_))
 refine sto rfl rfl rfl Z3k rfl rfl rfl rfl ?_
 refine ZA ?_
 refine Z1 (sqt 5 rfl (spL rfl rfl (lh ZhQ rfl rfl) rfl (spL rfl rfl (lhA [_,_,_,_] Z1e rfl rfl rfl) rfl ?_)))
 refine bsl (out:=[_,_,_,_]) rfl Zen Z2m rfl rfl rfl rfl rfl rfl (fun b16=>?_)
 refine apO (o) rfl Zd4 rfl rfl (Z2z (row:=[.int .i64 s0,.int .i64 s1,.int .i64 s2,.int .i64 s3]) rfl) rfl rfl ((by rw [Z0k,List.length_take];simp only [List.length_singleton];omega)) rfl (fun o17=>?_)
 refine Z03 (l':=[o17.fs]) rfl rfl rfl ZgR rfl (by rw [o17.cells.1];first | done | rfl) (by rw [o17.cells.1];simp [o17.cells.2]) (by rw [o17.cells.1];first | done | rfl) (by rw [o17.cells.1];first | done | exact Nat.le_refl _) ?_
 refine Zd [0,1,3,7,0,31] (.ld 0 (.tk 1 (.tk 2 (.ld 3 (.ld 4 (.big 5 .done)))))) Zq (by kernel_rfl) ?_
 refine ld rfl rfl (lh Z1w rfl rfl) rfl (tk rfl (PE.nilCheck rfl) rfl (tk rfl (PE.fA Z4J rfl) rfl (ld rfl rfl (lfB (sz:=18) Zan (Z3m hl4 hm4)) rfl (ld rfl rfl (lhA [_,_,_,_] Z1e rfl rfl rfl) rfl ?_))))
 refine mpu kv [s0,s1,s2,s3] rfl Z7q (KeyT.of Z7h Z7r) rfl rfl rfl rfl hkv1 ?_
 refine bgT ?_
 exact Zi (.inl ⟨rfl,_,rfl,o17.cast (by rw [Z3L hk];simp [Z05]),kv.put [s0,s1,s2,s3] (.int .i64 1000000),rfl,rfl,KV.put_len rfl hkv1,fun s hs=>by
   rw [KV.get_put]
   by_cases h:[s0,s1,s2,s3]=s
   · rw [dT h];rfl
   · rw [dF h,cond_false]
     rw [Z3L hk] at hs
     rcases List.mem_append.1 hs with h1 | h1
     · exact hkv2 s h1
     · exact absurd (List.mem_singleton.1 h1).symm h⟩) (fun _ h=>(h.del b16).del b3)
 rintro _ _ _ _ ⟨rfl,rfl,o,kv,rfl,rfl,hkv⟩
 refine Z40 ?_
 refine sqt 1 rfl (pur 1 rfl (Z1 ?_))
 refine Zc (ι:=(x:{x:Nat×KV // x.1+(b.dsk.alive x.1).length≤b.dsk.nst∧KvOk b.dsk x.1 x.2})×OSl 107 4 (Z05 (b.dsk.alive x.1.1))) (fun x=>⟨[(1,.pointer (some ⟨b1,0,none⟩)),(2,.pointer (some ⟨b2,0,none⟩)),(4,.int .i64 x.1.1.1)],(bd0,.deferred (some []))::(b2,cel 164 [x.2.fs])::(b1,cel 103 [.pointer (some ⟨bd,0,none⟩)])::(x.2.G++(m,ZQ true x.1.1.2)::H),RowsA (some ⟨xb,0,none⟩) 1 [[.pointer (some ⟨bd,0,none⟩)]]::R⟩) (fun x=>(b.dsk.alive x.1.1.1).length) ⟨⟨(0,kv),by show 0+b.dsk.sts.length≤_;rw [hsl];omega,hkv⟩,o⟩ ?_ (fun x=>?_)
 exact Zf idH
 obtain ⟨⟨⟨n,kv⟩,hnl,hkv⟩,o⟩:=x
 dsimp only at hnl hkv o ⊢
 obtain ⟨aa,ca,he,hf⟩:=o.freeze
 rw [he,Z0k]
 refine Sy.heap (H':=(bd0,.deferred (some []))::(b2,cel 164 [.slice aa (b.dsk.alive n).length ca])::(b1,cel 103 [.pointer (some ⟨bd,0,none⟩)])::(m,ZQ true kv)::H) (R':=RowsA aa 4 (Z05 (b.dsk.alive n))::RowsA (some ⟨xb,0,none⟩) 1 [[.pointer (some ⟨bd,0,none⟩)]]::R) (fun w h=>(hf (h.perm (Zy [_,_,_] o.G _))).perm (by first | exact .refl _ | skip)) ?_
 clear he hf
 have hn5:n≤100000:=by omega
 refine Z0 (Z1 (sqt 2 rfl (pur 2 rfl (Z0 (sqt 3 rfl (spL rfl rfl (lh ZhQ rfl rfl) rfl (sp rfl (PE.lenSl Z9X rfl) rfl (pur 1 rfl (Z1 ?_)))))))))
 refine Zc (ι:=(k:{k:Nat // k≤(b.dsk.alive n).length})×OSl 107 4 (Z05 ((((b.dsk.alive n).take k.1)).filter fun s=>!b.dsk.helped (b.dsk.alive n) s))×OSl 107 4 (Z05 ((((b.dsk.alive n).take k.1)).filter (b.dsk.helped (b.dsk.alive n))))) (fun x=>⟨[(1,.pointer (some ⟨b1,0,none⟩)),(2,.pointer (some ⟨b2,0,none⟩)),(4,.int .i64 n),(5,x.2.1.fs),(6,x.2.2.fs),(25,.slice aa (b.dsk.alive n).length ca),(26,.int .i64 (b.dsk.alive n).length),(27,.int .i64 x.1.1)],x.2.1.G++(x.2.2.G++(bd0,.deferred (some []))::(b2,cel 164 [.slice aa (b.dsk.alive n).length ca])::(b1,cel 103 [.pointer (some ⟨bd,0,none⟩)])::(m,ZQ true kv)::H),RowsA aa 4 (Z05 (b.dsk.alive n))::RowsA (some ⟨xb,0,none⟩) 1 [[.pointer (some ⟨bd,0,none⟩)]]::R⟩) (fun x=>(b.dsk.alive n).length-x.1.1) ⟨⟨0,by omega⟩,OSl.nil _ _,OSl.nil _ _⟩ ?_ (fun x=>?_)
 exact Zf idH
 obtain ⟨⟨k,hk⟩,o5,o6⟩:=x
 dsimp only at hk o5 o6 ⊢
 refine sqt 1 rfl (pur 1 rfl (Z0 ?_))
 refine Z2 rfl ?_ ?_<;>intro hc0<;>try simp only [cS] at hc0
 obtain ⟨s,hsk⟩:∃ s,(b.dsk.alive n)[k]?=some s:=⟨_,List.getElem?_eq_getElem (by omega)⟩
 have hmem:=b.dsk.alive_sts (List.mem_of_getElem? hsk)
 have hsi:=(b.dsk.mem_sts hdk s).1 hmem
 obtain ⟨s0,s1,s2,s3,rfl⟩:=Z6F hsi.len
 refine Zl (a:=aa) (sz:=4) (rows:=Z05 (b.dsk.alive n)) (by intro h0;have:=congrArg List.length h0;rw [Z0k] at this;simp at this;simp [this] at hsk) (fun ba oa he=>?_)
 subst he
 have hd1:((((b.dsk.alive n).take (k+1))).filter fun s=>!b.dsk.helped (b.dsk.alive n) s)=((((b.dsk.alive n).take k)).filter fun s=>!b.dsk.helped (b.dsk.alive n) s)++(bif b.dsk.helped (b.dsk.alive n) [s0,s1,s2,s3] then [] else [[s0,s1,s2,s3]]):=by rw [Z27 hsk];cases b.dsk.helped (b.dsk.alive n) [s0,s1,s2,s3]<;>rfl
 have hr1:((((b.dsk.alive n).take (k+1))).filter (b.dsk.helped (b.dsk.alive n)))=((((b.dsk.alive n).take k)).filter (b.dsk.helped (b.dsk.alive n)))++(bif b.dsk.helped (b.dsk.alive n) [s0,s1,s2,s3] then [[s0,s1,s2,s3]] else []):=Z27 hsk
 have hl5:((((b.dsk.alive n).take k)).filter fun s=>!b.dsk.helped (b.dsk.alive n) s).length≤14641:=Nat.le_trans (List.length_filter_le _ _) (by rw [List.length_take];omega)
 have hl6:((((b.dsk.alive n).take k)).filter (b.dsk.helped (b.dsk.alive n))).length≤14641:=Nat.le_trans (List.length_filter_le _ _) (by rw [List.length_take];omega)
 refine Z3 (Z0 (Z1 (sqt 4 rfl (sp rfl (PE.indexAddr Zh5 rfl rfl (by omega) (by omega)) rfl (spL rfl rfl (lfA Z1e (row:=[.int .i64 s0,.int .i64 s1,.int .i64 s2,.int .i64 s3]) (Z4k hsk) rfl) rfl (alc rfl Z2m rfl (fun b8=>?_)))))))
 refine sto rfl rfl rfl Z3k rfl rfl rfl rfl ?_
 refine sqt 3 rfl (spL rfl rfl (lh Z1w rfl rfl) rfl (spL rfl rfl (lhA [_,_,_,_] Z1e rfl rfl rfl) rfl ?_))
 refine clV rfl Zj5 rfl rfl (Zb5 b hok ab cb bd m n hn5 kv hkv [s0,s1,s2,s3] hmem _ _) ?_
 refine Z2 rfl ?_ ?_<;>intro hc1
 rw [hc1,cond_true,List.append_nil] at hd1
 rw [hc1,cond_true] at hr1
 refine sqr 5 rfl (pur 1 rfl (spL rfl rfl (lhA [_,_,_,_] Z1e rfl rfl rfl) rfl ?_))
 refine bsl (out:=[_,_,_,_]) rfl Zen Z2m rfl rfl rfl rfl rfl rfl (fun b36=>?_)
 refine apO (o6) rfl Zd4 rfl rfl (Z2z (row:=[.int .i64 s0,.int .i64 s1,.int .i64 s2,.int .i64 s3]) rfl) rfl rfl ((by rw [Z0k];simp only [List.length_singleton];omega)) rfl (fun o37=>?_)
 refine pur 1 rfl (sqr 2 rfl (sp rfl (PE.add rfl rfl (by omega)) rfl (pur 1 rfl ?_)))
 first
   | exact Ze ⟨⟨k+1,by omega⟩,o5.cast (by rw [hd1]),o37.cast (by rw [hr1];simp [Z05])⟩ (by dsimp only;omega) (fun w h=>(h.del b36).del b8)
   | exact Ze ⟨⟨k+1,by omega⟩,o41.cast (by rw [hd1];simp [Z05]),o6.cast (by rw [hr1])⟩ (by dsimp only;omega) (fun w h=>(h.del b40).del b8)
 rw [hc1,cond_false] at hd1
 rw [hc1,cond_false,List.append_nil] at hr1
 refine sqr 5 rfl (pur 1 rfl (spL rfl rfl (lhA [_,_,_,_] Z1e rfl rfl rfl) rfl ?_))
 refine bsl (out:=[_,_,_,_]) rfl Zen Z2m rfl rfl rfl rfl rfl rfl (fun b40=>?_)
 refine apO (o5) rfl Zd4 rfl rfl (Z2z (row:=[.int .i64 s0,.int .i64 s1,.int .i64 s2,.int .i64 s3]) rfl) rfl rfl ((by rw [Z0k];simp only [List.length_singleton];omega)) rfl (fun o41=>?_)
 refine pur 1 rfl (sqr 2 rfl (sp rfl (PE.add rfl rfl (by omega)) rfl (pur 1 rfl ?_)))
 first
   | exact Ze ⟨⟨k+1,by omega⟩,o5.cast (by rw [hd1]),o37.cast (by rw [hr1];simp [Z05])⟩ (by dsimp only;omega) (fun w h=>(h.del b36).del b8)
   | exact Ze ⟨⟨k+1,by omega⟩,o41.cast (by rw [hd1];simp [Z05]),o6.cast (by rw [hr1])⟩ (by dsimp only;omega) (fun w h=>(h.del b40).del b8)
 obtain rfl:k=(b.dsk.alive n).length:=by omega
 obtain ⟨p5,h5f,h5g⟩:∃ o:OSl 107 4 (Z05 ((b.dsk.alive n).filter fun s=>!b.dsk.helped (b.dsk.alive n) s)),o.fs=o5.fs∧o.G=o5.G:=⟨o5.cast (by rw [List.take_length]),rfl,rfl⟩
 obtain ⟨p6,h6f,h6g⟩:∃ o:OSl 107 4 (Z05 (b.dsk.alive (n+1))),o.fs=o6.fs∧o.G=o6.G:=⟨o6.cast (by rw [List.take_length];rfl),rfl,rfl⟩
 rw [← h5f,← h6f]
 refine Sy.heap (H':=p5.G++(p6.G++(bd0,.deferred (some []))::(b2,cel 164 [.slice aa (b.dsk.alive n).length ca])::(b1,cel 103 [.pointer (some ⟨bd,0,none⟩)])::(m,ZQ true kv)::H)) (fun w h=>by rw [h5g,h6g];exact h) ?_
 clear h5f h5g h6f h6g
 obtain ⟨ad,cd,he,hf⟩:=p5.freeze
 rw [he,Z0k]
 refine Sy.heap (fun w h=>hf h) ?_
 clear he hf
 refine Z8 (Za (Za (Zn (Z0 (sqt 3 rfl (pur 1 rfl (sp rfl (PE.lenSl Z9X rfl) rfl (pur 1 rfl ?_))))))))
 refine Z2 rfl ?_ ?_<;>intro hc2<;>try simp only [cS] at hc2
 have hfix:=b.dsk.alive_same (n:=n) (by omega)
 refine Z5 ?_
 refine Sy.heap (fun w h=>(St.drop (G:=p6.G) ((h.del b2).del b1)).ftail.ftail.ftail) ?_
 exact ZF [bd0] idH rfl .nil rfl ⟨n,kv,by omega,hfix,hkv,rfl,rfl⟩ idH
 have hls:=b.dsk.alive_less (n:=n) (by omega)
 have hdl:((b.dsk.alive n).filter fun s=>!b.dsk.helped (b.dsk.alive n) s).length≤14641:=Nat.le_trans (List.length_filter_le _ _) (by omega)
 refine Z3 (Z0 (sqt 3 rfl (pur 1 rfl (sp rfl (PE.lenSl Z9X rfl) rfl (pur 1 rfl (Z1 ?_))))))
 refine Zc (ι:={x:Nat×KV // x.1≤((b.dsk.alive n).filter fun s=>!b.dsk.helped (b.dsk.alive n) s).length∧(∀ e∈x.2,e.1.length=4)∧∀ s∈b.dsk.sts,x.2.get s=some (.int .i64 (bif (((b.dsk.alive n).filter fun s=>!b.dsk.helped (b.dsk.alive n) s).take x.1).contains s then (n:Int) else b.dsk.lvl n s))}) (fun x=>⟨[(1,.pointer (some ⟨b1,0,none⟩)),(2,.pointer (some ⟨b2,0,none⟩)),(4,.int .i64 n),(6,p6.fs),(46,.slice ad ((b.dsk.alive n).filter fun s=>!b.dsk.helped (b.dsk.alive n) s).length cd),(47,.int .i64 ((b.dsk.alive n).filter fun s=>!b.dsk.helped (b.dsk.alive n) s).length),(48,.int .i64 x.1.1)],p6.G++(bd0,.deferred (some []))::(b2,cel 164 [.slice aa (b.dsk.alive n).length ca])::(b1,cel 103 [.pointer (some ⟨bd,0,none⟩)])::(m,ZQ true x.1.2)::H,RowsA ad 4 (Z05 ((b.dsk.alive n).filter fun s=>!b.dsk.helped (b.dsk.alive n) s))::RowsA aa 4 (Z05 (b.dsk.alive n))::RowsA (some ⟨xb,0,none⟩) 1 [[.pointer (some ⟨bd,0,none⟩)]]::R⟩) (fun x=>((b.dsk.alive n).filter fun s=>!b.dsk.helped (b.dsk.alive n) s).length-x.1.1) ⟨(0,kv),Nat.zero_le _,hkv.len,fun s hs=>by rw [hkv.get s hs];rfl⟩ ?_ (fun x=>?_)
 exact Zf idH
 obtain ⟨⟨k,kv2⟩,hk,hkl,hkg⟩:=x
 dsimp only at hk hkl hkg ⊢
 refine sqt 1 rfl (pur 1 rfl (Z0 ?_))
 refine Z2 rfl ?_ ?_<;>intro hc3<;>try simp only [cS] at hc3
 obtain ⟨s,hsk⟩:∃ s,((b.dsk.alive n).filter fun s=>!b.dsk.helped (b.dsk.alive n) s)[k]?=some s:=⟨_,List.getElem?_eq_getElem (by omega)⟩
 have hmem:=b.dsk.alive_sts (List.mem_filter.1 (List.mem_of_getElem? hsk)).1
 have hsi:=(b.dsk.mem_sts hdk s).1 hmem
 obtain ⟨s0,s1,s2,s3,rfl⟩:=Z6F hsi.len
 refine Zl (a:=ad) (sz:=4) (rows:=Z05 ((b.dsk.alive n).filter fun s=>!b.dsk.helped (b.dsk.alive n) s)) (ne0 (by rw [Z0k];omega)) (fun ba oa he=>?_)
 subst he
 refine Z3 (Z0 (Z1 (sqt 4 rfl (sp rfl (PE.indexAddr Zh5 rfl rfl (by omega) (by omega)) rfl (spL rfl rfl (lfA Z1e (row:=[.int .i64 s0,.int .i64 s1,.int .i64 s2,.int .i64 s3]) (Z4k hsk) rfl) rfl (alc rfl Z2m rfl (fun b10=>?_)))))))
 refine sto rfl rfl rfl Z3k rfl rfl rfl rfl ?_
 refine Zd [0,1,3,7,0,0,63] (.ld 0 (.tk 1 (.tk 2 (.ld 3 (.ld 4 (.tk 5 (.big 6 .done))))))) Zq (by kernel_rfl) ?_
 refine ld rfl rfl (lh Z1w rfl rfl) rfl (tk rfl (PE.nilCheck rfl) rfl (tk rfl (PE.fA Z4J rfl) rfl (ld rfl rfl (lfB (sz:=18) Zan (Z3m hl4 hm4)) rfl (ld rfl rfl (lhA [_,_,_,_] Z1e rfl rfl rfl) rfl (Zm 1 rfl ?_)))))
 refine mpu kv2 [s0,s1,s2,s3] rfl Z7q (KeyT.of Z7h Z7r) rfl rfl rfl rfl hkl ?_
 refine bgT (sqr 2 rfl (sp rfl (PE.add rfl rfl (by omega)) rfl (pur 1 rfl ?_)))
 exact Z0e ⟨(k+1,kv2.put [s0,s1,s2,s3] (.int .i64 n)),by dsimp only;omega,KV.put_len rfl hkl,fun s hs=>by
   dsimp only
   rw [KV.get_put,Z3L hsk,Z4B]
   by_cases h:[s0,s1,s2,s3]=s
   · rw [dT h,Bool.or_true];rfl
   · rw [dF h,Bool.or_false,cond_false];exact hkg s hs⟩ (by dsimp only;omega) sbA (fun w h=>h.del b10)
 obtain rfl:k=((b.dsk.alive n).filter fun s=>!b.dsk.helped (b.dsk.alive n) s).length:=by omega
 rw [List.take_length] at hkg
 have hkv2:KvOk b.dsk (n+1) kv2:=⟨hkl,fun s hs=>by rw [hkg s hs,b.dsk.lvl_step hs hn5]⟩
 refine Z8 (Za (Za (Zn (sqr 2 rfl (pur 1 rfl ?_)))))
 refine Z03 (l':=[p6.fs]) rfl rfl rfl ZgR rfl (by rw [p6.cells.1];first | done | rfl) (by rw [p6.cells.1];simp [p6.cells.2]) (by rw [p6.cells.1];first | done | rfl) (by rw [p6.cells.1];first | done | exact Nat.le_refl _) ?_
 refine sqr 3 rfl (pur 1 rfl (sp rfl (PE.add rfl rfl (by omega)) rfl (pur 1 rfl ?_)))
 exact Zb ⟨⟨(n+1,kv2),by dsimp only;omega,hkv2⟩,p6⟩ (fun w h=>(h.perm (Zy p6.G [_,_,_] _)).ftail.ftail)
theorem ZiJ:cal Tryz.prog 39=true:=by kernel_rfl
theorem ZiK:cal Tryz.prog 40=true:=by kernel_rfl
theorem Barn.state_inS {b:Barn} (hb:b.ok):b.dsk.inS b.state where
 len:=(b.state_sml hb).len
 at_ k hk:=by
   obtain ⟨x,hx⟩:∃ x,b.bins[k]?=some x:=⟨_,List.getElem?_eq_getElem hk⟩
   have hm:=List.mem_of_getElem? hx
   have h1:na b.state k=_:=Z1f (b.map_get hb _ hx)
   have h2:na b.most k=_:=Z1f (b.map_get hb _ hx)
   have h3:na b.lasts k=_:=Z1f (b.map_get hb _ hx)
   have h4:=((b.dsk_ok hb).ever k hk)
   have r1:=b.days_range hb hm (hb.bins x hm).2.1.1
   have r2:=b.days_range hb hm hb.cool.1
   show (na b.most k=1000000∧na b.state k=1000000)∨(na b.most k≠1000000∧0≤na b.state k∧na b.state k≤na b.most k)
   have h5:na b.lasts k=1000000↔na b.most k=1000000:=h4.2.2
   have z:∀ w,0≤w→(b.days x w=1000000↔b.worst x=0):=fun w hw=>by
     constructor
     · intro h
       rcases Classical.em (b.worst x=0) with h0 | h0
       · exact h0
       · have h9:=b.worst_range hb hm
         have h8:=(hb.bins x hm).1
         unfold Barn.days Z09 at h
         rw [decide_eq_false h0,cond_false] at h
         by_cases h3:x.mark<w
         · rw [decide_eq_true h3,cond_true] at h;omega
         · rw [decide_eq_false h3,cond_false] at h
           have:(x.mark-w) / b.worst x<11:=Int.ediv_lt_of_lt_mul (by omega) (by omega)
           omega
     · intro h;unfold Barn.days Z09;rw [h];rfl
   have z1:=z _ (hb.bins x hm).2.1.1
   have z2:=z _ hb.cool.1
   rw [h1,h2]
   rw [h3,h2] at h5
   by_cases h0:b.worst x=0
   · have:=z1.2 h0;have:=z2.2 h0;omega
   · have:¬ b.days x x.warm=1000000:=fun h=>h0 (z1.1 h)
     have:¬ b.days x b.cool=1000000:=fun h=>h0 (z2.1 h)
     omega
 out k hk hk':=by
   have:(pad (b.bins.map fun x=>b.days x x.warm))[k]?=some 0:=Z7t (by rw [List.length_map];exact hk') hk
   exact Z1f this
theorem Barn.state_sts {b:Barn} (hb:b.ok):b.state∈b.dsk.sts:=(b.dsk.mem_sts (b.dsk_ok hb) _).2 (b.state_inS hb)
def Zil (b:Barn):Value→Prop:=fun v=>(b.check≠0∧v = .tuple #[.int .i64 0,.int .i64 b.check])∨(b.check=0∧∃ w,Kpt b.dsk b.state w∧v = .tuple #[.int .i64 w,.int .i64 0])
def Barn.withG (b:Barn) (g:Int):Barn:={ b with gangs:=g }
def Barn.ends (b:Barn) (g:Nat):Prop:=∃ w,w≠1000000∧Kpt (b.withG g).dsk b.state w
def ZeW (b:Barn):Value→Prop:=fun v=>(b.check≠0∧v = .tuple #[.int .i64 0,.int .i64 b.check])∨(b.check=0∧((∃ g:Nat,g≤b.bins.length∧(∀ j<g,b.ends j)∧Kpt (b.withG g).dsk b.state 1000000∧v = .tuple #[.int .i64 g,.int .i64 0])∨((∀ j,j≤b.bins.length→b.ends j)∧v = .tuple #[.int .i64 0,.int .i64 6])))
theorem Z8D (b:Barn) (ab:Option Addr) (cb:Nat) (hl:b.bins.length≤9223372036854775807) (hr:b.rise.length=6) (H:Z7) (R:Z4) [hB:MemRows ab 4 (Zt b.bins) R] :
    Fn Tryz.prog 14 [b.v (b.sl ab cb)] H R (fun v H' R'=>Zil b v∧H'=H∧R'=R):=by
 refine Z9 Tryz.func14 rfl Tryz.ntmps14 rfl ?_
 refine sqt 3 rfl (bx rfl rfl rfl (fun b1=>pur 2 rfl (sqt 7 rfl (spL rfl rfl (lhA (btl b (b.sl ab cb)) Z3U rfl rfl rfl) rfl ?_))))
 refine cl rfl ZiJ rfl rfl (Z23 b ab cb hl hr _ _) ?_
 rintro _ _ _ (⟨hck,rfl,rfl,rfl⟩ | ⟨hck,bd,m,rfl,rfl,rfl⟩)
 refine pur 5 rfl (Z0 (sqt 2 rfl (pur 2 rfl ?_)))
 refine Z00 (congrArg (fun b=>some (Value.bool b)) (dT hck)) ?_
 refine sqt 3 rfl (pur 3 rfl (Z5 ?_))
 exact rtB rfl rfl rfl rfl ⟨.inl ⟨hck,rfl⟩,rfl,rfl⟩ drp
 have hok:=Barn.ok_of hr hck
 have hdk:=b.dsk_ok hok
 have hl4:=hdk.lasts.len
 have hm4:=hdk.most.len
 refine pur 5 rfl (Z0 (sqt 2 rfl (pur 2 rfl ?_)))
 refine ZD (rfl) ?_
 refine Z3 (sqt 2 rfl (pur 1 rfl ?_))
 refine cl rfl ZiK rfl rfl (Zfn b hok ab cb bd m _ _) ?_
 rintro v _ _ ⟨n,kv,hn,hfx,hkv,rfl,rfl⟩
 have hks:=Zhr (b.state_sts hok) hn hfx
 have hkg:=hkv.get _ (b.state_sts hok)
 refine Z0 ?_
 refine Zd [0,1,3,7,0,16,63,127,255] (tks 0 3 (.ld 3 (.ld 4 (.big 5 (.ld 6 (.tk 7 (.tk 8 .done))))))) Zq (by kernel_rfl) ?_
 refine Zm 1 rfl (tk rfl (PE.nilCheck rfl) rfl (tk rfl (PE.fA Z4J rfl) rfl (ld rfl rfl (lfB (sz:=18) Zan (Z3m hl4 hm4)) rfl (ld rfl rfl (lhA (btl b (b.sl ab cb)) Z3U rfl rfl rfl) rfl ?_))))
 refine clV rfl Zdu rfl rfl (Z6m b ab cb hok _ _) ?_
 refine bg (fun w hs=>⟨trivial,(lfB (sz:=18) Zan (Z3m hl4 hm4)) w hs,trivial⟩) ?_
 refine ldK rfl rfl rfl ((Z6G (b:=true) kv b.state Z7q (KeyT.of Z7h Z7r) (Z0q zv3) (b.state_sml hok).len hkv.len false)) rfl ?_
 rw [hkg]
 refine Zm 2 rfl (Z5 ?_)
 exact rtB rfl rfl rfl rfl ⟨.inr ⟨hck,_,hks,rfl⟩,rfl,rfl⟩ (fun w h=>((h.del b1).del m).ftail)
structure PL where
 a:Option Addr
 c:Nat
 l:List Int
def Inn (l:List PL) (w:World):Prop:=∀ x∈l,RowsA x.a 1 (irows x.l) w
theorem Z1s {l:List Int} {k:Nat} {x:Int} (h:l[k]?=some x):(irows l)[k]?=some [.int .i64 x]:=by simp [h]
theorem Z3A (l:List Int):(irows l).length=l.length:=List.length_map _
def ZhT:List Int→Bool
 | x::y::l=>decide (x<y)&&ZhT (y::l)
 | _=>true
def Z7a (n g:Int) (l:List Int):Int:=bif !(l.all fun k=>inB k 0 (n-1)) then 1 else bif !(ZhT l) then 4 else bif decide (g<(l.length:Int)) then 9 else 0
def Z4C (n g:Int):List (List Int)→Int
 | []=>0
 | l::p=>bif decide (Z7a n g l=0) then Z4C n g p else Z7a n g l
def Z3F (n g:Int) (p:List (List Int)):Int:=bif decide (20000<p.length) then 2 else Z4C n g p
theorem Z7C:∀ {l:List Int},(∀ i x y,l[i]?=some x→l[i+1]?=some y→x<y)→ZhT l=true
 | [],_=>rfl
 | [a],_=>rfl
 | a::b::l,h=>by
   unfold ZhT
   rw [decide_eq_true (h 0 a b rfl rfl),Bool.true_and]
   exact Z7C fun i x y hx hy=>h (i+1) x y (by simpa using hx) (by simpa using hy)
def Barn.wd (b:Barn) (x:HBin) (w:Int) (t:Bool):Int:=(bif t then min w b.cool else w)+b.worst x
def ZaK (l:List Int) (k:Int):Bool:=l.any fun y=>decide (k=y)
def hb0:HBin:=⟨0,0,0,0⟩
def Barn.wdAt (b:Barn) (ws l:List Int) (k:Nat):Int:=b.wd (b.bins.getD k hb0) (na ws k) (ZaK l k)
def Barn.hotAt (b:Barn) (ws l:List Int) (k:Nat):Bool:=decide ((b.bins.getD k hb0).mark<b.wdAt ws l k)
def Barn.dayW (b:Barn) (ws l:List Int):List Int:=(List.range b.bins.length).map (b.wdAt ws l)
def Barn.burnsF (b:Barn):List Int→List (List Int)→Nat→Option (Nat×Nat)×List Int
 | ws,[],_=>(none,ws)
 | ws,l::p,d=>match (List.range b.bins.length).find? (b.hotAt ws l) with
   | some k=>(some (d,k),ws)
   | none=>b.burnsF (b.dayW ws l) p (d+1)
def Barn.warms (b:Barn):List Int:=b.bins.map (·.warm)
structure Cool (b:Barn) (ws:List Int):Prop where
 len:ws.length=b.bins.length
 at_:∀ k x,b.bins[k]?=some x→0≤na ws k∧na ws k≤x.mark
theorem Barn.dayW_len (b:Barn) (ws l:List Int):(b.dayW ws l).length=b.bins.length:=by simp [Barn.dayW]
theorem Barn.dayW_at {b:Barn} {ws l:List Int} {k:Nat} (hk:k<b.bins.length):(b.dayW ws l)[k]?=some (b.wdAt ws l k):=by unfold Barn.dayW;rw [List.getElem?_map,List.getElem?_range hk];rfl
theorem Z0v {b:Barn} {k:Nat} {x:HBin} (hx:b.bins[k]?=some x):b.bins.getD k hb0=x:=by rw [List.getD_eq_getElem?_getD,hx];rfl
theorem Barn.wdAt_of {b:Barn} {ws l:List Int} {k:Nat} {x:HBin} (hx:b.bins[k]?=some x):b.wdAt ws l k=b.wd x (na ws k) (ZaK l k):=by unfold Barn.wdAt;rw [Z0v hx]
theorem Cool.start {b:Barn} (hb:b.ok):Cool b b.warms where
 len:=List.length_map _
 at_ k x hx:=by
   have h:=(hb.bins x (List.mem_of_getElem? hx)).2.1
   have e:na b.warms k=x.warm:=by unfold na Barn.warms;rw [List.getD_eq_getElem?_getD,List.getElem?_map,hx];rfl
   rw [e];exact h
theorem Cool.next {b:Barn} (hb:b.ok) {ws l:List Int} (h:Cool b ws) (hn:∀ k<b.bins.length,b.hotAt ws l k=false):Cool b (b.dayW ws l) where
 len:=b.dayW_len _ _
 at_ k x hx:=by
   have hk:=(List.getElem?_eq_some_iff.1 hx).1
   have e:na (b.dayW ws l) k=b.wdAt ws l k:=Z1f (b.dayW_at hk)
   have h1:=of_decide_eq_false (hn k hk)
   rw [Z0v hx] at h1
   have h2:=h.at_ k x hx
   have h3:=b.worst_range hb (List.mem_of_getElem? hx)
   have h4:=hb.cool
   rw [e]
   refine ⟨?_,by omega⟩
   rw [b.wdAt_of hx]
   unfold Barn.wd
   cases ZaK l k<;>simp only [cond_true,cond_false]<;>omega
def Barn.planned (b:Barn) (p:List (List Int)):Int:=bif decide (b.check=0) then Z3F b.bins.length b.gangs p else b.check
theorem Z1i (l:List HBin):(Zt l).length=l.length:=List.length_map _
theorem Z8A (l:List HBin):∀ q∈Zt l,q.length=4:=fun q hq=>by obtain ⟨x,_,rfl⟩:=List.mem_map.1 hq;rfl
theorem Z6c (l:List HBin):(Zt l).flatten.length=l.length*4:=by rw [ZH (Z8A l),Z1i]
theorem Zat {p q s vs:List Value} (h:q.length=vs.length):spl (p++(q++s)) p.length vs=p++(vs++s):=by
 unfold spl
 rw [List.take_left,show p.length+vs.length=(p++q).length by simp [h],← List.append_assoc p q s,List.drop_left,List.append_assoc]
theorem Zh0 {α:Type} {xs:List α} {i:Nat} (hi:i<xs.length):∃ A y B,xs=A++y::B∧i=A.length:=⟨xs.take i,xs[i],xs.drop (i+1),by rw [← List.drop_eq_getElem_cons hi,List.take_append_drop],by rw [List.length_take];omega⟩
theorem Z37 (A B:List HBin):Zt (A++B)=Zt A++Zt B:=by simp [Zt]
theorem Zd7 {l:List HBin} {k i:Nat} {x:HBin} (hx:l[k]?=some x) (v:Int) (e:i=k*4):spl (Zt l).flatten i [.int .i64 v]=(Zt (l.set k { x with warm:=v })).flatten:=by
 obtain ⟨A,y,B,rfl,rfl⟩:=Zh0 (List.getElem?_eq_some_iff.1 hx).1
 have:y=x:=by simpa using hx
 subst this
 subst e
 rw [List.set_append_right _ _ (Nat.le_refl _),Nat.sub_self,List.set_cons_zero]
 rw [Z37,Z37,List.flatten_append,List.flatten_append,← Z6c A]
 exact Zat (p:=(Zt A).flatten) (q:=[.int .i64 y.warm]) (s:=[.int .i64 y.mark,.int .i64 y.lo,.int .i64 y.hi]++(Zt B).flatten) (vs:=[.int .i64 v]) rfl
def Barn.withB (b:Barn) (l:List HBin):Barn:={ b with bins:=l }
def ZK (l:List HBin) (ws:List Int):List HBin:=List.zipWith (fun (x:HBin) (w:Int)=>{ x with warm:=w }) l ws
def Zi3:Barn:=⟨0,0,[0,0,0,0,0,0],[]⟩
theorem Z2k {l:List HBin} {ws:List Int} {k:Nat} {x:HBin} {w:Int} (hx:l[k]?=some x) (hw:ws[k]?=some w):(ZK l ws)[k]?=some { x with warm:=w }:=by
 unfold ZK;rw [List.getElem?_zipWith,hx,hw]
theorem Z0F {l:List HBin} {ws:List Int} (h:ws.length=l.length):(ZK l ws).length=l.length:=by unfold ZK;rw [List.length_zipWith,h,Nat.min_self]
def wst (c r k:Int):Int→List (List Int)→Int
 | w,[]=>w
 | w,l::p=>wst c r k ((bif ZaK l k then min w c else w)+r) p
def sprow (x:Int×Int):List Value:=[.int .i64 x.1,.int .i64 x.2]
def sprows (l:List (Int×Int)):List (List Value):=l.map sprow
theorem Barn.burns_cons {b:Barn} (l:List Int) (p:List (List Int)) (ws:List Int) (d:Nat):b.burnsF ws (l::p) d=match (List.range b.bins.length).find? (b.hotAt ws l) with
 | some k=>(some (d,k),ws)
 | none=>b.burnsF (b.dayW ws l) p (d+1):=rfl
theorem Barn.burns_app {b:Barn}:∀ (p q:List (List Int)) (ws:List Int) (d:Nat),b.burnsF ws (p++q) d=match b.burnsF ws p d with
   | (some x,w)=>(some x,w)
   | (none,w)=>b.burnsF w q (d+p.length)
 | [],q,ws,d=>rfl
 | l::p,q,ws,d=>by
   rw [List.cons_append,b.burns_cons,b.burns_cons]
   cases (List.range b.bins.length).find? (b.hotAt ws l) with
   | some k=>rfl
   | none =>
     dsimp only
     rw [burns_app p q _ (d+1),List.length_cons,show d+1+p.length=d+(p.length+1) by omega]
def rep (n:Nat) (p:List (List Int)):List (List Int):=(List.replicate n p).flatten
def Barn.goes (b:Barn) (p q:List (List Int)):Prop:=∀ n,(b.burnsF b.warms (p++rep n q) 0).1=none
def Z3y (b:Barn) (p q:List (List Int)):Int:=bif decide (b.planned p=0) then (bif decide (Z3F b.bins.length b.gangs q=0) then (bif decide (q.length=0) then 6 else 0) else Z3F b.bins.length b.gangs q) else b.planned p
def Zik (b:Barn) (p q:List (List Int)):Value→Prop:=fun v=>(Z3y b p q≠0∧v = .tuple #[.bool false,.int .i64 (Z3y b p q)])∨(Z3y b p q=0∧∃ is:Bool,(is=true↔b.goes p q)∧v = .tuple #[.bool is,.int .i64 0])
theorem Z34 {b:Barn} (hb:b.ok) {ws:List Int} (hc:Cool b ws):(b.withB (ZK b.bins ws)).ok:=by
 have hl:=Z0F hc.len
 have key:∀ x∈ZK b.bins ws,∃ y∈b.bins,∃ w,x={ y with warm:=w }∧0≤w∧w≤y.mark:=fun x hx=>by
   obtain ⟨k,hk⟩:=List.getElem?_of_mem hx
   have hk1:k<b.bins.length:=by rw [← hl];exact (List.getElem?_eq_some_iff.1 hk).1
   obtain ⟨y,hy⟩:∃ y,b.bins[k]?=some y:=⟨_,List.getElem?_eq_getElem hk1⟩
   have hw:ws[k]?=some (na ws k):=na_get (by rw [hc.len];exact hk1)
   rw [Z2k hy hw] at hk
   cases hk
   exact ⟨y,List.mem_of_getElem? hy,_,rfl,hc.at_ k y hy⟩
 refine ⟨hb.len,by show 1≤(ZK b.bins ws).length∧(ZK b.bins ws).length≤4;rw [hl];exact hb.many,hb.cool,hb.gangs,hb.rise,fun x hx=>?_,hb.srt,fun x hx=>?_⟩
 · obtain ⟨y,hy,w,rfl,h1,h2⟩:=key x hx
   have:=hb.bins y hy
   exact ⟨this.1,⟨h1,h2⟩,this.2.2⟩
 · obtain ⟨y,hy,w,rfl,_⟩:=key x hx
   exact hb.ord y hy
theorem Z4z {b:Barn} (hb:b.ok) (hg:b.gangs≤3):b.check=0:=by
 unfold Barn.check
 have h1:inB b.bins.length 1 4=true:=by have:=hb.many;simp [inB];omega
 have h2:inB b.cool 0 60=true:=by have:=hb.cool;simp [inB];omega
 have h3:inB b.gangs 0 3=true:=by have:=hb.gangs;simp [inB];omega
 have h4:b.rise.all Z1I=true:=List.all_eq_true.2 fun n hn=>by have:=hb.rise n hn;simp [Z1I,inB];omega
 have h5:b.bins.all HBin.ok=true:=List.all_eq_true.2 fun x hx=>by have:=hb.bins x hx;simp [HBin.ok,inB];omega
 have h6:(b.bins.all fun x=>decide (x.lo≤x.hi))=true:=List.all_eq_true.2 fun x hx=>by simpa using hb.ord x hx
 rw [h1,h2,h3,h4,h5,h6,hb.srt];rfl
theorem Z3j {b:Barn} (h:b.check=0):b.gangs≤3:=by
 unfold Barn.check at h
 simp only [Bool.cond_eq_ite] at h
 split at h<;>try (exact absurd h (by decide))
 split at h<;>try (exact absurd h (by decide))
 rename_i h1 h2
 simp only [Bool.not_eq_true',Bool.not_eq_true,Bool.or_eq_true,not_or,Bool.not_eq_false',Bool.not_eq_false,inB,Bool.and_eq_true,decide_eq_true_eq] at h2
 omega
theorem Z8C {b:Barn} {ws:List Int} {p q:List (List Int)} {d:Nat} (h:(b.burnsF ws (p++q) d).1=none):(b.burnsF ws p d).1=none:=by
 rw [b.burns_app] at h
 cases h1:b.burnsF ws p d with
 | mk x w=>cases x with
   | none=>rfl
   | some x=>rw [h1] at h;cases h
def Z7z (l:List Nat):Nat:=l.foldl (fun o k=>o|||(1*2 ^ k)) 0
theorem Z7A:∀ (l:List Nat) (o j:Nat),(l.foldl (fun o k=>o|||(1*2 ^ k)) o).testBit j=(o.testBit j||decide (j∈l))
 | [],o,j=>by simp
 | k::l,o,j=>by
   rw [List.foldl_cons,Z7A l,Nat.testBit_or,Nat.one_mul,Nat.testBit_two_pow]
   by_cases h:k=j
   · subst h;simp
   · have h':¬ j=k:=fun e=>h e.symm
     simp [h,h']
theorem Z53 (l:List Nat) (j:Nat):(Z7z l).testBit j=decide (j∈l):=by unfold Z7z;rw [Z7A];simp
theorem Zek {l:List Nat} {m:Nat} (h:∀ k∈l,k<m):Z7z l<2 ^ m:=by
 apply Nat.lt_pow_two_of_testBit
 intro i hi
 rw [Z53]
 have:i∉l:=fun hm=>by have:=h i hm;omega
 simpa using this
theorem Z36 {s K:Nat} (h:s<2 ^ K):∀ j,ZR (K+j) s=ZR K s
 | 0=>rfl
 | j+1=>by
   rw [show K+(j+1)=(K+j)+1 from rfl,Z5j,Z36 h j,Nat.testBit_lt_two_pow (Nat.lt_of_lt_of_le h (Nat.pow_le_pow_right (by decide) (by omega)))]
   exact List.append_nil _
theorem Z8x {s K n:Nat} (h:s<2 ^ K) (h':s<2 ^ n):ZR K s=ZR n s:=by
 rcases Nat.le_total K n with h1 | h1
 · obtain ⟨j,rfl⟩:∃ j,n=K+j:=⟨n-K,by omega⟩
   exact (Z36 h j).symm
 · obtain ⟨j,rfl⟩:∃ j,K=n+j:=⟨K-n,by omega⟩
   exact Z36 h' j
theorem Z8y {n i:Nat}:ZR n (Z7z (ZR n i))=ZR n i:=by
 unfold ZR
 refine List.filter_congr fun k hk=>?_
 rw [Z53]
 have hk:=List.mem_range.1 hk
 have:(k∈(List.range n).filter fun k=>i.testBit k)↔i.testBit k=true:=by rw [List.mem_filter,List.mem_range];simp [hk]
 by_cases h:i.testBit k=true
 · rw [h];simpa using this.2 h
 · have h2:i.testBit k=false:=by simpa using h
   rw [h2];simpa using fun hm=>h (this.1 hm)
abbrev MW:=List (HSt×List Int)
def zw:List Int:=[0,0,0,0,0,0]
def Z1R (m:MW) (s:HSt):Option (List Int):=(m.find? fun e=>decide (e.1=s)).map (·.2)
def ZeQ:MW→HSt→List Int→MW
 | [],k,v=>[(k,v)]
 | (k',v')::l,k,v=>bif decide (k'=k) then (k,v)::l else (k',v')::ZeQ l k v
theorem Z3D:∀ (m:MW) (k:HSt) (v:List Int) (s:HSt),Z1R (ZeQ m k v) s=bif decide (k=s) then some v else Z1R m s
 | [],k,v,s=>by
   unfold ZeQ Z1R
   rw [List.find?_cons]
   dsimp only
   cases decide (k=s)<;>rfl
 | (k',v')::m,k,v,s=>by
   have ih:=Z3D m k v s
   unfold ZeQ
   by_cases h:k'=k
   · subst h
     rw [decide_eq_true rfl,cond_true]
     unfold Z1R
     rw [List.find?_cons,List.find?_cons]
     dsimp only
     cases decide (k'=s)<;>rfl
   · rw [decide_eq_false h,cond_false]
     unfold Z1R at ih ⊢
     rw [List.find?_cons,List.find?_cons]
     dsimp only
     by_cases h2:k'=s
     · subst h2
       rw [decide_eq_true rfl,decide_eq_false (fun e=>h e.symm)];rfl
     · rw [decide_eq_false h2];exact ih
def ZeT (m:MW) (e:HSt×List Int):MW:=bif decide ((Z1R m e.1).getD zw=zw)||decide (na e.2 5<na ((Z1R m e.1).getD zw) 5) then ZeQ m e.1 e.2 else m
def Zjt (d:Dsk) (s:HSt) (c:Int) (l:List Nat):Option (HSt×List Int):=(d.next s l).map fun t=>(t,s++[(Z7z l:Int),c+(l.length:Int)])
def Zkb (d:Dsk) (m:MW) (s:HSt) (j:Nat):List (HSt×List Int):=match Z1R m s with
 | none=>[]
 | some w=>((d.trs false).take j).filterMap (Zjt d s (na w 5))
def evW (d:Dsk) (m:MW) (s:HSt):List (HSt×List Int):=Zkb d m s (d.trs false).length
def Zku (d:Dsk) (m:MW) (k:Nat):MW:=((d.sts.take k).flatMap (evW d m)).foldl ZeT []
def Z2Y (d:Dsk) (s0:HSt):Nat→MW
 | 0=>[(s0,zw)]
 | i+1=>Zku d (Z2Y d s0 i) d.nst
theorem ZbZ {d:Dsk} (hd:d.ok) {full:Bool} {l:List Nat} (h:l∈d.trs full):l.length≤4:=by
 obtain ⟨i,_,rfl⟩:=List.mem_map.1 (List.mem_filter.1 h).1
 have:=Z1A d.n i
 have:=hd.n
 omega
def ZaU (m:MW) (acc:Option (HSt×Int)) (s:HSt):Option (HSt×Int):=match Z1R m s with
 | none=>acc
 | some w=>match acc with
   | none=>some (s,na w 5)
   | some (t,n)=>bif decide (na w 5<n) then some (s,na w 5) else some (t,n)
def Z4s (d:Dsk) (m:MW) (k:Nat):Option (HSt×Int):=(d.sts.take k).foldl (ZaU m) none
def Z21 (d:Dsk) (s0:HSt):Nat→HSt→List (List Nat)
 | 0,_=>[]
 | j+1,s=>Z21 d s0 j (((Z1R (Z2Y d s0 (j+1)) s).getD zw).take 4)++[ZR 4 (na ((Z1R (Z2Y d s0 (j+1)) s).getD zw) 4).toNat]
def MsOk (d:Dsk) (s0:HSt) (ms:List (Nat×MW)) (n:Nat):Prop:=ms.length=n∧∀ j<n,∃ x,ms[j]?=some (x,Z2Y d s0 j)
def bN (a:Option (HSt×Int)):Int:=match a with
 | none=>0
 | some p=>p.2
def bS (a:Option (HSt×Int)):HSt:=match a with
 | none=>[0,0,0,0]
 | some p=>p.1
theorem MsOk.start (d:Dsk) (s0:HSt) (x:Nat):MsOk d s0 [(x,[(s0,zw)])] 1:=⟨rfl,fun j hj=>by
 obtain rfl:j=0:=by omega
 exact ⟨x,rfl⟩⟩
def Z5S (b:Barn) (days:Int):Int:=bif decide (b.check=0) then (bif !(inB days 0 20) then 3 else (bif (Z4s b.dsk (Z2Y b.dsk b.state days.toNat) b.dsk.nst).isNone then 6 else 0)) else b.check
def Z68 (b:Barn) (days:Int):Int:=bif decide (Z5S b days=0) then bN (Z4s b.dsk (Z2Y b.dsk b.state days.toNat) b.dsk.nst) else 0
def ZcN (b:Barn) (days:Int):List (List Int):=(Z21 b.dsk b.state days.toNat (bS (Z4s b.dsk (Z2Y b.dsk b.state days.toNat) b.dsk.nst))).map il
theorem Zis:apT Tryz.prog 24=some (36,4,32):=by kernel_rfl
def nin (n lo hi:Int):Bool:=decide (n<lo)||decide (hi<n)
theorem ZhB (n lo hi:Int):nin n lo hi=!(inB n lo hi):=by
 unfold nin inB
 rw [Bool.not_and]
 congr 1
 · rw [← decide_not];exact decide_eq_decide.2 (by omega)
 · rw [← decide_not];exact decide_eq_decide.2 (by omega)
theorem Z8K (xs:List HBin) (a:Option Addr) (c:Nat) (hl:xs.length≤1000000) (H:Z7) (R:Z4) [hR:MemRows a 4 (Zt xs) R] :
    Fn Tryz.prog 7 [.slice a xs.length c] H R (fun v H' R'=>∃ o:OSl 36 4 (Zt xs),v=o.fs∧o.here∧H'=o.G++H∧R'=R):=by
 refine Z9 Tryz.func7 rfl Tryz.ntmps7 rfl ?_
 refine sqt 1 rfl (pur 1 rfl (sqt 6 rfl (pur 1 rfl (sp rfl (PE.lenSl Z1E rfl) rfl ?_))))
 refine mkO rfl Zis ZeJ rfl rfl ⟨by omega,by omega⟩ rfl (fun o ho=>?_)
 refine pur 1 rfl ?_
 refine Zi9 (news:=Zt xs) o rfl Zis rfl rfl (ZbD) (by simp [Zt]) (by simp [Z0H,Zt,Z3W,Value.oneCell']) ⟨by simp [Zt];omega,by simp [Zt];omega⟩ rfl ho (fun o2 ho2=>?_)
 refine pur 1 rfl (Z5 ?_)
 exact rtA rfl rfl rfl ⟨o2.cast (by simp),rfl,ho2,rfl,rfl⟩ idH
structure CkA (b:Barn):Prop where
 many:nin (b.bins.length:Int) 1 4=false
 cool:nin b.cool 0 60=false
 gangs:nin b.gangs 0 3=false
theorem CkA.rest {b:Barn} (h:CkA b) (hr:b.rise.all Z1I=true) (hb:b.bins.all HBin.ok=true):b.check=bif !(srt b.rise)||!(b.bins.all fun x=>decide (x.lo≤x.hi)) then 4 else 0:=by
 have h1:=h.many;have h2:=h.cool;have h3:=h.gangs
 unfold Barn.check;rw [ZhB] at h1 h2 h3;rw [h1,h2,h3,hr,hb];rfl
theorem ZcR {l:List Int} (h:srt l=true) {i:Nat}:∀ {j:Nat},i≤j→j<l.length→na l i≤na l j
 | 0, hij, hj => by obtain rfl : i = 0 := by omega
                    exact Int.le_refl _
 | j+1,hij,hj=>by
   rcases Nat.lt_or_ge j i with h1 | h1
   · obtain rfl:i=j+1:=by omega
     exact Int.le_refl _
   · have ih:=ZcR h (j:=j) h1 (by omega)
     have:¬ (na l (j+1)<na l j):=fun hlt=>by
       have:=Za3 (na_get (by omega)) (na_get hj) hlt
       rw [h] at this;cases this
     omega
def Barn.binD (b:Barn) (k:Nat):HBin:=b.bins.getD k hb0
def Zid (b:Barn) (p:List (List Int)) (k:Nat) (c:Int) (d:Nat):Prop:=(b.binD k).mark<wst b.cool (na b.rise c.toNat) k (b.binD k).warm (p.take (d+1))
structure Bst (S:Nat→Nat→Prop) (q:Nat×Nat×Bool):Prop where
 no:q.2.2=false→q.1=0∧q.2.1=0∧∀ k d,¬ S k d
 yes:q.2.2=true→S q.2.1 q.1∧∀ k d,S k d→q.1<d∨(q.1=d∧q.2.1≤k)
theorem Bst.iff {S S':Nat→Nat→Prop} {q:Nat×Nat×Bool} (h:Bst S q) (e:∀ k d,S' k d↔S k d):Bst S' q:=by
 have:S'=S:=by funext k d;exact propext (e k d)
 exact this▸h
theorem Bst.add {S S':Nat→Nat→Prop} {q:Nat×Nat×Bool} {k e:Nat} (h:Bst S q) (hS:∀ j d,S' j d↔S j d∨(j=k∧d=e)) (hq:q.2.2=false∨e<q.1):Bst S' (e,k,true) where
 no h:=by cases h
 yes _:=⟨(hS _ _).2 (.inr ⟨rfl,rfl⟩),fun j d hj=>by
   rcases (hS j d).1 hj with h1 | ⟨rfl,rfl⟩
   · cases hb:q.2.2 with
     | false=>exact absurd h1 ((h.no hb).2.2 j d)
     | true =>
       have:=(h.yes hb).2 j d h1
       rcases hq with hq | hq
       · rw [hb] at hq;cases hq
       · exact .inl (by show e<d;omega)
   · exact .inr ⟨rfl,Nat.le_refl _⟩⟩
theorem Bst.keep {S S':Nat→Nat→Prop} {q:Nat×Nat×Bool} {k e:Nat} (h:Bst S q) (hle:∀ j d,S j d→j≤k) (hS:∀ j d,S' j d↔S j d∨(j=k∧d=e)) (hq:q.2.2=true) (hq2:¬ e<q.1):Bst S' q where
 no h:=by rw [hq] at h;cases h
 yes _:=by
   obtain ⟨h1,h2⟩:=h.yes hq
   refine ⟨(hS _ _).2 (.inl h1),fun j d hj=>?_⟩
   rcases (hS j d).1 hj with h3 | ⟨rfl,rfl⟩
   · exact h2 j d h3
   · have:=hle _ _ h1
     omega
def Zb0 (b:Barn) (p:List (List Int)):Nat×Nat×Bool:=match (b.burnsF b.warms p 0).1 with
 | none=>(0,0,false)
 | some (d,k)=>(d,k,true)
def SA (b:Barn) (p:List (List Int)) (k:Nat):Nat→Nat→Prop:=fun j d=>j<k∧d<p.length∧∃ c,(b.binD j).lo≤c∧c≤(b.binD j).hi∧Zid b p j c d
def SB (b:Barn) (p:List (List Int)) (k:Nat) (c:Int):Nat→Nat→Prop:=fun j d=>SA b p k j d∨(j=k∧d<p.length∧∃ c',(b.binD k).lo≤c'∧c'<c∧Zid b p k c' d)
def SC (b:Barn) (p:List (List Int)) (k:Nat) (c:Int) (e:Nat):Nat→Nat→Prop:=fun j d=>SB b p k c j d∨(j=k∧d<e∧Zid b p k c d)
theorem SA.start {b:Barn} {p:List (List Int)}:Bst (SA b p 0) (0,0,false):=⟨fun _=>⟨rfl,rfl,fun k d h=>by have:=h.1;omega⟩,fun h=>by cases h⟩
theorem SB.start {b:Barn} {p:List (List Int)} {k:Nat} {c:Int} (hc:c=(b.binD k).lo) {q:Nat×Nat×Bool} (h:Bst (SA b p k) q):Bst (SB b p k c) q:=h.iff fun j d=>by
 constructor
 · rintro (h1 | ⟨_,_,c',h1,h2,_⟩)
   · exact h1
   · omega
 · exact .inl
theorem SC.start {b:Barn} {p:List (List Int)} {k:Nat} {c:Int} {q:Nat×Nat×Bool} (h:Bst (SB b p k c) q):Bst (SC b p k c 0) q:=h.iff fun j d=>by
 constructor
 · rintro (h1 | ⟨_,h1,_⟩)
   · exact h1
   · omega
 · exact .inl
theorem SC.le {b:Barn} {p:List (List Int)} {k:Nat} {c:Int} {e j d:Nat} (h:SC b p k c e j d):j≤k:=by
 rcases h with (h | h) | h
 · exact Nat.le_of_lt h.1
 · exact Nat.le_of_eq h.1
 · exact Nat.le_of_eq h.1
theorem SC.cold {b:Barn} {p:List (List Int)} {k:Nat} {c:Int} {e:Nat} {q:Nat×Nat×Bool} (h:Bst (SC b p k c e) q) (hn:¬ Zid b p k c e):Bst (SC b p k c (e+1)) q:=h.iff fun j d=>by
 constructor
 · rintro (h1 | ⟨h1,h2,h3⟩)
   · exact .inl h1
   · refine .inr ⟨h1,?_,h3⟩
     rcases Nat.lt_or_ge d e with h4 | h4
     · exact h4
     · obtain rfl:d=e:=by omega
       exact absurd h3 hn
 · rintro (h1 | ⟨h1,h2,h3⟩)
   · exact .inl h1
   · exact .inr ⟨h1,by omega,h3⟩
theorem SC.done {b:Barn} {p:List (List Int)} {k:Nat} {c:Int} (hc:(b.binD k).lo≤c) {q:Nat×Nat×Bool} (h:Bst (SC b p k c p.length) q):Bst (SB b p k (c+1)) q:=h.iff fun j d=>by
 constructor
 · rintro (h1 | ⟨h1,h2,c',h3,h4,h5⟩)
   · exact .inl (.inl h1)
   · rcases Int.lt_or_le c' c with h6 | h6
     · exact .inl (.inr ⟨h1,h2,c',h3,h6,h5⟩)
     · obtain rfl:c'=c:=by omega
       exact .inr ⟨h1,h2,h5⟩
 · rintro ((h1 | ⟨h1,h2,c',h3,h4,h5⟩) | ⟨h1,h2,h3⟩)
   · exact .inl h1
   · exact .inr ⟨h1,h2,c',h3,by omega,h5⟩
   · exact .inr ⟨h1,h2,c,hc,by omega,h3⟩
theorem SB.done {b:Barn} {p:List (List Int)} {k:Nat} {c:Int} (hc:c=(b.binD k).hi+1) {q:Nat×Nat×Bool} (h:Bst (SB b p k c) q):Bst (SA b p (k+1)) q:=h.iff fun j d=>by
 constructor
 · rintro ⟨h1,h2,c',h3,h4,h5⟩
   rcases Nat.lt_or_ge j k with h6 | h6
   · exact .inl ⟨h6,h2,c',h3,h4,h5⟩
   · obtain rfl:j=k:=by omega
     exact .inr ⟨rfl,h2,c',h3,by omega,h5⟩
 · rintro (⟨h1,h2,h3⟩ | ⟨rfl,h2,c',h3,h4,h5⟩)
   · exact ⟨by omega,h2,h3⟩
   · exact ⟨by omega,h2,c',h3,by omega,h5⟩
theorem Bst.bd {b:Barn} {p:List (List Int)} {k:Nat} {c:Int} {e:Nat} {q:Nat×Nat×Bool} (h:Bst (SC b p k c e) q) (he:e≤p.length):q.1≤p.length∧q.2.1≤k:=by
 cases hb:q.2.2 with
 | false=>obtain ⟨h1,h2,_⟩:=h.no hb;omega
 | true =>
   have h1:=(h.yes hb).1
   refine ⟨?_,SC.le h1⟩
   rcases h1 with (h1 | h1) | h1
   · exact Nat.le_of_lt h1.2.1
   · exact Nat.le_of_lt h1.2.1
   · omega
theorem St.blkRows {rows:List (List Value)} {sz bk e:Nat} {junk:List Value} {H:Z7} {R:Z4} {w:World} (hz:∀ r∈rows,r.length=sz) (hs:St ((bk,cel e (rows.flatten++junk))::H) R w) :
   St H (RowsA (some ⟨bk,0,none⟩) sz rows::R) w:=by
 have h1:=(St.freeze hs).also (f:=RowsA (some ⟨bk,0,none⟩) sz rows) (fun w' hw=>by
   have hb:=hw (fun w=>w.heap[bk]?=some (cel e (rows.flatten++junk))) (by simp)
   exact Z4e hb hz)
 exact h1.facts (fun g hg=>by rcases List.mem_cons.1 hg with h3 | h3<;>simp [h3])
theorem Zb1 {b:Barn} {p:List (List Int)} (h:(b.burnsF b.warms p 0).1=none):Zb0 b p=(0,0,false):=by unfold Zb0;rw [h]
theorem Zb2 {b:Barn} {p:List (List Int)} {q:Nat×Nat} (h:(b.burnsF b.warms p 0).1=some q):Zb0 b p=(q.1,q.2,true):=by unfold Zb0;rw [h]
theorem Z8B (b:Barn) (p:List (List Int)):(∃ ws,b.burnsF b.warms p 0=(none,ws)∧Zb0 b p=(0,0,false))∨∃ d k ws,b.burnsF b.warms p 0=(some (d,k),ws)∧Zb0 b p=(d,k,true):=by
 cases h:b.burnsF b.warms p 0 with
 | mk o ws=>cases o with
   | none=>exact .inl ⟨ws,rfl,Zb1 (by rw [h])⟩
   | some q=>exact .inr ⟨q.1,q.2,ws,rfl,Zb2 (by rw [h])⟩
end Go.Proofs.YthijcgkicjljhaaGreat.Ht
