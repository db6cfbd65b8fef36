/- Walks of the functions of the program, and the laws that join them: what the last theorem of this claim needs, in order. -/
import Derived.Test.YtcfdanhklbklkaaGreatTs4
namespace Go.Proofs.YtcfdanhklbklkaaGreat.Wv
set_option linter.unusedSimpArgs false
set_option linter.unusedVariables false
open Go
theorem ZdP:cal Tryz.prog 139=true:=by kernel_rfl
def Zko (h:Hse) (fr to_:List Int) (H:Z8) (R:Z4):Value→Z8→Z4→Prop:=fun v H' R'=>H'=H∧R'=R∧((h.botE fr to_≠0∧v = .tuple #[.int .i64 0,.int .i64 (h.botE fr to_)]) ∨
 (h.botE fr to_=0∧∃ s:Nat,s≤10∧(∃ n,Pl h.gaps (msk to_) s (msk fr) 0 n)∧(∀ s',s'<s→∀ n,¬ Pl h.gaps (msk to_) s' (msk fr) 0 n)∧v = .tuple #[.int .i64 (s:Int),.int .i64 0]))
theorem ZfH {h:Hse} {fr to_:List Int} {s:Nat} (hb:h.botE fr to_=0) (hs:s≤10):h.rcE fr to_ (s:Int)=0:=by
 have:inB (s:Int) 0 10=true:=by simp [inB];omega
 unfold Hse.rcE;rw [hb,this];rfl
theorem Z9I {h:Hse} {fr to_:List Int} (hb:h.Bot fr to_):Two h.gaps (msk fr) (msk to_):=by
 obtain ⟨q1,q2,q3,q4,q5,q6⟩:=Z1O hb
 have hok:=hb.ok
 exact ⟨fun g hg=>by have:=hok.gaps g hg;have:=hok.bins;omega,fun i g hg=>by have:=hok.gaps g (List.mem_of_getElem? hg);omega,msk_lt fun x hx=>q1 x hx,msk_lt fun x hx=>q2 x hx,fun v hv=>by
   cases hk:(msk to_).testBit v with
   | false=>rfl
   | true=>exact absurd ((ZN (fun k hk=>(q2 k hk).1) v).1 hk) (hb.no _ ((ZN (fun k hk=>(q1 k hk).1) v).1 hv))⟩
theorem Zcf {h:Hse} {fr to_:List Int} (hb:h.Bot fr to_):∃ n,Pl h.gaps (msk to_) 10 (msk fr) 0 n:=by
 have ht:=Z9I hb
 have hp:=Nat.two_pow_pos h.gaps.length
 exact ⟨_,Pl.once ht.w ht.s (show 2 ^ h.gaps.length-1<2 ^ h.gaps.length by omega) (Zdl ht) (Nat.le_trans (Z4a _ _) hb.ok.gl)⟩
set_option maxHeartbeats 400000 in
theorem ZeL (h:Hse) (ag as_:Option Addr) (cg cs:Nat) (hlg:h.gaps.length≤9223372036854775807) (hls:h.sights.length≤9223372036854775807) (fr to_:List Int) (af at_:Option Addr) (cf ct:Nat) (hlf:fr.length≤1000000) (hlt:to_.length≤1000000) (hfc:fr.length≤cf) (htc:to_.length≤ct) (H:Z8) (R:Z4) [hG:MemRows ag 2 (grows h.gaps) R] [hS:MemRows as_ 3 (srows h.sights) R] [hF:MemRows af 1 (Z6 fr) R] [hT:MemRows at_ 1 (Z6 to_) R] :
    Fn Tryz.prog 75 [h.v (h.sg ag cg) (h.ss as_ cs),.slice af fr.length cf,.slice at_ to_.length ct] H R (Zko h fr to_ H R):=by
 refine Zc Tryz.func75 rfl Tryz.ntmps75 rfl ?_
 refine sqt 3 rfl (bx rfl rfl rfl (fun b3=>pur 2 rfl (Z0 (sqt 5 rfl (spL rfl rfl (lhA (htl h (h.sg ag cg) (h.ss as_ cs)) Z2m rfl rfl rfl) rfl (pur 2 rfl ?_))))))
 refine clV rfl ZcA rfl rfl (Z7U h ag as_ cg cs hlg hls fr to_ af at_ cf ct (by omega) (by omega) hfc htc _ _) ?_
 refine pur 1 rfl (sqt 2 rfl (pur 2 rfl ?_))
 refine Z1 rfl ?_ ?_<;>intro hc0
 have hbe:h.botE fr to_≠0:=of_decide_eq_true hc0
 refine sqt 3 rfl (pur 3 rfl (Z5 ?_))
 exact rtB rfl rfl rfl rfl ⟨rfl,rfl,.inl ⟨hbe,rfl⟩⟩ (fun w h9=>h9.del b3)
 ·
  have hbe:h.botE fr to_=0:=Classical.byContradiction fun e=>by rw [decide_eq_true e] at hc0;cases hc0
  have hb:=Z4Z hbe
  obtain ⟨n0,hn0⟩:=Zcf hb
  refine Z2 (sqt 1 rfl (pur 1 rfl (Z3 ?_)))
  refine Zb (ι:={s:Nat // s≤10∧∀ s',s'<s→∀ n,¬ Pl h.gaps (msk to_) s' (msk fr) 0 n}) (fun s=>⟨[(1,.slice af fr.length cf),(2,.slice at_ to_.length ct),(3,.pointer (some ⟨b3,0,none⟩)),(9,.int .i64 (s.1:Int))],(b3,cel 95 (htl h (h.sg ag cg) (h.ss as_ cs)))::H,R⟩) (fun s=>11-s.1) ⟨0,by omega,fun s' h9=>absurd h9 (Nat.not_lt_zero _)⟩ ?_ (fun s=>?_)
  exact Ze idH
  ·
   obtain ⟨s,hs,hno⟩:=s
   dsimp only at hs hno ⊢
   have hrz:=ZfH hbe hs
   refine Z0 (Z3 (sqt 10 rfl (spL rfl rfl (lhA (htl h (h.sg ag cg) (h.ss as_ cs)) Z2m rfl rfl rfl) rfl (pur 3 rfl ?_))))
   refine cl rfl ZdP rfl rfl (ZdB h ag as_ cg cs hlg hls fr to_ af at_ cf ct hlf hlt hfc htc (s:Int) _ _) ?_
   rintro _ _ R1 ⟨rfl,hq⟩
   rcases hq with ⟨h9,_⟩ | ⟨_,hnp,rfl,hR1⟩ | ⟨_,ls,pl,a,c,_,_,_,_,_,hls2,rfl,hR1⟩
   · exact absurd hrz h9
   all_goals obtain rfl:=hR1.symm
   all_goals clear hR1
   all_goals rw [Int.toNat_natCast] at *
   refine pur 5 rfl (sqt 2 rfl (pur 2 rfl ?_))
   refine Z1 rfl ?_ ?_<;>intro hc1
   exact absurd hc1 (by decide)
   have hs10:s≠10:=fun e=>hnp n0 (by rw [e];exact hn0)
   refine Z2 (sqr 3 rfl (pur 1 rfl (sp rfl (PE.add rfl rfl (by omega)) rfl (pur 1 rfl ?_))))
   exact Z7 ⟨s+1,by omega,fun s' h9=>(Nat.lt_succ_iff_lt_or_eq.1 h9).elim (hno s') (fun e=>by subst e;exact hnp)⟩ idH
   refine pur 5 rfl (sqt 2 rfl (pur 2 rfl ?_))
   refine Z1 rfl ?_ ?_<;>intro hc1
   refine sqt 3 rfl (pur 3 rfl (Z5 ?_))
   exact rtB rfl rfl rfl rfl ⟨rfl,rfl,.inr ⟨hbe,s,hs,⟨_,hls2.1⟩,hno,rfl⟩⟩ (fun w h9=>St.sub (h9.del b3))
   exact absurd hc1 (by decide)
theorem Zhd:cal Tryz.prog 219=true:=by kernel_rfl
theorem ik3:Zb3 Tryz.prog 3=some .i64:=by kernel_rfl
section steps
variable {P:Program} {r:Option Nat} {ops:Array Oper} {n:Nat} {L:Zk} {D:List Deferred} {H:Z8} {R:Z4} {K:Act→World→Prop}
 {i d:Nat} {ty:TypeId} {pos:String} {af:Array Edge}
theorem Zkw {t tn e sz by_ k:Nat} {kq kn:IntKind} {s x:Operand} {zl:List Value} (ho:ops[i]?=some ⟨some d,.call { callee:=.builtin .append,args := #[s,x],argTypes := #[t,tn] },ty,pos,af,none⟩)
   (ht:apT P t=some (e,sz,by_)) (htn:Zb3 P tn=some kn) (hz:ZD P e=some zl) (hs:ev L s=some (.slice none 0 0)) (hx:ev L x=some (.int kq k))
   (hk:0<k) (hs0:0<sz) (hb:k*by_≤140737488355328∧k≤9223372036854775807) (hd:Nat.blt d n=true)
   (h:∀ (b' cap':Nat) (junk:List Value),k≤cap'→cap'≤9223372036854775807→k*sz+junk.length=cap'*sz→Sy n ((d,.slice (some ⟨b',0,none⟩) k cap')::L) D ((b',cel e (Z2C k zl++junk))::H) R K):Sy n L D H R (stp P r ops i K):=fun a w ha hD hw=>by
 unfold apT at ht
 split at ht
 case h_2=>cases ht
 rename_i e' hu
 split at ht
 case h_2=>cases ht
 rename_i ie hi
 split at ht
 case h_2=>cases ht
 rename_i z hzz
 cases hzs:Nat.beq z.cells.size ie.size with
 | false=>rw [hzs] at ht;cases ht
 | true =>
 rw [hzs,cond_true] at ht
 cases ht
 have hzs:=Nat.eq_of_beq_eq_true hzs
 have hzl:z.cells.toList=zl:=by
   have:ZD P e=some z.cells.toList:=by simp [ZD,hi,hzz]
   rw [this] at hz;exact Option.some.inj hz
 have hun:P.underlying tn=some (.int kn):=by
   unfold Zb3 at htn
   split at htn
   · rename_i q hq;cases htn;exact hq
   · cases htn
 have hold:(Builtin.firstCells ie.size 0 (.slice none 0 0)).run P w.drew = .ok ([]:List Value).toArray w.drew:=by
   simp [Builtin.firstCells,Sem.run_pure]
 have h2:=Lib.run_append_grow_zeros (P:=P) w t tn ty e ie z kq kn hu hun hi hzz none 0 0 [] hold k hk hs0 (by omega) (by omega) (by omega) (growslice_fits (by omega) (by rw [Nat.zero_add];exact hb.1))
 rw [Nat.zero_add] at h2
 have hge:=grownCap_ge w k 0 e
 have hcm:grownCap w k 0 e≤maxLen:=grownCap_le_maxLen w _ 0 e (by simp only [maxLen];omega)
 have hrep:∀ q,(Builtin.zeroCells z.cells q).toList=Z2C q zl:=fun q=>by rw [← hzl];simp [Builtin.zeroCells,Z2C]
 have e1:(.cells (([]:List Value).toArray++Builtin.zeroCells z.cells k++Builtin.zeroCells z.cells (grownCap w k 0 e-k)) e:Obj)=cel e (Z2C k zl++(Builtin.zeroCells z.cells (grownCap w k 0 e-k)).toList):=by
   unfold cel;congr 1;apply Array.toList_inj.1;simp [hrep]
 refine ZA ho (Zg _ rfl _) (v:=.slice (some ⟨w.heap.size,0,none⟩) k (grownCap w k 0 e)) (w':=w.drew.alloc (cel e (Z2C k zl++(Builtin.zeroCells z.cells (grownCap w k 0 e-k)).toList))) ?_
   (h w.heap.size (grownCap w k 0 e) (Builtin.zeroCells z.cells (grownCap w k 0 e-k)).toList hge (by simp only [maxLen] at hcm;omega) ?_ _ _ (ha.put (by simpa using hd) _) hD (hw.drew.alloc _))
 · simp only [execOp,resolve,invoke,builtin,Sem.run_bind,Sem.run_pure,Result.andThen,List.map_toArray,List.map_cons,List.map_nil,ha.reads _ _ hs,ha.reads _ _ hx]
   rw [e1] at h2
   rw [h2]
 · simp only [Array.length_toList,size_zeroCells,hzs,← Nat.add_mul]
   congr 1;omega
end steps
theorem Zbv {k:Nat} {v:Value}:(Z2C k [v]).length=k:=by simp [Z2C]
def Zaw (pl:List PL) (k:Nat):List Int:=(lls (pl.take k)).flatten
theorem Z6f {pl:List PL} {k:Nat} {x:PL} (h:pl[k]?=some x):Zaw pl (k+1)=Zaw pl k++x.l:=by
 unfold Zaw lls
 rw [List.take_add_one,h,Option.toList_some,List.map_append,List.flatten_append];simp
theorem Z5o (pl:List PL):∀ k,(Zaw pl k).length≤(lls pl).flatten.length:=fun k=>by
 unfold Zaw lls
 have h:pl.map (·.l)=(pl.take k).map (·.l)++(pl.drop k).map (·.l):=by rw [← List.map_append,List.take_append_drop]
 rw [h,List.flatten_append,List.length_append];omega
theorem ZeI (k:Nat) (hk:k≤1000000) (H:Z8) (R:Z4) :
    Fn Tryz.prog 219 [.slice none 0 0,.int .i64 (k:Int)] H R (fun v H' R'=>∃ o:OSl 3 1 [],v=o.fs∧H'=o.G++H∧R'=R):=by
 refine Zc Tryz.func219 rfl Tryz.ntmps219 rfl ?_
 refine sqt 1 rfl (pur 1 rfl (Z0 (sqt 2 rfl (pur 2 rfl ?_))))
 refine Z1 rfl ?_ ?_<;>intro hc0
 simp only [decide_eq_true_eq] at hc0
 omega
 refine Z2 (Z0 (sqt 8 rfl (pur 2 rfl (sp rfl (PE.capSl ZT rfl) rfl (pur 1 rfl (sp rfl (PE.lenSl ZT rfl) rfl (sp rfl (PE.sub rfl rfl (by omega)) rfl (sp rfl (PE.sub rfl rfl (by omega)) rfl ?_))))))))
 rw [show (k:Int)-(((0:Nat):Int)-((0:Nat):Int))=(k:Int) by omega]
 refine pur 1 rfl (sqt 2 rfl (pur 2 rfl ?_))
 refine Z1 rfl ?_ ?_<;>intro hc1
 try simp only [cS] at hc1
 refine sqr 10 rfl (pur 2 rfl (sp rfl (PE.capSl ZT rfl) rfl (sp rfl (PE.slHi (h:=0) Z0F rfl rfl (by omega)) rfl (pur 1 rfl ?_))))
 refine Zkw rfl Z37 ik3 zl3 rfl rfl (by omega) (by omega) (by omega) rfl (fun b2 cap2 jk2 hc1 hc2 hc3=>?_)
 refine pur 1 rfl (sp rfl (PE.lenSl ZT rfl) rfl (sp rfl (PE.slHi (h:=0) Z0F rfl rfl (by omega)) rfl (pur 1 rfl (sqt 2 rfl (pur 2 rfl (Z5 ?_))))))
 exact rtA rfl rfl rfl ⟨⟨.slice (some ⟨b2,0,none⟩) 0 cap2,[(b2,cel 3 (Z2C k [.int .i64 0]++jk2))],by simp,.inr ⟨b2,cap2,Z2C k [.int .i64 0]++jk2,rfl,rfl,by rw [List.length_append,Zbv];simp only [List.length_nil];omega,Nat.zero_le _,hc2⟩⟩,rfl,rfl,rfl⟩ idH
 refine Z2 (sqt 2 rfl (pur 2 rfl (Z5 ?_)))
 exact rtA rfl rfl rfl ⟨OSl.nil _ _,rfl,rfl,rfl⟩ idH
set_option maxHeartbeats 400000 in
theorem Z3N (pl:List PL) (ap:Option Addr) (cp:Nat) (hpl:pl.length≤1000000) (htl:(lls pl).flatten.length≤1000000) (H:Z8) (R:Z4) [hP:MemRows ap 1 (Z08 pl) R] [hI:MemF (Inn pl) R] :
    Fn Tryz.prog 140 [.slice ap pl.length cp] H R (fun v H' R'=>∃ o:OSl 3 1 (Z6 (lls pl).flatten),v=o.fs∧H'=o.G++H∧R'=R):=by
 refine Zc Tryz.func140 rfl Tryz.ntmps140 rfl ?_
 refine sqt 1 rfl (pur 1 rfl (sqt 1 rfl (pur 1 rfl (Z0 (sqt 3 rfl (pur 1 rfl (sp rfl (PE.lenSl Zb5 rfl) rfl (pur 1 rfl (Z3 ?_)))))))))
 refine Zb (ι:={k:Nat // k≤pl.length}) (fun k=>⟨[(0,.slice ap pl.length cp),(3,.int .i64 ((Zaw pl k.1).length:Nat)),(9,.slice ap pl.length cp),(10,.int .i64 pl.length),(11,.int .i64 k.1)],H,R⟩) (fun k=>pl.length-k.1) ⟨0,Nat.zero_le _⟩ ?_ (fun k=>?_)
 exact Ze idH
 obtain ⟨k,hk⟩:=k
 dsimp only at hk ⊢
 have hcl:=Z5o pl k
 have hcl2:=Z5o pl (k+1)
 refine sqt 1 rfl (pur 1 rfl (Z0 ?_))
 refine Z1 rfl ?_ ?_<;>intro hc0<;>try simp only [cS] at hc0
 obtain ⟨x,hx⟩:∃ x,pl[k]?=some x:=⟨_,List.getElem?_eq_getElem (by omega)⟩
 have hst:=congrArg List.length (Z6f hx)
 rw [List.length_append] at hst
 refine Zi (a:=ap) (sz:=1) (rows:=Z08 pl) (ne0 (by rw [Z1t];omega)) (fun ba oa he=>?_)
 subst he
 refine Z2 (Z0 (Z3 (sqt 3 rfl (sp rfl (PE.indexAddr ZiM rfl rfl (by omega) (by omega)) rfl (spL rfl rfl (lf0 Z0x (Zeg hx) rfl) rfl (pur 1 rfl (sqt 5 rfl (pur 2 rfl (sp rfl (PE.lenSl ZT rfl) rfl (sp rfl (PE.add rfl rfl (by omega)) rfl ?_))))))))))
 rw [show ((Zaw pl k).length:Int)+(x.l.length:Int)=((Zaw pl (k+1)).length:Int) by omega]
 refine pur 1 rfl (sqt 2 rfl (pur 2 rfl ?_))
 refine Z1 rfl ?_ ?_<;>intro hc1
 simp only [decide_eq_true_eq] at hc1
 omega
 refine Z2 (sqr 2 rfl (sp rfl (PE.add rfl rfl (by omega)) rfl (pur 1 rfl ?_)))
 exact Z7 ⟨k+1,by omega⟩ idH
 obtain rfl:k=pl.length:=by omega
 refine Z9 (Za (Za (Zh (sqt 3 rfl (pur 1 rfl ?_)))))
 refine cl rfl Zhd rfl rfl (ZeI (Zaw pl pl.length).length (by omega) _ _) ?_
 rintro _ _ R1 ⟨o0,rfl,rfl,hR1⟩
 obtain rfl:=hR1.symm
 clear hR1
 refine pur 1 rfl (Z0 (sqt 3 rfl (pur 1 rfl (sp rfl (PE.lenSl Zb5 rfl) rfl (pur 1 rfl (Z3 ?_))))))
 refine Zb (ι:=(k:{k:Nat // k≤pl.length})×OSl 3 1 (Z6 (Zaw pl k.1))) (fun y=>⟨[(6,y.2.fs),(25,.slice ap pl.length cp),(26,.int .i64 pl.length),(27,.int .i64 y.1.1)],y.2.G++H,R⟩) (fun y=>pl.length-y.1.1) ⟨⟨0,Nat.zero_le _⟩,o0⟩ ?_ (fun y=>?_)
 exact Ze idH
 obtain ⟨⟨k,hk⟩,o⟩:=y
 dsimp only at hk o ⊢
 have hcl:=Z5o pl k
 have hcl2:=Z5o pl (k+1)
 refine sqt 1 rfl (pur 1 rfl (Z0 ?_))
 refine Z1 rfl ?_ ?_<;>intro hc2<;>try simp only [cS] at hc2
 obtain ⟨x,hx⟩:∃ x,pl[k]?=some x:=⟨_,List.getElem?_eq_getElem (by omega)⟩
 have hst:=Z6f hx
 have hsl:=congrArg List.length hst
 rw [List.length_append] at hsl
 refine Zi (a:=ap) (sz:=1) (rows:=Z08 pl) (ne0 (by rw [Z1t];omega)) (fun ba oa he=>?_)
 subst he
 refine Sy.heap (fun w h=>St.inn (x:=x) h (List.mem_of_getElem? hx)) ?_
 refine Z2 (Z0 (Z3 (sqt 3 rfl (sp rfl (PE.indexAddr ZiM rfl rfl (by omega) (by omega)) rfl (spL rfl rfl (lf0 Z0x (Zeg hx) rfl) rfl (pur 1 rfl (sqr 4 rfl (pur 2 rfl ?_))))))))
 refine apO (news:=Z6 x.l) o rfl Z37 rfl rfl (Zil) (irl _) (by simp [Z0E,Z6,Value.oneCell']) (by rw [irl,irl];omega) rfl (fun o33=>?_)
 refine pur 1 rfl (sqr 2 rfl (sp rfl (PE.add rfl rfl (by omega)) rfl (pur 1 rfl ?_)))
 exact Z7 ⟨⟨k+1,by omega⟩,o33.cast (by rw [hst];simp [Z6])⟩ (fun w h=>h.ftail)
 obtain rfl:k=pl.length:=by omega
 refine Z9 (Za (Za (Zh (sqt 2 rfl (pur 2 rfl (Z5 ?_))))))
 exact rtA rfl rfl rfl ⟨o.cast (by unfold Zaw;rw [List.take_length]),rfl,rfl,rfl⟩ idH
theorem Z7W:cal Tryz.prog 140=true:=by kernel_rfl
def Zkn (h:Hse) (fr to_:List Int) (spd:Int) (H:Z8) (R:Z4):Value→Z8→Z4→Prop:=fun v H' R'=>H'=H∧R'=R∧((h.rcE fr to_ spd≠0∧v = .tuple #[.int .i64 0,.int .i64 (h.rcE fr to_ spd)]) ∨
 (h.rcE fr to_ spd=0∧(∀ n,¬ Pl h.gaps (msk to_) spd.toNat (msk fr) 0 n)∧v = .tuple #[.int .i64 0,.int .i64 6]) ∨
 (h.rcE fr to_ spd=0∧∃ n:Nat,n≤10∧Lst (Pl h.gaps (msk to_) spd.toNat (msk fr) 0) n∧v = .tuple #[.int .i64 (n:Int),.int .i64 0]))
theorem Z8N {gs:List Gp} (hg:gs.length≤10):∀ {ls:List Nat},(∀ l∈ls,l<2 ^ gs.length)→((ls.map Z2U).flatten).length=Zc9 gs ls
 | [],_=>rfl
 | l::ls,h=>by
   rw [List.map_cons,List.flatten_cons,List.length_append,Z8N hg (fun x hx=>h x (List.mem_cons_of_mem _ hx)),Z8s (h l (by simp)) hg];rfl
theorem St.norows9 {sz:Nat} {H:Z8} {R:Z4} {w:World} (h:St H R w):St H (Inn []::RowsA none sz (Z08 [])::R) w:=St.inn0 (St.norows (sz:=sz) h)
set_option maxHeartbeats 400000 in
theorem Zci (h:Hse) (ag as_:Option Addr) (cg cs:Nat) (hlg:h.gaps.length≤9223372036854775807) (hls:h.sights.length≤9223372036854775807) (fr to_:List Int) (af at_:Option Addr) (cf ct:Nat) (hlf:fr.length≤1000000) (hlt:to_.length≤1000000) (hfc:fr.length≤cf) (htc:to_.length≤ct) (spd:Int) (H:Z8) (R:Z4) [hG:MemRows ag 2 (grows h.gaps) R] [hS:MemRows as_ 3 (srows h.sights) R] [hF:MemRows af 1 (Z6 fr) R] [hT:MemRows at_ 1 (Z6 to_) R] :
    Fn Tryz.prog 73 [h.v (h.sg ag cg) (h.ss as_ cs),.slice af fr.length cf,.slice at_ to_.length ct,.int .i64 spd] H R (Zkn h fr to_ spd H R):=by
 refine Zc Tryz.func73 rfl Tryz.ntmps73 rfl ?_
 refine sqt 3 rfl (bx rfl rfl rfl (fun b4=>pur 2 rfl (sqt 10 rfl (spL rfl rfl (lhA (htl h (h.sg ag cg) (h.ss as_ cs)) Z2m rfl rfl rfl) rfl (pur 3 rfl ?_)))))
 refine cl rfl ZdP rfl rfl (ZdB h ag as_ cg cs hlg hls fr to_ af at_ cf ct hlf hlt hfc htc spd _ _) ?_
 rintro _ _ R1 ⟨rfl,hq⟩
 rcases hq with ⟨h9,rfl,hR1⟩ | ⟨h9,hnp,rfl,hR1⟩ | ⟨h9,ls,pl,a,c,hll,hpk,hpc,hlb,hrun,hlst,rfl,hR1⟩
 all_goals obtain rfl:=hR1.symm
 all_goals clear hR1
 refine pur 5 rfl (sqt 6 rfl ?_)
 refine Sy.heap (fun w h=>St.norows9 (sz:=1) h) ?_
 refine pur 1 rfl ?_
 refine cl rfl Z7W rfl rfl (Z3N [] none 0 (by decide) (by decide) _ _) ?_
 rintro _ _ R1 ⟨o,rfl,rfl,hR1⟩
 obtain rfl:=hR1.symm
 clear hR1
 obtain ⟨ao,co,heo,hfz⟩:=o.freeze
 rw [heo,irl]
 refine Sy.heap (fun w h=>hfz h) ?_
 clear hfz heo
 refine sp rfl (PE.lenSl ZT rfl) rfl (pur 3 rfl (Z5 ?_))
 exact rtB rfl rfl rfl rfl ⟨rfl,rfl,.inl ⟨h9,rfl⟩⟩ (fun w h9=>St.sub (h9.del b4))
 refine pur 5 rfl (sqt 6 rfl ?_)
 refine Sy.heap (fun w h=>St.norows9 (sz:=1) h) ?_
 refine pur 1 rfl ?_
 refine cl rfl Z7W rfl rfl (Z3N [] none 0 (by decide) (by decide) _ _) ?_
 rintro _ _ R1 ⟨o,rfl,rfl,hR1⟩
 obtain rfl:=hR1.symm
 clear hR1
 obtain ⟨ao,co,heo,hfz⟩:=o.freeze
 rw [heo,irl]
 refine Sy.heap (fun w h=>hfz h) ?_
 clear hfz heo
 refine sp rfl (PE.lenSl ZT rfl) rfl (pur 3 rfl (Z5 ?_))
 exact rtB rfl rfl rfl rfl ⟨rfl,rfl,.inr (.inl ⟨h9,hnp,rfl⟩)⟩ (fun w h9=>St.sub (h9.del b4))
 refine pur 5 rfl (sqt 6 rfl ?_)
 have hgl:=(Zij h9).1.ok.gl
 have hlen:(lls pl).flatten.length=Zc9 h.gaps ls:=by rw [hll];exact Z8N hgl hlb
 have hs10:=hlst.1.few
 have hpl:pl.length=ls.length:=by have:=congrArg List.length hll;rw [Z7q,List.length_map] at this;exact this
 refine pur 1 rfl ?_
 refine cl rfl Z7W rfl rfl (Z3N pl a c (by omega) (by omega) _ _) ?_
 rintro _ _ R1 ⟨o,rfl,rfl,hR1⟩
 obtain rfl:=hR1.symm
 clear hR1
 obtain ⟨ao,co,heo,hfz⟩:=o.freeze
 rw [heo,irl,hlen]
 refine Sy.heap (fun w h=>hfz h) ?_
 clear hfz heo
 refine sp rfl (PE.lenSl ZT rfl) rfl (pur 3 rfl (Z5 ?_))
 exact rtB rfl rfl rfl rfl ⟨rfl,rfl,.inr (.inr ⟨h9,Zc9 h.gaps ls,by omega,hlst,rfl⟩)⟩ (fun w h9=>St.sub (h9.del b4))
theorem ZgM:cal Tryz.prog 141=true:=by kernel_rfl
theorem ZgN:cal Tryz.prog 142=true:=by kernel_rfl
theorem ZgO:cal Tryz.prog 143=true:=by kernel_rfl
theorem ZgP:cal Tryz.prog 144=true:=by kernel_rfl
theorem Zhe:cal Tryz.prog 220=true:=by kernel_rfl
theorem Zhf:cal Tryz.prog 221=true:=by kernel_rfl
theorem Zhy:cal Tryz.prog 263=true:=by kernel_rfl
def Hse.ledE (h:Hse) (fr to_:List Int) (ls:List (List Int)):Int:=bif decide (h.botE fr to_≠0) then h.botE fr to_ else bif decide (Z0y h.gaps.length ls.flatten≠0) then Z0y h.gaps.length ls.flatten else bif !(ls.all fun l=>Zc6 h.gaps 0 fr to_ l) then 8 else 0
def Hse.ledR (h:Hse) (fr to_:List Int) (ls:List (List Int)):Int:=bif decide (h.ledE fr to_ ls=0) then ls.length else 0
theorem Zbe (pl:List PL) (p:List Int→Bool):(pl.all fun x=>p x.l)=(lls pl).all p:=by unfold lls;rw [List.all_map];rfl
theorem Z7o {h:Hse} {fr to_:List Int} {ls:List (List Int)} {e:Int} (he:h.ledE fr to_ ls=e) (h0:e≠0):h.ledR fr to_ ls=0:=by unfold Hse.ledR;rw [he,decide_eq_false h0];rfl
theorem Zaa (xs:List PL) (a:Option Addr) (c g:Nat) (fst cap:List Value) (p:PL→Bool) (hg:cal Tryz.prog g=true) (hl:xs.length≤9223372036854775807) (H:Z8) (R:Z4) [hR:MemRows a 1 (Z08 xs) R] (hp:∀ x,x∈xs→FnV Tryz.prog g (fst++[.slice x.a x.l.length x.c]++cap) H R (.bool (p x))) :
    FnV Tryz.prog 263 [.slice a xs.length c,.func (.func g) fst.toArray cap.toArray] H R (.int .i64 (match xs.findIdx? p with | some k=>(k:Int) | none => -1)):=by
 refine Zc Tryz.func263 rfl Tryz.ntmps263 rfl ?_
 refine sqt 1 rfl (pur 1 rfl (Z0 (sqt 3 rfl (pur 1 rfl (sp rfl (PE.lenSl Zb5 rfl) rfl (pur 1 rfl (Z3 ?_)))))))
 refine Zb (ι:={k:Nat // k≤xs.length∧∀ x∈xs.take k,p x=false}) (fun k=>⟨[(0,.slice a xs.length c),(1,.func (.func g) fst.toArray cap.toArray),(7,.int .i64 xs.length),(8,.int .i64 k.1)],H,R⟩) (fun k=>xs.length-k.1) ⟨0,by simp⟩ ?_ (fun k=>?_)
 exact Ze idH
 obtain ⟨k,hk,hn⟩:=k
 dsimp only
 refine sqt 1 rfl (pur 1 rfl (Z0 ?_))
 refine Z1 rfl ?_ ?_<;>intro hc0
 simp only [cS] at hc0
 obtain ⟨x,hx⟩:∃ x,xs[k]?=some x:=⟨_,List.getElem?_eq_getElem (by omega)⟩
 have hxm:=List.mem_of_getElem? hx
 refine Zi (a:=a) (sz:=1) (rows:=Z08 xs) (by cases xs<;>simp_all [Z08]) (fun b off he=>?_)
 subst he
 refine Z2 (Z0 (Z3 (sqt 2 rfl (pur 2 rfl (sqt 6 rfl (pur 3 rfl (sp rfl (PE.indexAddr ZiM rfl rfl (by omega) (by omega)) rfl (spL rfl rfl (lf0 Z0x (by simp [Z08,hx];rfl) rfl) rfl ?_))))))))
 refine Z3t rfl rfl (hg) rfl rfl (hp x hxm) ?_
 refine Z1 rfl ?_ ?_<;>intro hc1
 refine sqt 2 rfl (pur 2 rfl (Z5 ?_))
 first | (exact rtA rfl rfl rfl ⟨by rw [ZE hx hn hc1];rfl,rfl,rfl⟩ idH) | (exact rtA rfl rfl rfl ⟨by rw [Zv (by simpa using hn)];rfl,rfl,rfl⟩ idH)
 refine Z2 (sqr 2 rfl (sp rfl (PE.add rfl rfl (by omega)) rfl (pur 1 rfl ?_)))
 exact Z7 ⟨k+1,by omega,Z09 hx hn hc1⟩ idH
 simp only [cS] at hc0
 obtain rfl:k=xs.length:=by omega
 refine Z9 (Za (Za (Zh (sqt 1 rfl (pur 1 rfl (Z5 ?_))))))
 first | (exact rtA rfl rfl rfl ⟨by rw [ZE hx hn hc1];rfl,rfl,rfl⟩ idH) | (exact rtA rfl rfl rfl ⟨by rw [Zv (by simpa using hn)];rfl,rfl,rfl⟩ idH)
theorem Za3 (xs:List PL) (a:Option Addr) (c g:Nat) (fst cap:List Value) (p:PL→Bool) (hg:cal Tryz.prog g=true) (hl:xs.length≤9223372036854775807) (H:Z8) (R:Z4) [hR:MemRows a 1 (Z08 xs) R] (hp:∀ x,x∈xs→FnV Tryz.prog g (fst++[.slice x.a x.l.length x.c]++cap) H R (.bool (p x))) :
    FnV Tryz.prog 220 [.slice a xs.length c,.func (.func g) fst.toArray cap.toArray] H R (.bool (xs.any p)):=by
 refine Zc Tryz.func220 rfl Tryz.ntmps220 rfl ?_
 refine sqt 1 rfl (pur 1 rfl (sqt 5 rfl (pur 2 rfl ?_)))
 refine clV rfl Zhy rfl rfl (Zaa xs a c g fst cap p hg hl _ _ hp) ?_
 refine pur 2 rfl (Z5 ?_)
 exact rtA rfl rfl rfl ⟨by simp only [ZP];exact Z1j _ _,rfl,rfl⟩ drp
theorem Z9V (x:PL) (g bf:Nat) (fst cap:List Value) (p:Bool) (hg:cal Tryz.prog g=true) (H:Z8) (R:Z4) [hM:Mem1 bf (cel 257 [.func (.func g) fst.toArray cap.toArray]) H] (hp:FnV Tryz.prog g (fst++[.slice x.a x.l.length x.c]++cap) H R (.bool p)) :
    FnV Tryz.prog 221 [.slice x.a x.l.length x.c,.pointer (some ⟨bf,0,none⟩)] H R (.bool !p):=by
 refine Zc Tryz.func221 rfl Tryz.ntmps221 rfl ?_
 refine sqt 1 rfl (pur 1 rfl (sqt 5 rfl (spL rfl rfl (lh Zim rfl rfl) rfl (pur 1 rfl ?_))))
 refine Z3t rfl rfl (hg) rfl rfl (hp) ?_
 refine pur 2 rfl (Z5 ?_)
 exact rtA rfl rfl rfl ⟨rfl,rfl,rfl⟩ drp
theorem Z77 (xs:List PL) (a:Option Addr) (c g:Nat) (fst cap:List Value) (p:PL→Bool) (hg:cal Tryz.prog g=true) (hl:xs.length≤9223372036854775807) (H:Z8) (R:Z4) [hR:MemRows a 1 (Z08 xs) R] (hp:∀ b x,x∈xs→FnV Tryz.prog g (fst++[.slice x.a x.l.length x.c]++cap) ((b,cel 257 [.func (.func g) fst.toArray cap.toArray])::H) R (.bool (p x))) :
    FnV Tryz.prog 142 [.slice a xs.length c,.func (.func g) fst.toArray cap.toArray] H R (.bool (xs.all p)):=by
 refine Zc Tryz.func142 rfl Tryz.ntmps142 rfl ?_
 refine sqt 2 rfl (bx rfl rfl rfl (fun b3=>pur 1 rfl (sqt 5 rfl (pur 1 rfl (sp rfl (PE.makeFunc rfl rfl) rfl ?_)))))
 refine clV rfl Zhe rfl rfl (Za3 xs a c 221 [] [_] (fun x=>!p x) Zhf hl _ _ (hp:=fun x hx=>Z9V x g _ fst cap (p x) hg _ _ (hp:=hp _ x hx))) ?_
 refine pur 2 rfl (Z5 ?_)
 exact rtA rfl rfl rfl ⟨by simp only [ZP];rw [ZX],rfl,rfl⟩ drp
theorem Zcj (h:Hse) (ag as_:Option Addr) (cg cs:Nat) (hok:h.ok) (fr to_:List Int) (af at_:Option Addr) (cf ct b4 b5 b6:Nat) (hfr:∀ x∈fr,0≤x∧x<7) (hfl:fr.length≤1000) (hnt:to_.length≤1000000) (x:PL) (pl:List PL) (hxm:x∈pl) (hp:∀ k∈x.l,0≤k) (hpl:x.l.length≤1000000) (H:Z8) (R:Z4) [hG:MemRows ag 2 (grows h.gaps) R] [hS:MemRows as_ 3 (srows h.sights) R] [hF:MemRows af 1 (Z6 fr) R] [hT:MemRows at_ 1 (Z6 to_) R] [m4:Mem1 b4 (cel 95 (htl h (h.sg ag cg) (h.ss as_ cs))) H] [m5:Mem1 b5 (cel 23 [.slice af fr.length cf]) H] [m6:Mem1 b6 (cel 23 [.slice at_ to_.length ct]) H] [hI:MemF (Inn pl) R] :
    FnV Tryz.prog 143 [.slice x.a x.l.length x.c,.pointer (some ⟨b4,0,none⟩),.pointer (some ⟨b5,0,none⟩),.pointer (some ⟨b6,0,none⟩)] H R (.bool (Zc6 h.gaps 0 fr to_ x.l)):=by
 refine Zc Tryz.func143 rfl Tryz.ntmps143 rfl ?_
 refine sqt 1 rfl ?_
 refine Sy.heap (fun w h=>St.inn (x:=x) h hxm) ?_
 refine pur 1 rfl (Z0 ?_)
 refine Zd [0,1,0,0,0,31,63] (.ld 0 (.ld 2 (.ld 3 (.tk 4 (.big 1 (.big 5 (.tk 6 .done))))))) Zt (by kernel_rfl) ?_
 refine ld rfl rfl (lhA (htl h (h.sg ag cg) (h.ss as_ cs)) Z2m rfl rfl rfl) rfl (ld rfl rfl (lh Z0x rfl rfl) rfl (ld rfl rfl (lh Z0x rfl rfl) rfl (Zm 1 rfl ?_)))
 refine cl rfl Z94 rfl rfl (Z92 h ag as_ cg cs _ _) ?_
 rintro _ _ _ ⟨bd,rfl,rfl,rfl⟩
 refine bg (fun w hs=>⟨(lh Z0x rfl rfl) w hs,(lh Z0x rfl rfl) w hs,trivial,trivial⟩) ?_
 refine clV rfl ZgP rfl rfl (ZeR (dkA h ag as_ cg cs bd) (Z1m h ag as_ cg cs hok bd) fr to_ x.l af at_ x.a cf ct x.c hfr hfl hnt hp hpl _ _) ?_
 refine bgT (Zm 1 rfl (Z5 ?_))
 exact rtA rfl rfl rfl ⟨rfl,rfl,rfl⟩ (fun w h9=>h9.ftail.ftail)
set_option maxHeartbeats 400000 in
theorem ZeJ (h:Hse) (ag as_:Option Addr) (cg cs:Nat) (hlg:h.gaps.length≤9223372036854775807) (hls:h.sights.length≤9223372036854775807) (fr to_:List Int) (af at_:Option Addr) (cf ct:Nat) (hlf:fr.length≤1000000) (hlt:to_.length≤1000000) (hfc:fr.length≤cf) (htc:to_.length≤ct) (pl:List PL) (ap:Option Addr) (cp:Nat) (hpl:pl.length≤1000000) (htot:(lls pl).flatten.length≤1000000) (H:Z8) (R:Z4) [hG:MemRows ag 2 (grows h.gaps) R] [hS:MemRows as_ 3 (srows h.sights) R] [hF:MemRows af 1 (Z6 fr) R] [hT:MemRows at_ 1 (Z6 to_) R] [hP:MemRows ap 1 (Z08 pl) R] [hI:MemF (Inn pl) R] :
    FnV Tryz.prog 74 [h.v (h.sg ag cg) (h.ss as_ cs),.slice af fr.length cf,.slice at_ to_.length ct,.slice ap pl.length cp] H R (.tuple #[.int .i64 (h.ledR fr to_ (lls pl)),.int .i64 (h.ledE fr to_ (lls pl))]):=by
 refine Zc Tryz.func74 rfl Tryz.ntmps74 rfl ?_
 refine sqt 5 rfl (bx rfl rfl rfl (fun b4=>bx rfl rfl rfl (fun b5=>bx rfl rfl rfl (fun b6=>pur 2 rfl (Z0 (sqt 5 rfl (spL rfl rfl (lhA (htl h (h.sg ag cg) (h.ss as_ cs)) Z2m rfl rfl rfl) rfl (spL rfl rfl (lh Z0x rfl rfl) rfl (spL rfl rfl (lh Z0x rfl rfl) rfl ?_)))))))))
 refine clV rfl ZcA rfl rfl (Z7U h ag as_ cg cs hlg hls fr to_ af at_ cf ct (by omega) (by omega) hfc htc _ _) ?_
 refine pur 1 rfl (sqt 2 rfl (pur 2 rfl ?_))
 refine Z1 rfl ?_ ?_<;>intro hc0
 have hbe:h.botE fr to_≠0:=of_decide_eq_true hc0
 have e:h.ledE fr to_ (lls pl)=h.botE fr to_:=by unfold Hse.ledE;rw [dT hbe];rfl
 refine sqt 3 rfl (pur 3 rfl (Z5 ?_))
 exact rtB rfl rfl rfl rfl ⟨by rw [Z7o e (by assumption),e]<;>rfl,rfl,rfl⟩ drp
 have hbe:h.botE fr to_=0:=Classical.byContradiction fun e=>by rw [decide_eq_true e] at hc0;cases hc0
 have hb:=Z4Z hbe
 obtain ⟨q1,q2,q3,q4,q5,q6⟩:=Z1O hb
 have hok:=hb.ok
 refine Z2 (Z0 (Z0 ?_))
 refine Zd [0,1,0,4,15,31] (.tk 0 (.ld 2 (.tk 3 (.big 1 (.big 4 (.tk 5 .done)))))) Zt (by kernel_rfl) ?_
 refine Zm 1 rfl (ld rfl rfl (lhA (htl h (h.sg ag cg) (h.ss as_ cs)) Z2m rfl rfl rfl) rfl (tk rfl (PE.makeFunc rfl rfl) rfl ?_))
 refine cl rfl Z7W rfl rfl (Z3N pl ap cp hpl htot _ _) ?_
 rintro _ _ R1 ⟨o,rfl,rfl,hR1⟩
 obtain rfl:=hR1.symm
 clear hR1
 obtain ⟨ac,cc,heo,hcc,hfz⟩:=o.freezeC
 rw [irl] at hcc
 rw [heo,irl]
 refine Sy.heap (fun w h=>hfz h) ?_
 clear hfz heo
 refine bg (fun w hs=>⟨(lhA (htl h (h.sg ag cg) (h.ss as_ cs)) Z2m rfl rfl rfl) w hs,trivial⟩) ?_
 refine clV rfl ZeZ rfl rfl (Z5m (lls pl).flatten ac cc 141 [h.v (h.sg ag cg) (h.ss as_ cs)] [] (fun k=>inB k 0 ((h.gaps.length:Int)-1)) ZgM (by omega) hcc _ _ (fun _ z _=>Zjf h (by have:=hok.gl;omega) ag cg (h.ss as_ cs) z _ _)) ?_
 refine bgT (Zm 1 rfl (sqt 2 rfl (pur 2 rfl ?_)))
 refine Z1 rfl ?_ ?_<;>intro hc1
 have hle:Z0y h.gaps.length (lls pl).flatten≠0:=of_decide_eq_true hc1
 have e:h.ledE fr to_ (lls pl)=Z0y h.gaps.length (lls pl).flatten:=by unfold Hse.ledE;rw [hbe,dT hle];rfl
 refine sqt 3 rfl (pur 3 rfl (Z5 ?_))
 exact rtB rfl rfl rfl rfl ⟨by rw [Z7o e (by assumption),e]<;>rfl,rfl,rfl⟩ (fun w h9=>St.sub (((h9.del b6).del b5).del b4))
 have hle:Z0y h.gaps.length (lls pl).flatten=0:=Classical.byContradiction fun e=>by rw [show decide (Zea (fun k=>inB k 0 ((h.gaps.length:Int)-1)) (lls pl).flatten≠0)=true from decide_eq_true e] at hc1;cases hc1
 have hlx:=(Z2c hle).1
 have hin:∀ x∈pl,(∀ k∈x.l,0≤k)∧x.l.length≤1000000:=fun x hx=>by
   have hm:x.l∈lls pl:=List.mem_map.2 ⟨x,hx,rfl⟩
   refine ⟨fun k hk=>(hlx k (List.mem_flatten.2 ⟨_,hm,hk⟩)).1,?_⟩
   have:=List.Sublist.length_le (List.sublist_flatten_of_mem hm)
   omega
 refine Z2 (Z0 (sqt 4 rfl (pur 1 rfl (sp rfl (PE.makeFunc rfl rfl) rfl ?_))))
 refine clV rfl ZgN rfl rfl (Z77 pl ap cp 143 [] [_,_,_] (fun x=>Zc6 h.gaps 0 fr to_ x.l) ZgO (by omega) _ _ (fun _ x hx=>Zcj h ag as_ cg cs hok fr to_ af at_ cf ct b4 b5 b6 q1 (by omega) hlt x pl hx (hin x hx).1 (hin x hx).2 _ _)) ?_
 refine pur 1 rfl ?_
 refine Z1 rfl ?_ ?_<;>intro hc2
 have hc9:(!(pl.all fun x=>Zc6 h.gaps 0 fr to_ x.l))=true:=hc2
 rw [Zbe pl (fun l=>Zc6 h.gaps 0 fr to_ l)] at hc9
 have h8:(8:Int)≠0:=by decide
 have e:h.ledE fr to_ (lls pl)=8:=by unfold Hse.ledE;rw [hbe,hle,hc9];rfl
 refine sqt 2 rfl (pur 2 rfl (Z5 ?_))
 exact rtB rfl rfl rfl rfl ⟨by rw [Z7o e (by assumption),e]<;>rfl,rfl,rfl⟩ (fun w h9=>St.sub (((h9.del b6).del b5).del b4))
 have hc9:(!(pl.all fun x=>Zc6 h.gaps 0 fr to_ x.l))=false:=hc2
 rw [Zbe pl (fun l=>Zc6 h.gaps 0 fr to_ l)] at hc9
 have e:h.ledE fr to_ (lls pl)=0:=by unfold Hse.ledE;rw [hbe,hle,hc9];rfl
 have er:h.ledR fr to_ (lls pl)=pl.length:=by unfold Hse.ledR;rw [e,Z7q];rfl
 refine Z2 (sqt 4 rfl (pur 1 rfl (sp rfl (PE.lenSl Zb5 rfl) rfl (pur 2 rfl (Z5 ?_)))))
 exact rtB rfl rfl rfl rfl ⟨by rw [er,e]<;>rfl,rfl,rfl⟩ (fun w h9=>St.sub (((h9.del b6).del b5).del b4))
theorem ZjG:ZJ Tryz.prog 95=some 3:=by kernel_rfl
theorem ZfG:Z00 Tryz.prog 242=some [(0,1),(1,1),(2,1)]:=by kernel_rfl
theorem ZjS:Z00 Tryz.prog 95=some [(0,1),(1,1),(2,1)]:=by kernel_rfl
theorem Zk3:slE Tryz.prog 92=some (97,2):=by kernel_rfl
theorem ZiI:ZD Tryz.prog 95=some ([.int .i64 0,.slice none 0 0,.slice none 0 0]):=by kernel_rfl
def Z9w:List Gp:=[⟨0,1⟩,⟨0,2⟩,⟨1,3⟩,⟨2,3⟩,⟨3,4⟩,⟨4,5⟩,⟨1,2⟩]
def sixS:List Sgt:=[⟨2,3,true⟩,⟨1,1,false⟩,⟨2,4,false⟩]
abbrev six (k:Nat):Hse:=⟨6,Z9w,sixS.take k⟩
theorem Z9l (l:List Sgt) (k:Nat):(srows l).take k=srows (l.take k):=(List.map_take).symm
theorem ZfM {k:Nat} (hk:k≤3):(six k).sights.length=k:=by
 show (sixS.take k).length=k
 rw [List.length_take];show min k 3=k;omega
set_option maxHeartbeats 400000 in
theorem Zgd (k:Nat) (hk:k≤3) (H:Z8) (R:Z4) :
    Fn Tryz.prog 69 [.int .i64 (k:Int)] H R (fun v H' R'=>∃ bg bs,v=(six k).v (.slice (some ⟨bg,0,none⟩) 7 7) (.slice (some ⟨bs,0,none⟩) k 3)∧H'=(bg,cel 97 (grows Z9w).flatten)::(bs,cel 242 (srows sixS).flatten)::H∧R'=R):=by
 refine Zc Tryz.func69 rfl Tryz.ntmps69 rfl ?_
 refine sqt 1 rfl (alc rfl ZiI rfl (fun b2=>sqt 5 rfl (sp rfl (PE.build (out:=[_,_,_]) ZfG Zc3 rfl rfl) rfl (sp rfl (PE.build (out:=[_,_,_]) ZfG Zc3 rfl rfl) rfl (sp rfl (PE.build (out:=[_,_,_]) ZfG Zc3 rfl rfl) rfl ?_)))))
 refine bsl (out:=[_,_,_,_,_,_,_,_,_]) rfl Zk4 Zc3 rfl rfl rfl rfl rfl rfl (fun b7=>?_)
 refine pur 1 rfl (sqt 17 rfl (sp rfl (PE.build (out:=[_,_]) Zc7 Z6W rfl rfl) rfl (sp rfl (PE.build (out:=[_,_]) Zc7 Z6W rfl rfl) rfl (sp rfl (PE.build (out:=[_,_]) Zc7 Z6W rfl rfl) rfl (sp rfl (PE.build (out:=[_,_]) Zc7 Z6W rfl rfl) rfl (sp rfl (PE.build (out:=[_,_]) Zc7 Z6W rfl rfl) rfl (sp rfl (PE.build (out:=[_,_]) Zc7 Z6W rfl rfl) rfl (sp rfl (PE.build (out:=[_,_]) Zc7 Z6W rfl rfl) rfl ?_))))))))
 refine bsl (out:=[_,_,_,_,_,_,_,_,_,_,_,_,_,_]) rfl Zk3 Z6W rfl rfl rfl rfl rfl rfl (fun b15=>?_)
 refine pur 3 rfl (sp rfl (PE.lenSl ZcV rfl) rfl (sp rfl (PE.min rfl rfl) rfl (sp rfl (PE.max rfl rfl) rfl ?_)))
 rw [show max (0:Int) (min (k:Int) ((3:Nat):Int))=(k:Int) by omega]
 refine sp rfl (PE.slHi (h:=k) Zk4 rfl rfl (by omega)) rfl (sp rfl (PE.build (out:=[_,_,_]) ZjS ZiI rfl rfl) rfl ?_)
 refine ZB (l':=[.int .i64 6,.slice (some ⟨b15,0,none⟩) 7 7,.slice (some ⟨b7,0,none⟩) k 3]) rfl rfl rfl ZjG rfl rfl rfl rfl (nl rfl) ?_
 refine Z5 ?_
 exact Zr (vs:=[_]) rfl (.cons (RV.cell rfl (lhA [_,_,_] Z2m rfl rfl rfl)) .nil) rfl ⟨b15,b7,rfl,rfl,rfl⟩ (fun w h9=>h9.del b2)
theorem Fn.weakH {P:Program} {f:FuncId} {args:List Value} {H:Z8} {R:Z4} {Q Q':Value→Z8→Z4→Prop} (h:Fn P f args H R Q) (hq:∀ v H' R',Q v H' R'→∃ H2 R2,Q' v H2 R2∧∀ w,St H' R' w→St H2 R2 w):Fn P f args H R Q':=fun w hw =>
 CallsIn.mono (h w hw) (by
   rintro e w' ⟨v,H',R',h1,he,hs⟩
   obtain ⟨H2,R2,h2,h3⟩:=hq v H' R' h1
   exact ⟨v,H2,R2,h2,he,h3 w' hs⟩)
theorem Z69 (k:Nat) (hk:k≤3) (H:Z8) (R:Z4):Fn Tryz.prog 69 [.int .i64 (k:Int)] H R (fun v H' R'=>∃ (ag as_:Option Addr) (cg cs:Nat),v=(six k).v ((six k).sg ag cg) ((six k).ss as_ cs)∧k≤cs∧H'=H∧R'=RowsA ag 2 (grows (six k).gaps)::RowsA as_ 3 (srows (six k).sights)::R) :=
 Fn.weakH (Zgd k hk H R) fun v H' R' hq=>by
   obtain ⟨bg,bs,rfl,rfl,rfl⟩:=hq
   refine ⟨H,_,⟨some ⟨bg,0,none⟩,some ⟨bs,0,none⟩,7,3,by unfold Hse.sg Hse.ss;rw [ZfM hk];rfl,hk,rfl,rfl⟩,fun w h=>?_⟩
   have h1:=St.rows (sz:=2) (rows:=grows Z9w) (rest:=[]) (by rw [List.append_nil];exact h) (Zi1 _)
   have h2:=St.rows (sz:=3) (rows:=srows sixS) (rest:=[]) (by rw [List.append_nil];exact h1) (Zdo _)
   have h3:=St.rowsTake (a:=some ⟨bs,0,none⟩) (sz:=3) (rows:=srows sixS) h2 k
   rw [Z9l] at h3
   exact h3.facts (fun g hg=>by simp only [List.mem_cons] at hg ⊢;rcases hg with h8 | h8 | h8<;>simp [h8])
theorem ZgQ:cal Tryz.prog 145=true:=by kernel_rfl
theorem Z5S:Wth Z9w 7:=by
 intro g hg
 simp only [Z9w,List.mem_cons,List.not_mem_nil,or_false] at hg
 rcases hg with rfl | rfl | rfl | rfl | rfl | rfl | rfl<;>decide
theorem six_w:((six 0).weeksR [0]).1=[0,1,1,2,3,4]∧((six 0).weeksR [0]).2=0:=⟨by kernel_rfl,by kernel_rfl⟩
theorem six_o:((six 2).orgR).1=[4]∧((six 2).orgR).2=0:=⟨by kernel_rfl,by kernel_rfl⟩
theorem six_s:((six 2).surR 1).1=[4,5]∧((six 2).surR 1).2=0:=⟨by kernel_rfl,by kernel_rfl⟩
theorem six_c:((six 3).claR).1=[0,1,2]∧((six 3).claR).2=0:=⟨by kernel_rfl,by kernel_rfl⟩
theorem six_l:(six 0).ledR [0] [3] [[0,2],[1,3]]=2∧(six 0).ledE [0] [3] [[0,2],[1,3]]=0:=⟨by kernel_rfl,by kernel_rfl⟩
theorem six_b:(six 0).botE [0] [5]=0∧(six 0).botE [0] [3]=0∧(six 0).rcE [0] [1] 1=0:=⟨by kernel_rfl,by kernel_rfl,by kernel_rfl⟩
theorem Ziq:plD Z9w 2 1 8 1 0 3=true:=by kernel_rfl
theorem Zir:plD Z9w 2 1 8 1 0 2=false:=by kernel_rfl
theorem Zis:plD Z9w 8 0 8 1 0 10=false:=by kernel_rfl
theorem Zit:plD Z9w 8 1 8 1 0 10=true:=by kernel_rfl
theorem Zio:plD Z9w 32 10 8 1 0 1=true:=by kernel_rfl
theorem Zip:plD Z9w 32 10 8 1 0 0=false:=by kernel_rfl
theorem six_few:Lst (Pl (six 0).gaps (msk [1]) (1:Int).toNat (msk [0]) 0) 3:=Zbt Z5S (by decide) Ziq Zir
theorem ZfL:Lst (Pl (six 0).gaps (msk [5]) 10 (msk [0]) 0) 1:=Zbt Z5S (by decide) Zio Zip
theorem ZfN {s:Nat} (h1:∃ n,Pl (six 0).gaps (msk [3]) s (msk [0]) 0 n) (h2:∀ s',s'<s→∀ n,¬ Pl (six 0).gaps (msk [3]) s' (msk [0]) 0 n):s=1:=by
 rcases Nat.lt_trichotomy s 1 with h3 | h3 | h3
 · obtain rfl:s=0:=by omega
   obtain ⟨n,hn⟩:=h1
   have hf:=hn.few
   have h4:=Z7x (n:=10) (f:=8) Z5S (by decide) (by omega) hn (by have:(six 0).gaps.length=7:=rfl;omega)
   have h5:plD Z9w 8 0 8 1 0 10=true:=h4
   rw [Zis] at h5
   cases h5
 · exact h3
 · obtain ⟨k,_,hk⟩:=Z5M Zit
   exact absurd hk (h2 1 h3 k)
theorem Z9k {f:Nat→Int} {V:List (Nat×Int)} (hf:Flw f (msk [0]) (msk [5]) (six 0).gaps) (hs:Shn (six 0).gaps (fun _=>true) f (msk [0]) (msk [5]) V):(Z2n (Z2o V) (six 0).gaps).length=1:=by
 have hc:=(hs.cut (Z9I (Z4Z six_b.1)) hf).1
 have hl:(Z2n (Z2o V) (six 0).gaps).length≤7:=by
   unfold Z2n
   rw [List.length_map]
   exact Nat.le_trans (List.length_filter_le _ _) (by decide)
 exact (Cut.plan (sp:=10) Z5S (by decide) hc (by omega)).unique ZfL
theorem Zcp (xs ys:List Int) (a a2:Option Addr) (c c2:Nat) (hl:xs.length≤9223372036854775807) (hl2:ys.length≤9223372036854775807) (H:Z8) (R:Z4) [hR:MemRows a 1 (Z6 xs) R] [hR2:MemRows a2 1 (Z6 ys) R] :
    FnV Tryz.prog 145 [.slice a xs.length c,.slice a2 ys.length c2] H R (.bool (decide (xs=ys))):=by
 refine Zc Tryz.func145 rfl Tryz.ntmps145 rfl ?_
 refine sqt 1 rfl (pur 1 rfl (Z0 (sqt 5 rfl (pur 1 rfl (sp rfl (PE.lenSl ZT rfl) rfl (pur 1 rfl (sp rfl (PE.lenSl ZT rfl) rfl (pur 1 rfl ?_))))))))
 refine Z1 rfl ?_ ?_<;>intro hc0
 have hne:xs≠ys:=fun e=>by subst e;simp at hc0
 refine sqt 1 rfl (pur 1 rfl (Z5 ?_))
 exact rtA rfl rfl rfl ⟨by first | (simp only [ZP];rw [dT heq];done) | (simp only [ZP];rw [dF hne]),rfl,rfl⟩ idH
 have hle:xs.length=ys.length:=by simp only [cS] at hc0;omega
 refine Z2 (Z0 (sqt 3 rfl (pur 1 rfl (sp rfl (PE.lenSl ZT rfl) rfl (pur 1 rfl (Z3 ?_))))))
 refine Zb (ι:={k:Nat // k≤xs.length∧xs.take k=ys.take k}) (fun k=>⟨[(0,.slice a xs.length c),(1,.slice a2 ys.length c2),(12,.int .i64 xs.length),(13,.int .i64 k.1)],H,R⟩) (fun k=>xs.length-k.1) ⟨0,by simp⟩ ?_ (fun k=>?_)
 exact Ze idH
 obtain ⟨k,hk,hn⟩:=k
 dsimp only
 refine sqt 1 rfl (pur 1 rfl (Z0 ?_))
 refine Z1 rfl ?_ ?_<;>intro hc1
 simp only [cS] at hc1
 obtain ⟨x,hx⟩:∃ x,xs[k]?=some x:=⟨_,List.getElem?_eq_getElem (by omega)⟩
 obtain ⟨z,hz⟩:∃ z,ys[k]?=some z:=⟨_,List.getElem?_eq_getElem (by omega)⟩
 refine Zi (a:=a) (sz:=1) (rows:=Z6 xs) (by intro h0;simp [Z6] at h0;simp [h0] at hx) (fun b off he=>?_)
 subst he
 refine Zi (a:=a2) (sz:=1) (rows:=Z6 ys) (by intro h0;simp [Z6] at h0;simp [h0] at hz) (fun b2 off2 he=>?_)
 subst he
 refine Z2 (Z0 (Z3 (sqt 2 rfl (pur 2 rfl (Z0 ?_)))))
 refine Zd [0,0,3,7,0,0,48,112,255] (tks 0 3 (.ld 3 (tks 4 3 (.ld 7 (.tk 8 .done))))) Zt (by kernel_rfl) ?_
 refine Zm 2 rfl (tk rfl (PE.indexAddr Z0G rfl rfl (by omega) (by omega)) rfl (ld rfl rfl (lf0 sc3 (by simp [Z6,hx];rfl) rfl) rfl (Zm 2 rfl (tk rfl (PE.indexAddr Z0G rfl rfl (by omega) (by omega)) rfl (ld rfl rfl (lf0 sc3 (by simp [Z6,hz];rfl) rfl) rfl (Zm 1 rfl ?_))))))
 refine Z1 rfl ?_ ?_<;>intro hc2
 have hne:xs≠ys:=fun e=>by subst e;rw [hx] at hz;cases hz;simp at hc2
 refine sqt 1 rfl (pur 1 rfl (Z5 ?_))
 exact rtA rfl rfl rfl ⟨by first | (simp only [ZP];rw [dT heq];done) | (simp only [ZP];rw [dF hne]),rfl,rfl⟩ idH
 have hxz:x=z:=by simpa using hc2
 refine Z2 (sqr 2 rfl (sp rfl (PE.add rfl rfl (by omega)) rfl (pur 1 rfl ?_)))
 exact Z7 ⟨k+1,by omega,by rw [List.take_add_one,List.take_add_one,hn,hx,hz,hxz]⟩ idH
 simp only [cS] at hc1
 obtain rfl:k=xs.length:=by omega
 have heq:xs=ys:=by
   rw [List.take_length] at hn
   exact hn.trans (by rw [hle];exact List.take_length)
 refine Z9 (Za (Za (Zh (sqt 1 rfl (pur 1 rfl (Z5 ?_))))))
 exact rtA rfl rfl rfl ⟨by first | (simp only [ZP];rw [dT heq];done) | (simp only [ZP];rw [dF hne]),rfl,rfl⟩ idH
theorem Z3O (xs ys:List Int) (a a2:Option Addr) (c c2:Nat) (hl:xs.length≤9223372036854775807) (hl2:ys.length≤9223372036854775807) (H:Z8) (R:Z4) [hR:MemRows a 1 (Z6 xs) R] [hR2:MemRows a2 1 (Z6 ys) R] :
    FnV Tryz.prog 76 [.slice a xs.length c,.slice a2 ys.length c2] H R (.bool (decide (xs=ys))):=by
 refine Zc Tryz.func76 rfl Tryz.ntmps76 rfl ?_
 refine sqt 1 rfl (pur 1 rfl (sqt 4 rfl (pur 2 rfl ?_)))
 refine clV rfl ZgQ rfl rfl (Zcp xs ys a a2 c c2 hl hl2 _ _) ?_
 refine pur 1 rfl (Z5 ?_)
 exact rtA rfl rfl rfl ⟨rfl,rfl,rfl⟩ drp
theorem Zat:cal Tryz.prog 24=true:=by kernel_rfl
theorem Zjk:cal Tryz.prog 33=true:=by kernel_rfl
theorem Z6e:cal Tryz.prog 69=true:=by kernel_rfl
theorem Zju:cal Tryz.prog 70=true:=by kernel_rfl
theorem Zjv:cal Tryz.prog 71=true:=by kernel_rfl
theorem Zjw:cal Tryz.prog 72=true:=by kernel_rfl
theorem Zjx:cal Tryz.prog 73=true:=by kernel_rfl
theorem Zjy:cal Tryz.prog 74=true:=by kernel_rfl
theorem Zjz:cal Tryz.prog 75=true:=by kernel_rfl
theorem Zcz:cal Tryz.prog 76=true:=by kernel_rfl
set_option maxHeartbeats 1000000 in
theorem c_awake (H:Z8) (R:Z4) :
    FnV Tryz.prog 28 [] H R (.bool true):=by
 refine Zc Tryz.func28 rfl Tryz.ntmps28 rfl ?_
 refine sqt 1 rfl (pur 1 rfl (sqt 8 rfl ?_))
 refine cl rfl Z6e rfl rfl (Z69 0 (by decide) _ _) ?_
 rintro _ _ R1 ⟨ag18,as18,cg18,cs18,rfl,_,rfl,hR1⟩
 obtain rfl:=hR1.symm
 clear hR1
 refine bsl (out:=[_]) rfl Z0F zl3 rfl rfl rfl rfl rfl rfl (fun b19=>?_)
 refine Sy.heap (fun w h9=>St.rows (sz:=1) (rows:=Z6 [0]) (rest:=[]) (h9.pull b19) (by simp)) ?_
 refine cl rfl Zat rfl rfl (Z9M (six 0) ag18 as18 cg18 cs18 (by decide) (by decide) [0] (some ⟨b19,0,none⟩) 1 (by decide) (by decide) _ _) ?_
 rintro _ _ R1 ⟨a1,c1,_,rfl,rfl,hR1⟩
 obtain rfl:=hR1.symm
 clear hR1
 rw [six_w.1,six_w.2]
 refine pur 5 rfl (sqt 7 rfl ?_)
 refine cl rfl Z6e rfl rfl (Z69 2 (by decide) _ _) ?_
 rintro _ _ R1 ⟨ag24,as24,cg24,cs24,rfl,_,rfl,hR1⟩
 obtain rfl:=hR1.symm
 clear hR1
 refine cl rfl Zju rfl rfl (Z9K (six 2) ag24 as24 cg24 cs24 (by decide) (by decide) _ _) ?_
 rintro _ _ R1 ⟨a2,c2,_,rfl,rfl,hR1⟩
 obtain rfl:=hR1.symm
 clear hR1
 rw [six_o.1,six_o.2]
 refine pur 5 rfl (sqt 7 rfl ?_)
 refine cl rfl Z6e rfl rfl (Z69 2 (by decide) _ _) ?_
 rintro _ _ R1 ⟨ag29,as29,cg29,cs29,rfl,_,rfl,hR1⟩
 obtain rfl:=hR1.symm
 clear hR1
 refine cl rfl Zjv rfl rfl (Zck (six 2) ag29 as29 cg29 cs29 (by decide) (by decide) 1 _ _) ?_
 rintro _ _ R1 ⟨a3,c3,_,rfl,rfl,hR1⟩
 obtain rfl:=hR1.symm
 clear hR1
 rw [six_s.1,six_s.2]
 refine pur 5 rfl (sqt 7 rfl ?_)
 refine cl rfl Z6e rfl rfl (Z69 3 (by decide) _ _) ?_
 rintro _ _ R1 ⟨ag34,as34,cg34,cs34,rfl,_,rfl,hR1⟩
 obtain rfl:=hR1.symm
 clear hR1
 refine cl rfl Zjw rfl rfl (ZeH (six 3) ag34 as34 cg34 cs34 (by decide) (by decide) _ _) ?_
 rintro _ _ R1 ⟨a4,c4,_,rfl,rfl,hR1⟩
 obtain rfl:=hR1.symm
 clear hR1
 rw [six_c.1,six_c.2]
 refine pur 5 rfl (sqt 9 rfl ?_)
 refine cl rfl Z6e rfl rfl (Z69 0 (by decide) _ _) ?_
 rintro _ _ R1 ⟨ag39,as39,cg39,cs39,rfl,_,rfl,hR1⟩
 obtain rfl:=hR1.symm
 clear hR1
 refine bsl (out:=[_]) rfl Z0F zl3 rfl rfl rfl rfl rfl rfl (fun b40=>?_)
 refine bsl (out:=[_]) rfl Z0F zl3 rfl rfl rfl rfl rfl rfl (fun b41=>?_)
 refine Sy.heap (fun w h9=>St.rows (sz:=1) (rows:=Z6 [0]) (rest:=[]) (h9.pull b40) (by simp)) ?_
 refine Sy.heap (fun w h9=>St.rows (sz:=1) (rows:=Z6 [1]) (rest:=[]) (h9.pull b41) (by simp)) ?_
 refine cl rfl Zjx rfl rfl (Zci (six 0) ag39 as39 cg39 cs39 (by decide) (by decide) [0] [1] (some ⟨b40,0,none⟩) (some ⟨b41,0,none⟩) 1 1 (by decide) (by decide) (by decide) (by decide) 1 _ _) ?_
 rintro _ _ R1 ⟨rfl,hR1,hq⟩
 obtain rfl:=hR1.symm
 clear hR1
 rcases hq with ⟨h9,_⟩ | ⟨_,hn,_⟩ | ⟨_,n,_,hn,rfl⟩
 · exact absurd six_b.2.2 h9
 · exact absurd six_few.1 (hn 3)
 obtain rfl:=hn.unique six_few
 refine pur 5 rfl (sqt 12 rfl ?_)
 refine cl rfl Z6e rfl rfl (Z69 0 (by decide) _ _) ?_
 rintro _ _ R1 ⟨ag46,as46,cg46,cs46,rfl,_,rfl,hR1⟩
 obtain rfl:=hR1.symm
 clear hR1
 refine bsl (out:=[_]) rfl Z0F zl3 rfl rfl rfl rfl rfl rfl (fun b47=>?_)
 refine bsl (out:=[_]) rfl Z0F zl3 rfl rfl rfl rfl rfl rfl (fun b48=>?_)
 refine bsl (out:=[_,_]) rfl Z0F zl3 rfl rfl rfl rfl rfl rfl (fun b49=>?_)
 refine bsl (out:=[_,_]) rfl Z0F zl3 rfl rfl rfl rfl rfl rfl (fun b50=>?_)
 refine bsl (out:=[_,_]) rfl ZiQ Zc2 rfl rfl rfl rfl rfl rfl (fun b51=>?_)
 refine Sy.heap (fun w h9=>St.rows (sz:=1) (rows:=Z6 [0]) (rest:=[]) (h9.pull b47) (by simp)) ?_
 refine Sy.heap (fun w h9=>St.rows (sz:=1) (rows:=Z6 [3]) (rest:=[]) (h9.pull b48) (by simp)) ?_
 refine Sy.heap (fun w h9=>St.rows (sz:=1) (rows:=Z6 [0,2]) (rest:=[]) (h9.pull b49) (by simp)) ?_
 refine Sy.heap (fun w h9=>St.rows (sz:=1) (rows:=Z6 [1,3]) (rest:=[]) (h9.pull b50) (by simp)) ?_
 refine Sy.heap (fun w h9=>St.rows (sz:=1) (rows:=Z08 [⟨some ⟨b49,0,none⟩,2,[0,2]⟩,⟨some ⟨b50,0,none⟩,2,[1,3]⟩]) (rest:=[]) (h9.pull b51) (by simp [Z08,Z9e])) ?_
 refine Sy.heap (fun w h9=>St.inn0 h9) ?_
 refine Sy.heap (fun w h9=>(show St _ (Inn [⟨some ⟨b49,0,none⟩,2,[0,2]⟩]::_) w from St.innSnoc (l:=[]) ⟨some ⟨b49,0,none⟩,2,[0,2]⟩ h9)) ?_
 refine Sy.heap (fun w h9=>(show St _ (Inn [⟨some ⟨b49,0,none⟩,2,[0,2]⟩,⟨some ⟨b50,0,none⟩,2,[1,3]⟩]::_) w from St.innSnoc (l:=[⟨some ⟨b49,0,none⟩,2,[0,2]⟩]) ⟨some ⟨b50,0,none⟩,2,[1,3]⟩ h9)) ?_
 refine cl rfl Zjy rfl rfl (ZeJ (six 0) ag46 as46 cg46 cs46 (by decide) (by decide) [0] [3] (some ⟨b47,0,none⟩) (some ⟨b48,0,none⟩) 1 1 (by decide) (by decide) (by decide) (by decide) [⟨some ⟨b49,0,none⟩,2,[0,2]⟩,⟨some ⟨b50,0,none⟩,2,[1,3]⟩] (some ⟨b51,0,none⟩) 2 (by show 2≤1000000;decide) (by show 4≤1000000;decide) _ _) ?_
 rintro _ _ _ ⟨rfl,rfl,rfl⟩
 rw [show lls [⟨some ⟨b49,0,none⟩,2,[0,2]⟩,⟨some ⟨b50,0,none⟩,2,[1,3]⟩]=[[0,2],[1,3]] from rfl,six_l.1,six_l.2]
 refine pur 5 rfl (sqt 9 rfl ?_)
 refine cl rfl Z6e rfl rfl (Z69 0 (by decide) _ _) ?_
 rintro _ _ R1 ⟨ag56,as56,cg56,cs56,rfl,_,rfl,hR1⟩
 obtain rfl:=hR1.symm
 clear hR1
 refine bsl (out:=[_]) rfl Z0F zl3 rfl rfl rfl rfl rfl rfl (fun b57=>?_)
 refine bsl (out:=[_]) rfl Z0F zl3 rfl rfl rfl rfl rfl rfl (fun b58=>?_)
 refine Sy.heap (fun w h9=>St.rows (sz:=1) (rows:=Z6 [0]) (rest:=[]) (h9.pull b57) (by simp)) ?_
 refine Sy.heap (fun w h9=>St.rows (sz:=1) (rows:=Z6 [5]) (rest:=[]) (h9.pull b58) (by simp)) ?_
 refine cl rfl Zjk rfl rfl (Zj5 (six 0) ag56 as56 cg56 cs56 (by decide) (by decide) [0] [5] (some ⟨b57,0,none⟩) (some ⟨b58,0,none⟩) 1 1 (by decide) (by decide) (by decide) (by decide) _ _) ?_
 rintro _ _ R1 ⟨rfl,hq⟩
 rcases hq with ⟨h9,_⟩ | ⟨_,f,V,a5,c5,hf,hs,_,rfl,hR1⟩
 · exact absurd six_b.1 h9
 obtain rfl:=hR1.symm
 clear hR1
 rw [Z9k hf hs]
 refine pur 5 rfl (sqt 9 rfl ?_)
 refine cl rfl Z6e rfl rfl (Z69 0 (by decide) _ _) ?_
 rintro _ _ R1 ⟨ag63,as63,cg63,cs63,rfl,_,rfl,hR1⟩
 obtain rfl:=hR1.symm
 clear hR1
 refine bsl (out:=[_]) rfl Z0F zl3 rfl rfl rfl rfl rfl rfl (fun b64=>?_)
 refine bsl (out:=[_]) rfl Z0F zl3 rfl rfl rfl rfl rfl rfl (fun b65=>?_)
 refine Sy.heap (fun w h9=>St.rows (sz:=1) (rows:=Z6 [0]) (rest:=[]) (h9.pull b64) (by simp)) ?_
 refine Sy.heap (fun w h9=>St.rows (sz:=1) (rows:=Z6 [3]) (rest:=[]) (h9.pull b65) (by simp)) ?_
 refine cl rfl Zjz rfl rfl (ZeL (six 0) ag63 as63 cg63 cs63 (by decide) (by decide) [0] [3] (some ⟨b64,0,none⟩) (some ⟨b65,0,none⟩) 1 1 (by decide) (by decide) (by decide) (by decide) _ _) ?_
 rintro _ _ R1 ⟨rfl,hR1,hq⟩
 obtain rfl:=hR1.symm
 clear hR1
 rcases hq with ⟨h9,_⟩ | ⟨_,n,_,hn1,hn2,rfl⟩
 · exact absurd six_b.2.1 h9
 obtain rfl:=ZfN hn1 hn2
 refine pur 5 rfl (sqt 68 rfl (pur 3 rfl ?_))
 refine Zw 71 rfl ?_ ?_<;>intro g71
 refine pur 4 rfl ?_
 refine Zw 75 rfl ?_ ?_<;>intro g75
 refine pur 4 rfl ?_
 refine Zw 79 rfl ?_ ?_<;>intro g79
 refine pur 4 rfl ?_
 refine Zw 83 rfl ?_ ?_<;>intro g83
 refine pur 4 rfl ?_
 refine Zw 87 rfl ?_ ?_<;>intro g87
 refine pur 4 rfl ?_
 refine Zw 91 rfl ?_ ?_<;>intro g91
 refine pur 4 rfl ?_
 refine Zw 95 rfl ?_ ?_<;>intro g95
 refine pur 4 rfl ?_
 refine Zw 99 rfl ?_ ?_<;>intro g99
 refine pur 1 rfl ?_
 refine ZiK (out:=[_,_,_,_,_,_]) rfl rfl rfl rfl Z0F zl3 rfl rfl rfl rfl rfl rfl (fun b101=>?_)
 refine Sy.heap (fun w h9=>St.rows (sz:=1) (rows:=Z6 [0,1,1,2,3,4]) (rest:=[]) (h9.pull b101) (by simp)) ?_
 refine Z9t rfl rfl rfl rfl Zcz rfl rfl (Z3O [0,1,1,2,3,4] [0,1,1,2,3,4] a1 (some ⟨b101,0,none⟩) c1 6 (by decide) (by decide) _ _) ?_
 refine pur 2 rfl ?_
 refine Zw 104 rfl ?_ ?_<;>intro g104
 refine pur 1 rfl ?_
 refine ZiK (out:=[_]) rfl rfl rfl rfl Z0F zl3 rfl rfl rfl rfl rfl rfl (fun b106=>?_)
 refine Sy.heap (fun w h9=>St.rows (sz:=1) (rows:=Z6 [4]) (rest:=[]) (h9.pull b106) (by simp)) ?_
 refine Z9t rfl rfl rfl rfl Zcz rfl rfl (Z3O [4] [4] a2 (some ⟨b106,0,none⟩) c2 1 (by decide) (by decide) _ _) ?_
 refine pur 2 rfl ?_
 refine Zw 109 rfl ?_ ?_<;>intro g109
 refine pur 1 rfl ?_
 refine ZiK (out:=[_,_]) rfl rfl rfl rfl Z0F zl3 rfl rfl rfl rfl rfl rfl (fun b111=>?_)
 refine Sy.heap (fun w h9=>St.rows (sz:=1) (rows:=Z6 [4,5]) (rest:=[]) (h9.pull b111) (by simp)) ?_
 refine Z9t rfl rfl rfl rfl Zcz rfl rfl (Z3O [4,5] [4,5] a3 (some ⟨b111,0,none⟩) c3 2 (by decide) (by decide) _ _) ?_
 refine pur 2 rfl ?_
 refine Zw 114 rfl ?_ ?_<;>intro g114
 refine pur 1 rfl ?_
 refine ZiK (out:=[_,_,_]) rfl rfl rfl rfl Z0F zl3 rfl rfl rfl rfl rfl rfl (fun b116=>?_)
 refine Sy.heap (fun w h9=>St.rows (sz:=1) (rows:=Z6 [0,1,2]) (rest:=[]) (h9.pull b116) (by simp)) ?_
 refine Z9t rfl rfl rfl rfl Zcz rfl rfl (Z3O [0,1,2] [0,1,2] a4 (some ⟨b116,0,none⟩) c4 3 (by decide) (by decide) _ _) ?_
 refine pur 2 rfl ?_
 refine Zw 119 rfl ?_ ?_<;>intro g119
 refine pur 4 rfl ?_
 refine Zw 123 rfl ?_ ?_<;>intro g123
 refine pur 4 rfl ?_
 refine Zw 127 rfl ?_ ?_<;>intro g127
 refine pur 1 rfl ?_
 refine spG rfl rfl rfl rfl (PE.lenSl ZT rfl) rfl ?_
 refine pur 3 rfl ?_
 refine Zw 132 rfl ?_ ?_<;>intro g132
 refine pur 4 rfl (Z5 ?_)
 exact rtA rfl rfl rfl ⟨rfl,rfl,rfl⟩ (fun w h9=>St.sub h9)
 exact absurd g132 (by decide)
 exact absurd g127 (by decide)
 exact absurd g123 (by decide)
 exact absurd g119 (by decide)
 exact absurd g114 (by decide)
 exact absurd g109 (by decide)
 exact absurd g104 (by decide)
 exact absurd g99 (by decide)
 exact absurd g95 (by decide)
 exact absurd g91 (by decide)
 exact absurd g87 (by decide)
 exact absurd g83 (by decide)
 exact absurd g79 (by decide)
 exact absurd g75 (by decide)
 exact absurd g71 (by decide)
theorem ZcT:Zb3 Tryz.prog 109=some .u32:=by kernel_rfl
theorem Z9b:Z3G Tryz.prog 22=true:=by kernel_rfl
theorem ZfF:Z00 Tryz.prog 111=some [(0,1),(1,1),(2,1)]:=by kernel_rfl
theorem us3:(Tryz.prog.underlying 3).isSome=true:=by kernel_rfl
theorem us5:(Tryz.prog.underlying 5).isSome=true:=by kernel_rfl
theorem ZfY:ZD Tryz.prog 111=some ([.slice none 0 0,.int .i64 0,.int .u32 0]):=by kernel_rfl
def urow (x:Int):List Value:=[.int .u8 x]
def Z4U (l:List Int):List (List Value):=l.map urow
theorem ZdA (g:List Int) (ag:Option Addr) (cg:Nat) (hgl:g.length≤9223372036854775807) (H:Z8) (R:Z4) :
    Fn Tryz.prog 7 [.slice ag g.length cg] H R (fun v H' R'=>∃ bk,∃ mx:Int,(0≤mx∧mx≤4294967295)∧v = .pointer (some ⟨bk,0,none⟩)∧H'=(bk,cel 111 [.slice ag g.length cg,.int .i64 (0),.int .u32 (mx)])::H∧R'=R):=by
 refine Zc Tryz.func7 rfl Tryz.ntmps7 rfl ?_
 refine sqt 1 rfl (pur 1 rfl (sqt 8 rfl (pur 2 rfl (sp rfl (PE.lenSl Z9b rfl) rfl ?_))))
 refine spE rfl (PE.convU us3 ZcT rfl) rfl ?_
 rintro _ ⟨u6,rfl,hu6⟩
 refine spE rfl (PE.xorU rfl rfl) rfl ?_
 rintro _ ⟨u7,rfl,hu7⟩
 refine sp rfl (PE.build (out:=[_,_,_]) ZfF ZfY rfl rfl) rfl (bx rfl rfl rfl (fun b9=>pur 1 rfl (Z5 ?_)))
 exact rtA rfl rfl rfl ⟨b9,u7,hu7,rfl,rfl,rfl⟩ idH
structure MadeW (h:Hse) (nb ng:Int):Prop where
 bins:2≤h.bins∧h.bins≤nb
 gl:(h.gaps.length:Int)≤ng
 gaps:∀ g∈h.gaps,(0≤g.a∧g.a<h.bins)∧(0≤g.b∧g.b<h.bins)∧g.a≠g.b
 none:h.sights=[]
theorem MadeW.ok {h:Hse} {nb ng:Int} (hm:MadeW h nb ng) (h1:nb≤7) (h2:ng≤10):h.ok:=⟨by have:=hm.bins;omega,by have:=hm.gl;omega,by rw [hm.none];exact Nat.zero_le _,hm.gaps,by rw [hm.none];simp⟩
def ini (f:Nat→Int) (n k:Nat):List Int:=(List.range n).map fun j=>bif decide (j<k) then f j else 0
theorem Zfj (f:Nat→Int) (n k:Nat):(ini f n k).length=n:=by simp [ini]
theorem Zi2 {f:Nat→Int} {n k j:Nat} (hj:j<n):na (ini f n k) j=bif decide (j<k) then f j else 0:=by
 unfold na ini
 rw [List.getD_eq_getElem?_getD,List.getElem?_map,List.getElem?_range hj];rfl
def in0 (fr:List Int) (j:Nat):Int:=bif Z5A fr j then 0 else 100
theorem Zfh {l:List Int} (h:∀ x∈l,0≤x) (j:Nat):Z5A l (j:Int)=(msk l).testBit j:=by rw [Bool.eq_iff_iff,hasI_iff,ZN h]
theorem FolI.start {gs:List Gp} {cl:Nat→Nat} {fr:List Int} (h:∀ x∈fr,0≤x) (n:Nat):FolI gs cl (msk fr) n 0 (Z6Z gs (cl 0) (lvp gs cl (msk fr) 0) 0) (ini (in0 fr) n n):=⟨Zfj _ _ _,fun k hk=>by
 rw [Zi2 hk,decide_eq_true hk,cond_true]
 unfold in0
 rw [Zfh h]
 show _=bif (msk fr).testBit k then fol gs cl (msk fr) 0 k else bif (msk fr).testBit k then _ else 100
 cases hb:(msk fr).testBit k with
 | false=>rfl
 | true =>
   rw [cond_true,cond_true]
   exact (ZaX (t:=0) (Nat.le_refl _) hb (fun i hi=>absurd hi (Nat.not_lt_zero _))).symm⟩
theorem weeksV_len {h:Hse} (hk:h.ok) (l:List Int):(h.weeksV l).length=h.bins.toNat:=by
 unfold Hse.weeksV
 rw [List.length_take,Z3o,Z0b]
 have:=hk.bins;omega
theorem weeksV_at {h:Hse} (hk:h.ok) (l:List Int) {k:Nat} (hk2:k<h.bins.toNat):na (h.weeksV l) k=wkN h.gaps (msk l) k:=by
 have hb:=hk.bins
 unfold na Hse.weeksV wkR
 rw [List.getD_eq_getElem?_getD,List.getElem?_take,if_pos hk2,List.getElem?_map,ZR (by rw [Z0b];omega),Z2G (by omega)];rfl
theorem ZcW {h:Hse} (hk:h.ok) {l:List Int} (hl:Z0y h.bins l=0):h.lsE l=0:=(Ze9 (hse_ok.2 hk)).trans hl
theorem one_ls {n x:Int} (h:0≤x∧x<n):Z0y n [x]=0:=ZcX (fun y hy=>by rw [List.mem_singleton.1 hy];exact h) (by simp)
theorem c_WeeksK (h:Hse) (ag as_:Option Addr) (cg cs:Nat) (hok:h.ok) (l:List Int) (a:Option Addr) (c:Nat) (hle:Z0y h.bins l=0) (hl:l.length≤1000000) (hlc:l.length≤c) (H:Z8) (R:Z4) [hG:MemRows ag 2 (grows h.gaps) R] [hS:MemRows as_ 3 (srows h.sights) R] [hR:MemRows a 1 (Z6 l) R]:Fn Tryz.prog 24 [h.v (h.sg ag cg) (h.ss as_ cs),.slice a l.length c] H R (fun v H' R'=>∃ a c',v = .tuple #[.slice a h.bins.toNat c',.int .i64 0]∧H'=H∧R'=RowsA a 1 (Z6 (h.weeksV l))::R):=fun w hw=>by
 refine CallsIn.mono (Z9M h ag as_ cg cs (by have:=hok.gl;omega) (by have:=hok.sl;omega) l a c (by omega) hlc H R w hw) ?_
 rintro e' w' ⟨u,H',R',⟨a',c',h1,rfl,rfl,rfl⟩,he,hs'⟩
 have e:=Z6T (ZcW hok hle)
 rw [e] at hs' he
 exact ⟨_,_,_,⟨a',c',by rw [weeksV_len hok],rfl,rfl⟩,he,hs'⟩
end Go.Proofs.YtcfdanhklbklkaaGreat.Wv
namespace Go.Proofs.YtcfdanhklbklkaaGreat.Sk
set_option linter.unusedSimpArgs false
set_option linter.unusedVariables false
structure Fl where
 fr:Nat
 to:Nat
 lo:Int
 hi:Int
def na (l:List Int) (k:Nat):Int:=l.getD k 0
def ovr:List Fl→List Int→Nat→Int
 | f::F,a::A,c=>((bif decide (f.to=c) then a else 0)-(bif decide (f.fr=c) then a else 0))+ovr F A c
 | _,_,_=>0
def pot (p:Nat→Int):List Fl→List Int→Int
 | f::F,a::A=>(p f.to-p f.fr)*a+pot p F A
 | _,_=>0
def Z2J (g:Nat→Int):Nat→Int
 | 0=>0
 | n+1=>Z2J g n+g n
theorem Z8P (g h:Nat→Int):∀ n,Z2J (fun c=>g c+h c) n=Z2J g n+Z2J h n
 | 0=>rfl
 | n+1=>by unfold Z2J;rw [Z8P g h n];omega
theorem Z15 {g:Nat→Int}:∀ n,(∀ c,c<n→g c=0)→Z2J g n=0
 | 0,_=>rfl
 | n+1,h=>by unfold Z2J;rw [Z15 n (fun c hc=>h c (by omega)),h n (by omega)];rfl
theorem Z5X {p:Nat→Int} {x:Nat} {a:Int}:∀ {n},x<n→Z2J (fun c=>p c*(bif decide (x=c) then a else 0)) n=p x*a
 | n+1,h=>by
   unfold Z2J
   by_cases e:x=n
   · subst e
     rw [Z15 x (fun c hc=>by rw [decide_eq_false (by omega),cond_false,Int.mul_zero]),decide_eq_true rfl,cond_true];omega
   · rw [Z5X (n:=n) (by omega),decide_eq_false e,cond_false,Int.mul_zero];omega
theorem Z5Y (g h:Nat→Int):∀ n,Z2J (fun c=>g c-h c) n=Z2J g n-Z2J h n
 | 0=>rfl
 | n+1=>by unfold Z2J;rw [Z5Y g h n];omega
theorem Z8G (p:Nat→Int) {n:Nat}:∀ {F:List Fl} {A:List Int},(∀ f∈F,f.fr<n∧f.to<n)→Z2J (fun c=>p c*ovr F A c) n=pot p F A
 | [],A,_=>by rw [Z15 n (fun c _=>by unfold ovr;exact Int.mul_zero _)];rfl
 | f::F,[],_=>by rw [Z15 n (fun c _=>by unfold ovr;exact Int.mul_zero _)];rfl
 | f::F,a::A,h=>by
   have hf:=h f (by simp)
   have ih:=Z8G p (n:=n) (F:=F) (A:=A) (fun g hg=>h g (by simp [hg]))
   have e:(fun c=>p c*ovr (f::F) (a::A) c)=fun c=>(p c*(bif decide (f.to=c) then a else 0)-p c*(bif decide (f.fr=c) then a else 0))+p c*ovr F A c:=funext fun c=>by
     show p c*(_+ovr F A c)=_
     rw [Int.mul_add,Int.mul_sub]
   rw [e,Z8P (fun c=>p c*(bif decide (f.to=c) then a else 0)-p c*(bif decide (f.fr=c) then a else 0)),Z5Y,Z5X hf.2,Z5X hf.1,ih]
   show _=(p f.to-p f.fr)*a+pot p F A
   rw [Int.sub_mul]
structure Feas (n:Nat) (F:List Fl) (A:List Int):Prop where
 len:A.length=F.length
 bnd:∀ i f,F[i]?=some f→f.lo≤na A i∧na A i≤f.hi
 bal:∀ c,c<n→ovr F A c=0
theorem Feas.pot {n:Nat} {F:List Fl} {A:List Int} (h:Feas n F A) (hF:∀ f∈F,f.fr<n∧f.to<n) (p:Nat→Int):pot p F A=0:=by
 rw [← Z8G p hF]
 exact Z15 n fun c hc=>by rw [h.bal c hc];exact Int.mul_zero _
def Z0O:(Nat→Int)→List Int→Int
 | w,a::A=>w 0*a+Z0O (fun i=>w (i+1)) A
 | _,[]=>0
theorem Z8X {p:Nat→Int}:∀ {F:List Fl} {A B:List Int} {w:Nat→Int},A.length=F.length→B.length=F.length →
   (∀ i f,F[i]?=some f→w i*(na B i-na A i)≤(p f.to-p f.fr)*(na B i-na A i))→Z0O w B-Z0O w A≤pot p F B-pot p F A
 | [],[],[],w,_,_,_=>Int.le_refl 0
 | f::F,a::A,b::B,w,hA,hB,h=>by
   have h0:=h 0 f rfl
   have ih:=Z8X (p:=p) (F:=F) (A:=A) (B:=B) (w:=fun i=>w (i+1)) (by simpa using hA) (by simpa using hB) (fun i g hg=>h (i+1) g hg)
   show (w 0*b+_)-(w 0*a+_)≤((p f.to-p f.fr)*b+_)-((p f.to-p f.fr)*a+_)
   have h1:w 0*(b-a)≤(p f.to-p f.fr)*(b-a):=h0
   rw [Int.mul_sub,Int.mul_sub] at h1
   omega
theorem Zic {n:Nat} {F:List Fl} {A B:List Int} (hF:∀ f∈F,f.fr<n∧f.to<n) (hA:Feas n F A) (hB:Feas n F B) {w p:Nat→Int}
   (hm:∀ i f,F[i]?=some f→na A i<f.hi→p f.fr+w i≤p f.to) (hl:∀ i f,F[i]?=some f→f.lo<na A i→p f.to-w i≤p f.fr):Z0O w B≤Z0O w A:=by
 have h:=Z8X (p:=p) (w:=w) hA.len hB.len (fun i f hf=>by
   have hb:=hB.bnd i f hf
   rcases Int.lt_trichotomy (na A i) (na B i) with h1 | h1 | h1
   · have:=hm i f hf (by omega)
     exact Int.mul_le_mul_of_nonneg_right (by omega) (by omega)
   · rw [h1,Int.sub_self,Int.mul_zero,Int.mul_zero];exact Int.le_refl _
   · have:=hl i f hf (by omega)
     exact Int.mul_le_mul_of_nonpos_right (by omega) (by omega))
 rw [hA.pot hF p,hB.pot hF p] at h
 omega
theorem Zeh {S:Nat→Bool}:∀ {F:List Fl} {A B:List Int},A.length=F.length→B.length=F.length →
   (∀ i f,F[i]?=some f→S f.to=true→S f.fr=false→na A i≤na B i)→(∀ i f,F[i]?=some f→S f.to=false→S f.fr=true→na B i≤na A i) →
   pot (fun c=>bif S c then 1 else 0) F A≤pot (fun c=>bif S c then 1 else 0) F B
 | [],[],[],_,_,_,_=>Int.le_refl 0
 | f::F,a::A,b::B,hA,hB,h1,h2=>by
   have ih:=Zeh (S:=S) (F:=F) (A:=A) (B:=B) (by simpa using hA) (by simpa using hB) (fun i g hg=>h1 (i+1) g hg) (fun i g hg=>h2 (i+1) g hg)
   have k1:S f.to=true→S f.fr=false→a≤b:=h1 0 f rfl
   have k2:S f.to=false→S f.fr=true→b≤a:=h2 0 f rfl
   show ((bif S f.to then 1 else 0)-(bif S f.fr then 1 else 0))*a+_≤((bif S f.to then 1 else 0)-(bif S f.fr then 1 else 0))*b+_
   cases e1:S f.to<;>cases e2:S f.fr<;>simp only [cond_true,cond_false]
   · omega
   · have:=k2 e1 e2;omega
   · have:=k1 e1 e2;omega
   · omega
theorem Z9m {n:Nat} {F:List Fl} {A B:List Int} (hF:∀ f∈F,f.fr<n∧f.to<n) (hlen:A.length=F.length) {S:Nat→Bool}
   (hin:∀ i f,F[i]?=some f→S f.to=true→S f.fr=false→na A i≤f.lo) (hout:∀ i f,F[i]?=some f→S f.to=false→S f.fr=true→f.hi≤na A i)
   (hpos:0<Z2J (fun c=>(bif S c then 1 else 0)*ovr F A c) n) (hB:Feas n F B):False:=by
 rw [Z8G (fun c=>bif S c then 1 else 0) hF] at hpos
 have h:=Zeh (S:=S) hlen hB.len (fun i f hf e1 e2=>by have:=hin i f hf e1 e2;have:=hB.bnd i f hf;omega) (fun i f hf e1 e2=>by have:=hout i f hf e1 e2;have:=hB.bnd i f hf;omega)
 rw [hB.pot hF] at h
 omega
theorem Z12 {l:List Int} {i k:Nat} {v:Int} (hi:i<l.length):na (l.set i v) k=bif decide (i=k) then v else na l k:=by
 unfold na
 rw [List.getD_eq_getElem?_getD,List.getD_eq_getElem?_getD,List.getElem?_set]
 by_cases e:i=k
 · subst e;rw [if_pos rfl,if_pos hi,decide_eq_true rfl];rfl
 · rw [if_neg e,decide_eq_false e];rfl
def fl (F:List Fl) (i:Nat):Fl:=F.getD i ⟨0,0,0,0⟩
theorem Z0h {F:List Fl} {i:Nat} {f:Fl} (h:F[i]?=some f):fl F i=f:=by unfold fl;rw [List.getD_eq_getElem?_getD,h];rfl
theorem Z3w {F:List Fl} {i:Nat} (h:i<F.length):F[i]?=some (fl F i):=by unfold fl;rw [List.getD_eq_getElem?_getD,List.getElem?_eq_getElem h];rfl
structure Wy where
 i:Nat
 more:Bool
 deriving DecidableEq
def Wy.fr (F:List Fl) (w:Wy):Nat:=bif w.more then (fl F w.i).fr else (fl F w.i).to
def Wy.to (F:List Fl) (w:Wy):Nat:=bif w.more then (fl F w.i).to else (fl F w.i).fr
def Wy.res (F:List Fl) (A:List Int) (w:Wy):Int:=bif w.more then (fl F w.i).hi-na A w.i else na A w.i-(fl F w.i).lo
def Wy.s (w:Wy):Int:=bif w.more then 1 else -1
def snd (A:List Int) (l:List Wy) (n:Int):List Int:=l.foldl (fun A w=>A.set w.i (na A w.i+w.s*n)) A
theorem Z7E (l:List Wy) (n:Int):∀ A:List Int,(snd A l n).length=A.length:=by
 induction l with
 | nil=>exact fun A=>rfl
 | cons w l ih=>intro A;show (snd (A.set w.i _) l n).length=_;rw [ih,List.length_set]
theorem Zbq {c:Nat} {x:Int}:∀ {F:List Fl} {A:List Int} {i:Nat},A.length=F.length→i<F.length →
   ovr F (A.set i (na A i+x)) c=ovr F A c+((bif decide ((fl F i).to=c) then x else 0)-(bif decide ((fl F i).fr=c) then x else 0))
 | f::F,a::A,0,_,_=>by
   show ((bif decide (f.to=c) then (a+x) else 0)-(bif decide (f.fr=c) then (a+x) else 0))+ovr F A c=(((bif decide (f.to=c) then a else 0)-(bif decide (f.fr=c) then a else 0))+ovr F A c)+((bif decide (f.to=c) then x else 0)-(bif decide (f.fr=c) then x else 0))
   cases decide (f.to=c)<;>cases decide (f.fr=c)<;>simp only [cond_true,cond_false]<;>omega
 | f::F,a::A,i+1,h,hi=>by
   have ih:=Zbq (c:=c) (x:=x) (F:=F) (A:=A) (i:=i) (by simpa using h) (by simpa using hi)
   show _+ovr F (A.set i (na A i+x)) c=(_+ovr F A c)+_
   rw [ih,Int.add_assoc];rfl
def eff (F:List Fl):List Wy→Nat→Int
 | [],_=>0
 | w::l,c=>((bif decide (w.to F=c) then 1 else 0)-(bif decide (w.fr F=c) then 1 else 0))+eff F l c
theorem ZfB {F:List Fl} {A:List Int} {w:Wy} {n:Int} {c:Nat} (hA:A.length=F.length) (hw:w.i<F.length) :
   ovr F (A.set w.i (na A w.i+w.s*n)) c=ovr F A c+n*((bif decide (w.to F=c) then 1 else 0)-(bif decide (w.fr F=c) then 1 else 0)):=by
 rw [Zbq hA hw]
 unfold Wy.to Wy.fr Wy.s
 cases w.more<;>simp only [cond_true,cond_false]<;>cases decide ((fl F w.i).to=c)<;>cases decide ((fl F w.i).fr=c)<;>simp only [cond_true,cond_false]<;>omega
theorem Z7v {F:List Fl} {n:Int} {c:Nat}:∀ {l:List Wy} {A:List Int},A.length=F.length→(∀ w∈l,w.i<F.length)→ovr F (snd A l n) c=ovr F A c+n*eff F l c
 | [],A,_,_=>by show ovr F A c=_+n*0;omega
 | w::l,A,hA,hl=>by
   have ih:=Z7v (F:=F) (n:=n) (c:=c) (l:=l) (A:=A.set w.i (na A w.i+w.s*n)) (by rw [List.length_set];exact hA) (fun v hv=>hl v (by simp [hv]))
   show ovr F (snd (A.set w.i (na A w.i+w.s*n)) l n) c=_
   rw [ih,ZfB hA (hl w (by simp))]
   show _=ovr F A c+n*(_+eff F l c)
   rw [Int.mul_add];omega
def chn (F:List Fl):List Wy→Nat→Nat→Prop
 | [],b,a=>b=a
 | w::l,b,a=>w.to F=b∧chn F l (w.fr F) a
theorem Z7f {F:List Fl} {c:Nat}:∀ {l:List Wy} {b a:Nat},chn F l b a→eff F l c=(bif decide (b=c) then 1 else 0)-(bif decide (a=c) then 1 else 0)
 | [],b,a,h=>by
   have h:b=a:=h
   subst h
   show (0:Int)=_
   omega
 | w::l,b,a,⟨h1,h2⟩=>by
   have ih:=Z7f (c:=c) h2
   show _+eff F l c=_
   rw [ih,h1];omega
theorem Zej {n:Int} {k:Nat}:∀ {l:List Wy} {A:List Int},(∀ w∈l,w.i<A.length)→l.Nodup →
   na (snd A l n) k=na A k+((bif l.contains ⟨k,true⟩ then n else 0)-(bif l.contains ⟨k,false⟩ then n else 0))
 | [],A,_,_=>by show na A k=na A k+(0-0);omega
 | w::l,A,hl,hn=>by
   have hw:=hl w (by simp)
   obtain ⟨h1,h2⟩:=List.nodup_cons.1 hn
   have ih:=Zej (n:=n) (k:=k) (l:=l) (A:=A.set w.i (na A w.i+w.s*n)) (fun v hv=>by rw [List.length_set];exact hl v (by simp [hv])) h2
   show na (snd (A.set w.i (na A w.i+w.s*n)) l n) k=_
   rw [ih,Z12 hw,List.contains_cons,List.contains_cons]
   obtain ⟨i,m⟩:=w
   by_cases e:i=k
   · subst e
     have h3:l.contains ⟨i,m⟩=false:=by simpa using h1
     unfold Wy.s
     rw [decide_eq_true rfl,cond_true]
     cases m with
     | true =>
       rw [h3,show ((⟨i,true⟩:Wy) == ⟨i,true⟩)=true by simp,show ((⟨i,false⟩:Wy) == ⟨i,true⟩)=false by simp]
       simp only [cond_true,cond_false,Bool.true_or,Bool.false_or];omega
     | false =>
       rw [h3,show ((⟨i,false⟩:Wy) == ⟨i,false⟩)=true by simp,show ((⟨i,true⟩:Wy) == ⟨i,false⟩)=false by simp]
       simp only [cond_true,cond_false,Bool.true_or,Bool.false_or];omega
   · rw [decide_eq_false e,cond_false,show ((⟨k,true⟩:Wy) == ⟨i,m⟩)=false by simp;intro h;exact absurd h.symm e,show ((⟨k,false⟩:Wy) == ⟨i,m⟩)=false by simp;intro h;exact absurd h.symm e]
     simp only [Bool.false_or]
theorem ZbD {F:List Fl} {A:List Int} {l:List Wy} {n:Int} (hA:A.length=F.length) (hb:∀ i f,F[i]?=some f→f.lo≤na A i∧na A i≤f.hi) (hl:∀ w∈l,w.i<F.length∧n≤w.res F A) (hd:l.Nodup) (hn:0≤n) :
   ∀ i f,F[i]?=some f→f.lo≤na (snd A l n) i∧na (snd A l n) i≤f.hi:=fun i f hf=>by
 have h0:=hb i f hf
 rw [Zej (fun w hw=>by rw [hA];exact (hl w hw).1) hd]
 have h1:l.contains (⟨i,true⟩:Wy)=true→n≤f.hi-na A i:=fun h=>by
   have:=(hl _ (by simpa using h)).2
   unfold Wy.res at this;rw [Z0h hf] at this;exact this
 have h2:l.contains (⟨i,false⟩:Wy)=true→n≤na A i-f.lo:=fun h=>by
   have:=(hl _ (by simpa using h)).2
   unfold Wy.res at this;rw [Z0h hf] at this;exact this
 cases e1:l.contains (⟨i,true⟩:Wy)<;>cases e2:l.contains (⟨i,false⟩:Wy)<;>simp only [cond_true,cond_false]
 · omega
 · have:=h2 e2;omega
 · have:=h1 e1;omega
 · omega
theorem Zdm {m:Nat} {F:List Fl} {A:List Int} (h:Feas m F A) {l:List Wy} {n:Int} (hl:∀ w∈l,w.i<F.length∧n≤w.res F A) (hd:l.Nodup) (hn:0≤n) {b:Nat} (hc:chn F l b b):Feas m F (snd A l n) :=
 ⟨(Z7E l n A).trans h.len,ZbD h.len h.bnd hl hd hn,fun c hcm=>by
   rw [Z7v h.len (fun w hw=>(hl w hw).1),h.bal c hcm,Z7f hc]
   rw [Int.sub_self,Int.mul_zero];rfl⟩
theorem Z8Y:∀ {A:List Int} {i:Nat} {x:Int} {w:Nat→Int},i<A.length→Z0O w (A.set i (na A i+x))=Z0O w A+w i*x
 | a::A,0,x,w,_=>by
   show w 0*(a+x)+_=(w 0*a+_)+w 0*x
   rw [Int.mul_add];omega
 | a::A,i+1,x,w,h=>by
   have ih:=Z8Y (A:=A) (i:=i) (x:=x) (w:=fun i=>w (i+1)) (by simpa using h)
   show w 0*a+Z0O (fun i=>w (i+1)) (A.set i (na A i+x))=(w 0*a+_)+w (i+1)*x
   rw [ih];omega
def wth (w:Nat→Int) (l:List Wy):Int:=(l.map fun v=>v.s*w v.i).sum
theorem Z8Z {n:Int} {w:Nat→Int}:∀ {l:List Wy} {A:List Int},(∀ v∈l,v.i<A.length)→Z0O w (snd A l n)=Z0O w A+n*wth w l
 | [],A,_=>by show Z0O w A=_+n*0;omega
 | v::l,A,h=>by
   have ih:=Z8Z (n:=n) (w:=w) (l:=l) (A:=A.set v.i (na A v.i+v.s*n)) (fun u hu=>by rw [List.length_set];exact h u (by simp [hu]))
   show Z0O w (snd (A.set v.i (na A v.i+v.s*n)) l n)=_
   rw [ih,Z8Y (h v (by simp))]
   show _=Z0O w A+n*(v.s*w v.i+wth w l)
   rw [Int.mul_add,Int.mul_comm (w v.i),Int.mul_comm v.s n,Int.mul_assoc,Int.mul_comm v.s]
   have:n*(w v.i*v.s)=n*(v.s*w v.i):=by rw [Int.mul_comm (w v.i)]
   first | omega | (rw [Int.mul_comm v.s] ;omega)
def Wy.ok (n:Nat) (F:List Fl) (A:List Int) (w:Wy):Prop:=w.i<F.length∧1≤w.res F A∧w.fr F<n∧w.to F<n
def Wy.g (wt:Nat→Int) (w:Wy):Int:=w.s*wt w.i
structure BFs where
 p:Nat→Int
 by_:Nat→Wy
 rk:Nat→Nat
 tm:Nat→Nat
 now:Nat
def upd {α:Type} (f:Nat→α) (k:Nat) (v:α):Nat→α:=fun c=>if c=k then v else f c
theorem Z06 {α:Type} {f:Nat→α} {k:Nat} {v:α}:upd f k v k=v:=if_pos rfl
theorem ZV {α:Type} {f:Nat→α} {k c:Nat} {v:α} (h:c≠k):upd f k v c=f c:=if_neg h
def BFs.put (F:List Fl) (wt:Nat→Int) (s:BFs) (r:Nat) (v:Wy):BFs:=⟨upd s.p (v.to F) (s.p (v.fr F)+v.g wt),upd s.by_ (v.to F) v,upd s.rk (v.to F) (r+1),upd s.tm (v.to F) (s.now+1),s.now+1⟩
def BFs.calm (n:Nat) (F:List Fl) (A:List Int) (wt:Nat→Int) (s:BFs) (c:Nat):Prop:=∀ v:Wy,v.ok n F A→v.fr F=c→s.p c+v.g wt≤s.p (v.to F)
structure BFI (n:Nat) (F:List Fl) (A:List Int) (wt:Nat→Int) (r c0:Nat) (s:BFs):Prop where
 way:∀ c,0<s.rk c→(s.by_ c).ok n F A∧(s.by_ c).to F=c
 rk_le:∀ c,s.rk c≤r+1
 tm_le:∀ c,s.tm c≤s.now
 back:∀ c,0<s.rk c→s.rk c≤s.rk ((s.by_ c).fr F)+1
 le:∀ c,0<s.rk c→s.p c≤s.p ((s.by_ c).fr F)+(s.by_ c).g wt
 lt:∀ c,0<s.rk c→s.tm c≤s.tm ((s.by_ c).fr F)→s.p c<s.p ((s.by_ c).fr F)+(s.by_ c).g wt
 calm1:∀ c,c<c0→s.rk c≤r→s.calm n F A wt c
 calm2:∀ c,c0≤c→s.rk c+1≤r→s.calm n F A wt c
theorem BFI.start {n:Nat} {F:List Fl} {A:List Int} {wt:Nat→Int} (b:Wy):BFI n F A wt 0 0 ⟨fun _=>0,fun _=>b,fun _=>0,fun _=>0,0⟩ :=
 ⟨fun _ h=>absurd h (Nat.lt_irrefl 0),fun _=>Nat.zero_le _,fun _=>Nat.le_refl 0,fun _ h=>absurd h (Nat.lt_irrefl 0),fun _ h=>absurd h (Nat.lt_irrefl 0),fun _ h=>absurd h (Nat.lt_irrefl 0),fun _ h=>absurd h (Nat.not_lt_zero _),fun _ _ h=>absurd h (by omega)⟩
theorem BFI.put {n:Nat} {F:List Fl} {A:List Int} {wt:Nat→Int} {r c0:Nat} {s:BFs} (h:BFI n F A wt r c0 s) {v:Wy} (hv:v.ok n F A) (hc:v.fr F=c0) (hs:v.fr F≠v.to F) (hg:s.p (v.to F)<s.p (v.fr F)+v.g wt):BFI n F A wt r c0 (s.put F wt r v):=by
 have hrk:r≤s.rk c0:=by
   rcases Nat.lt_or_ge (s.rk c0) r with h1 | h1
   · have:=h.calm2 c0 (Nat.le_refl _) (by omega) v hv hc
     rw [← hc] at this;omega
   · exact h1
 have hpge:∀ c,s.p c≤(s.put F wt r v).p c:=fun c=>by
   show s.p c≤upd s.p (v.to F) _ c
   by_cases e:c=v.to F
   · subst e;rw [Z06];omega
   · rw [ZV e];exact Int.le_refl _
 have hrge:∀ c,s.rk c≤(s.put F wt r v).rk c:=fun c=>by
   show s.rk c≤upd s.rk (v.to F) _ c
   by_cases e:c=v.to F
   · subst e;rw [Z06];exact h.rk_le _
   · rw [ZV e];exact Nat.le_refl _
 have hcalm:∀ c,c≠v.to F→s.calm n F A wt c→(s.put F wt r v).calm n F A wt c:=fun c e hcl u hu hf=>by
   have h1:=hcl u hu hf
   have h2:=hpge (u.to F)
   show upd s.p (v.to F) _ c+_≤_
   rw [ZV e];omega
 refine ⟨fun c=>?_,fun c=>?_,fun c=>?_,fun c=>?_,fun c=>?_,fun c=>?_,fun c hcc hr=>?_,fun c hcc hr=>?_⟩
 · show 0<upd s.rk (v.to F) _ c→(upd s.by_ (v.to F) v c).ok n F A∧(upd s.by_ (v.to F) v c).to F=c
   by_cases e:c=v.to F
   · subst e;rw [Z06,Z06];exact fun _=>⟨hv,rfl⟩
   · rw [ZV e,ZV e];exact h.way c
 · show upd s.rk (v.to F) _ c≤_
   by_cases e:c=v.to F
   · subst e;rw [Z06];exact Nat.le_refl _
   · rw [ZV e];exact h.rk_le c
 · show upd s.tm (v.to F) _ c≤s.now+1
   by_cases e:c=v.to F
   · subst e;rw [Z06];exact Nat.le_refl _
   · rw [ZV e];have:=h.tm_le c;omega
 · show 0<upd s.rk (v.to F) _ c→upd s.rk (v.to F) _ c≤(s.put F wt r v).rk ((upd s.by_ (v.to F) v c).fr F)+1
   by_cases e:c=v.to F
   · subst e;rw [Z06,Z06]
     intro _
     have:=hrge (v.fr F)
     rw [hc] at this ⊢;omega
   · rw [ZV e,ZV e]
     intro h0
     have:=h.back c h0
     have:=hrge ((s.by_ c).fr F)
     omega
 · show 0<upd s.rk (v.to F) _ c→upd s.p (v.to F) _ c≤(s.put F wt r v).p ((upd s.by_ (v.to F) v c).fr F)+(upd s.by_ (v.to F) v c).g wt
   by_cases e:c=v.to F
   · subst e;rw [Z06,Z06,Z06]
     intro _
     have:=hpge (v.fr F);omega
   · rw [ZV e,ZV e,ZV e]
     intro h0
     have:=h.le c h0
     have:=hpge ((s.by_ c).fr F)
     omega
 · show 0<upd s.rk (v.to F) _ c→upd s.tm (v.to F) _ c≤upd s.tm (v.to F) _ ((upd s.by_ (v.to F) v c).fr F)→upd s.p (v.to F) _ c<upd s.p (v.to F) _ ((upd s.by_ (v.to F) v c).fr F)+(upd s.by_ (v.to F) v c).g wt
   by_cases e:c=v.to F
   · subst e;rw [Z06,Z06,Z06,Z06,ZV hs]
     intro _ h9
     have:=h.tm_le (v.fr F);omega
   · rw [ZV e,ZV e,ZV e,ZV e]
     intro h0
     by_cases e2:(s.by_ c).fr F=v.to F
     · rw [e2,Z06,Z06]
       intro _
       have:=h.le c h0
       rw [e2] at this;omega
     · rw [ZV e2,ZV e2];exact h.lt c h0
 · by_cases e:c=v.to F
   · subst e
     have h1:(s.put F wt r v).rk (v.to F)=r+1:=Z06
     omega
   · have h1:(s.put F wt r v).rk c=s.rk c:=ZV e
     exact hcalm c e (h.calm1 c hcc (by omega))
 · by_cases e:c=v.to F
   · subst e
     have h1:(s.put F wt r v).rk (v.to F)=r+1:=Z06
     omega
   · have h1:(s.put F wt r v).rk c=s.rk c:=ZV e
     exact hcalm c e (h.calm2 c hcc (by omega))
theorem BFI.next {n:Nat} {F:List Fl} {A:List Int} {wt:Nat→Int} {r c0:Nat} {s:BFs} (h:BFI n F A wt r c0 s) (hc:s.rk c0≤r→s.calm n F A wt c0):BFI n F A wt r (c0+1) s :=
 { h with
   calm1:=fun c hcc hr=>by
     by_cases e:c=c0
     · subst e;exact hc hr
     · exact h.calm1 c (by omega) hr
   calm2:=fun c hcc hr=>h.calm2 c (by omega) hr }
theorem BFI.round {n:Nat} {F:List Fl} {A:List Int} {wt:Nat→Int} {r:Nat} {s:BFs} (h:BFI n F A wt r n s):BFI n F A wt (r+1) 0 s :=
 { h with
   rk_le:=fun c=>Nat.le_succ_of_le (h.rk_le c)
   calm1:=fun c hcc=>absurd hcc (Nat.not_lt_zero _)
   calm2:=fun c _ hr v hv hf=>by
     have hcn:c<n:=by rw [← hf];exact hv.2.2.1
     exact h.calm1 c hcn (by omega) v hv hf }
theorem BFI.best {n:Nat} {F:List Fl} {A B:List Int} {wt:Nat→Int} {r:Nat} {s:BFs} (h:BFI n F A wt r n s) (hr:∀ c,c<n→s.rk c≤r) (hF:∀ f∈F,f.fr<n∧f.to<n) (hA:Feas n F A) (hB:Feas n F B):Z0O wt B≤Z0O wt A:=by
 have hcl:∀ v:Wy,v.ok n F A→s.p (v.fr F)+v.g wt≤s.p (v.to F):=fun v hv=>h.calm1 (v.fr F) hv.2.2.1 (hr _ hv.2.2.1) v hv rfl
 refine Zic hF hA hB (p:=s.p) (fun i f hf h1=>?_) (fun i f hf h1=>?_)
 · have hm:=hF f (List.mem_of_getElem? hf)
   have h2:=hcl ⟨i,true⟩ ⟨(List.getElem?_eq_some_iff.1 hf).1,by show 1≤(fl F i).hi-na A i;rw [Z0h hf];omega,by show (fl F i).fr<n;rw [Z0h hf];exact hm.1,by show (fl F i).to<n;rw [Z0h hf];exact hm.2⟩
   have h3:s.p (fl F i).fr+1*wt i≤s.p (fl F i).to:=h2
   rw [Z0h hf] at h3;omega
 · have hm:=hF f (List.mem_of_getElem? hf)
   have h2:=hcl ⟨i,false⟩ ⟨(List.getElem?_eq_some_iff.1 hf).1,by show 1≤na A i-(fl F i).lo;rw [Z0h hf];omega,by show (fl F i).to<n;rw [Z0h hf];exact hm.2,by show (fl F i).fr<n;rw [Z0h hf];exact hm.1⟩
   have h3:s.p (fl F i).to + -1*wt i≤s.p (fl F i).fr:=h2
   rw [Z0h hf] at h3;omega
def BFs.path (F:List Fl) (s:BFs):Nat→Nat→List Wy
 | 0,_=>[]
 | k+1,c=>s.by_ c::s.path F k ((s.by_ c).fr F)
def BFs.at_ (F:List Fl) (s:BFs):Nat→Nat→Nat
 | 0,c=>c
 | k+1,c=>s.at_ F k ((s.by_ c).fr F)
theorem BFI.chain {n:Nat} {F:List Fl} {A:List Int} {wt:Nat→Int} {r c0:Nat} {s:BFs} (h:BFI n F A wt r c0 s):∀ (k c:Nat),(∀ j,j<k→0<s.rk (s.at_ F j c))→chn F (s.path F k c) c (s.at_ F k c)
 | 0,c,_=>rfl
 | k+1,c,hk=>⟨(h.way c (hk 0 (by omega))).2,h.chain k _ (fun j hj=>hk (j+1) (by omega))⟩
theorem BFI.tele {n:Nat} {F:List Fl} {A:List Int} {wt:Nat→Int} {r c0:Nat} {s:BFs} (h:BFI n F A wt r c0 s):∀ (k c:Nat),(∀ j,j<k→0<s.rk (s.at_ F j c)) →
   s.p c≤s.p (s.at_ F k c)+wth wt (s.path F k c)∧(s.p c<s.p (s.at_ F k c)+wth wt (s.path F k c)∨s.tm (s.at_ F k c)+k≤s.tm c)
 | 0,c,_=>⟨by show s.p c≤s.p c+0;omega,.inr (Nat.le_refl _)⟩
 | k+1,c,hk=>by
   have h0:=hk 0 (by omega)
   have h0:0<s.rk c:=h0
   obtain ⟨i1,i2⟩:=h.tele k ((s.by_ c).fr F) (fun j hj=>hk (j+1) (by omega))
   have h1:=h.le c h0
   have e:wth wt (s.path F (k+1) c)=(s.by_ c).g wt+wth wt (s.path F k ((s.by_ c).fr F)):=rfl
   have e2:s.at_ F (k+1) c=s.at_ F k ((s.by_ c).fr F):=rfl
   rw [e,e2]
   refine ⟨by omega,?_⟩
   rcases Nat.lt_or_ge (s.tm ((s.by_ c).fr F)) (s.tm c) with h2 | h2
   · rcases i2 with i2 | i2
     · exact .inl (by omega)
     · exact .inr (by omega)
   · have:=h.lt c h0 h2
     exact .inl (by omega)
theorem BFI.gain {n:Nat} {F:List Fl} {A:List Int} {wt:Nat→Int} {r c0:Nat} {s:BFs} (h:BFI n F A wt r c0 s) {k c:Nat} (hk:∀ j,j<k→0<s.rk (s.at_ F j c)) (h1:0<k) (hc:s.at_ F k c=c):0<wth wt (s.path F k c):=by
 obtain ⟨h2,h3⟩:=h.tele k c hk
 rw [hc] at h2 h3
 rcases h3 with h3 | h3
 · omega
 · omega
theorem BFI.rank {n:Nat} {F:List Fl} {A:List Int} {wt:Nat→Int} {r c0:Nat} {s:BFs} (h:BFI n F A wt r c0 s):∀ (k c:Nat),k≤s.rk c→s.rk c≤s.rk (s.at_ F k c)+k
 | 0,c,_=>Nat.le_refl _
 | k+1,c,hk=>by
   have h0:=h.back c (by omega)
   have ih:=h.rank k ((s.by_ c).fr F) (by omega)
   show s.rk c≤s.rk (s.at_ F k ((s.by_ c).fr F))+(k+1)
   omega
theorem Z2V {α:Type} [DecidableEq α]:∀ {l m:List α},l.Nodup→(∀ x∈l,x∈m)→l.length≤m.length
 | [],m,_,_=>Nat.zero_le _
 | x::l,m,hn,hs=>by
   obtain ⟨h1,h2⟩:=List.nodup_cons.1 hn
   have ih:=Z2V (l:=l) (m:=m.erase x) h2 (fun y hy=>(List.mem_erase_of_ne (show y≠x from fun e=>h1 (by rw [← e];exact hy))).2 (hs y (by simp [hy])))
   rw [List.length_erase_of_mem (hs x (by simp))] at ih
   have:0<m.length:=List.length_pos_of_mem (hs x (by simp))
   rw [List.length_cons];omega
theorem pig {f:Nat→Nat} {n:Nat} (h:∀ i,i≤n→f i<n):∃ i j,i<j∧j≤n∧f i=f j:=by
 false_or_by_contra
 rename_i hno
 have hd:((List.range (n+1)).map f).Nodup:=by
   refine List.nodup_iff_pairwise_ne.2 (List.pairwise_map.2 ?_)
   refine List.pairwise_lt_range.imp_of_mem (fun {a b} ha hb hab e=>hno ⟨a,b,hab,by have:=List.mem_range.1 hb;omega,e⟩)
 have h1:=Z2V (m:=List.range n) hd (fun x hx=>by
   obtain ⟨i,hi,rfl⟩:=List.mem_map.1 hx
   exact List.mem_range.2 (h i (by have:=List.mem_range.1 hi;omega)))
 rw [List.length_map,List.length_range,List.length_range] at h1
 omega
theorem BFs.at_add (F:List Fl) (s:BFs):∀ (i j c:Nat),s.at_ F (i+j) c=s.at_ F j (s.at_ F i c)
 | 0,j,c=>by rw [Nat.zero_add];rfl
 | i+1,j,c=>by
   rw [show i+1+j=(i+j)+1 by omega]
   exact s.at_add F i j ((s.by_ c).fr F)
theorem BFI.circle {n:Nat} {F:List Fl} {A:List Int} {wt:Nat→Int} {r c0:Nat} {s:BFs} (h:BFI n F A wt r c0 s) {c:Nat} (hc:c<n) (hr:s.rk c=n) :
   ∃ k,0<k∧s.at_ F k (s.at_ F n c)=s.at_ F n c∧∀ m,0<s.rk (s.at_ F m c)∧s.at_ F m c<n:=by
 have hrk:∀ j,j<n→0<s.rk (s.at_ F j c):=fun j hj=>by
   have:=h.rank j c (by omega);omega
 have hlt:∀ j,j≤n→s.at_ F j c<n:=fun j hj=>by
   cases j with
   | zero=>exact hc
   | succ j =>
     rw [s.at_add F j 1 c]
     exact (h.way _ (hrk j (by omega))).1.2.2.1
 obtain ⟨i,j,hij,hjn,he⟩:=pig hlt
 have hper:∀ m,i≤m→s.at_ F (m+(j-i)) c=s.at_ F m c:=fun m hm=>by
   obtain ⟨d,rfl⟩:∃ d,m=i+d:=⟨m-i,by omega⟩
   rw [show i+d+(j-i)=j+d by omega,s.at_add,s.at_add,he]
 refine ⟨j-i,by omega,by rw [← s.at_add,hper n (by omega)],fun m=>?_⟩
 induction m using Nat.strongRecOn with
 | ind m ih =>
   by_cases hm:m<n
   · exact ⟨hrk m hm,hlt m (by omega)⟩
   · have h1:=hper (m-(j-i)) (by omega)
     rw [show m-(j-i)+(j-i)=m by omega] at h1
     rw [h1]
     exact ih _ (by omega)
theorem Z98 {F:List Fl} {s:BFs} {c k:Nat} (h0:0<k) (hk:s.at_ F k c=c):∃ m,0<m∧m≤k∧s.at_ F m c=c∧∀ j,0<j→j<m→s.at_ F j c≠c:=by
 induction k using Nat.strongRecOn with
 | ind k ih =>
   by_cases h:∃ j,0<j∧j<k∧s.at_ F j c=c
   · obtain ⟨j,h1,h2,h3⟩:=h
     obtain ⟨m,m1,m2,m3⟩:=ih j h2 h1 h3
     exact ⟨m,m1,by omega,m3⟩
   · exact ⟨k,h0,Nat.le_refl _,hk,fun j h1 h2 h3=>h ⟨j,h1,h2,h3⟩⟩
theorem Z5L {n:Nat} {F:List Fl} {A:List Int} {wt:Nat→Int} {r c0:Nat} {s:BFs} (h:BFI n F A wt r c0 s):∀ (k c:Nat),(∀ j,j<k→0<s.rk (s.at_ F j c))→∀ i w,(s.path F k c)[i]?=some w→i<k∧w.to F=s.at_ F i c∧w.ok n F A
 | 0,c,_,i,w,hw=>by cases hw
 | k+1,c,hk,0,w,hw=>by
   have hw:some (s.by_ c)=some w:=hw
   cases hw
   have:=h.way c (hk 0 (by omega))
   exact ⟨by omega,this.2,this.1⟩
 | k+1,c,hk,i+1,w,hw=>by
   have ih:=Z5L h k ((s.by_ c).fr F) (fun j hj=>hk (j+1) (by omega)) i w hw
   exact ⟨by omega,ih.2.1,ih.2.2⟩
theorem Z8D (F:List Fl) (s:BFs):∀ (k c:Nat),(s.path F k c).length=k
 | 0,_=>rfl
 | k+1,c=>by show (s.path F k _).length+1=_;rw [Z8D F s k]
theorem Z9E {F:List Fl} {s:BFs} {c m:Nat} (hm:s.at_ F m c=c) (hf:∀ j,0<j→j<m→s.at_ F j c≠c) {a b:Nat} (hab:a<b) (hb:b<m):s.at_ F a c≠s.at_ F b c:=fun e=>by
 have h1:s.at_ F (a+(m-b)) c=c:=by rw [s.at_add,e,← s.at_add,show b+(m-b)=m by omega,hm]
 exact hf (a+(m-b)) (by omega) (by omega) h1
theorem ZfC {n:Nat} {F:List Fl} {A:List Int} {wt:Nat→Int} {r c0:Nat} {s:BFs} (h:BFI n F A wt r c0 s) {m c:Nat} (hk:∀ j,j<m→0<s.rk (s.at_ F j c)) (hm:s.at_ F m c=c) (hf:∀ j,0<j→j<m→s.at_ F j c≠c):(s.path F m c).Nodup:=by
 refine List.nodup_iff_pairwise_ne.2 (List.pairwise_iff_getElem.2 fun i j hi hj hij e=>?_)
 obtain ⟨i1,i2,_⟩:=Z5L h m c hk i _ (List.getElem?_eq_getElem hi)
 obtain ⟨j1,j2,_⟩:=Z5L h m c hk j _ (List.getElem?_eq_getElem hj)
 exact Z9E hm hf hij j1 (by rw [← i2,← j2,e])
theorem ZeA {n:Nat} {F:List Fl} {s:BFs} {c m:Nat} (hn:∀ j,s.at_ F j c<n) (hm:s.at_ F m c=c) (hf:∀ j,0<j→j<m→s.at_ F j c≠c):m≤n:=by
 have hd:((List.range m).map fun j=>s.at_ F j c).Nodup:=by
   refine List.nodup_iff_pairwise_ne.2 (List.pairwise_map.2 ?_)
   exact List.pairwise_lt_range.imp_of_mem (fun {a b} ha hb hab=>Z9E hm hf hab (List.mem_range.1 hb))
 have h1:=Z2V (m:=List.range n) hd (fun x hx=>by
   obtain ⟨i,_,rfl⟩:=List.mem_map.1 hx
   exact List.mem_range.2 (hn i))
 rwa [List.length_map,List.length_range,List.length_range] at h1
theorem BFI.found {n:Nat} {F:List Fl} {A:List Int} {wt:Nat→Int} {r c0:Nat} {s:BFs} (h:BFI n F A wt r c0 s) {c:Nat} (hc:c<n) (hr:s.rk c=n):∃ m,0<m∧m≤n∧s.at_ F m (s.at_ F n c)=s.at_ F n c∧(∀ j,0<j→j<m→s.at_ F j (s.at_ F n c)≠s.at_ F n c) ∧
   0<wth wt (s.path F m (s.at_ F n c))∧(s.path F m (s.at_ F n c)).Nodup∧chn F (s.path F m (s.at_ F n c)) (s.at_ F n c) (s.at_ F n c)∧∀ w∈s.path F m (s.at_ F n c),w.ok n F A:=by
 obtain ⟨k,h1,h2,h3⟩:=h.circle hc hr
 obtain ⟨m,m1,_,m2,m3⟩:=Z98 h1 h2
 have hk:∀ j,j<m→0<s.rk (s.at_ F j (s.at_ F n c)):=fun j _=>by rw [← s.at_add];exact (h3 _).1
 have hch:=h.chain m (s.at_ F n c) hk
 rw [m2] at hch
 exact ⟨m,m1,ZeA (fun j=>by rw [← s.at_add];exact (h3 _).2) m2 m3,m2,m3,h.gain hk m1 m2,ZfC h hk m2 m3,hch,fun w hw=>by
   obtain ⟨i,hi⟩:=List.mem_iff_getElem?.1 hw
   exact (Z5L h m _ hk i w hi).2.2⟩
def dom (F:List Fl) (from_:Nat) (R:List Wy):List Nat:=R.map (·.to F)++[from_]
def Tr (n:Nat) (F:List Fl) (A:List Int) (from_:Nat):List Wy→Prop
 | []=>True
 | w::R=>w.ok n F A∧w.to F∉dom F from_ R∧w.fr F∈dom F from_ R∧Tr n F A from_ R
def Z0N (F:List Fl):List Wy→Nat→List Wy
 | [],_=>[]
 | w::R,c=>bif decide (w.to F=c) then w::Z0N F R (w.fr F) else Z0N F R c
theorem dom_cons {F:List Fl} {from_:Nat} {w:Wy} {R:List Wy} {c:Nat}:c∈dom F from_ (w::R)↔c=w.to F∨c∈dom F from_ R:=by
 unfold dom;rw [List.map_cons,List.cons_append,List.mem_cons]
theorem ZcM {F:List Fl} {from_:Nat} {R:List Wy}:from_∈dom F from_ R:=by unfold dom;simp
theorem dom_mem {F:List Fl} {from_:Nat} {R:List Wy} {c:Nat}:c∈dom F from_ R↔c=from_∨∃ w∈R,w.to F=c:=by
 unfold dom
 rw [List.mem_append,List.mem_map,List.mem_singleton]
 exact or_comm
theorem Tr.ok {n:Nat} {F:List Fl} {A:List Int} {from_:Nat}:∀ {R:List Wy},Tr n F A from_ R→∀ w∈R,w.ok n F A∧w.fr F∈dom F from_ R
 | v::R,⟨h1,_,h3,h4⟩,w,hw=>by
   rcases List.mem_cons.1 hw with rfl | hw
   · exact ⟨h1,dom_cons.2 (.inr h3)⟩
   · have:=Tr.ok h4 w hw
     exact ⟨this.1,dom_cons.2 (.inr this.2)⟩
theorem Tr.chain {n:Nat} {F:List Fl} {A:List Int} {from_:Nat}:∀ {R:List Wy},Tr n F A from_ R→∀ {c},c∈dom F from_ R→chn F (Z0N F R c) c from_
 | [],_,c,hc=>by
   have hc:c∈[from_]:=hc
   exact List.mem_singleton.1 hc
 | w::R,⟨_,_,h3,h4⟩,c,hc=>by
   unfold Z0N
   by_cases e:w.to F=c
   · rw [decide_eq_true e,cond_true]
     exact ⟨e,Tr.chain h4 h3⟩
   · rw [decide_eq_false e,cond_false]
     exact Tr.chain h4 ((dom_cons.1 hc).resolve_left (fun e2=>e e2.symm))
theorem Z33 {F:List Fl}:∀ {R:List Wy} {c:Nat},(Z0N F R c).Sublist R
 | [],_=>.slnil
 | w::R,c=>by
   unfold Z0N
   by_cases e:w.to F=c
   · rw [decide_eq_true e,cond_true];exact .cons_cons _ Z33
   · rw [decide_eq_false e,cond_false];exact .cons _ Z33
theorem Tr.nd {n:Nat} {F:List Fl} {A:List Int} {from_:Nat}:∀ {R:List Wy},Tr n F A from_ R→R.Nodup
 | [],_=>List.nodup_nil
 | w::R,⟨_,h2,_,h4⟩=>List.nodup_cons.2 ⟨fun hw=>h2 (dom_mem.2 (.inr ⟨w,hw,rfl⟩)),Tr.nd h4⟩
theorem Z32 {F:List Fl} {w:Wy} {R:List Wy} {c:Nat} (h:w.to F≠c):Z0N F (w::R) c=Z0N F R c:=by
 rw [Z0N,decide_eq_false h,cond_false]
theorem Tr.step {n:Nat} {F:List Fl} {A:List Int} {from_:Nat}:∀ {R:List Wy},Tr n F A from_ R→∀ {c},c∈dom F from_ R→c≠from_→∃ w∈R,w.to F=c∧Z0N F R c=w::Z0N F R (w.fr F)
 | [],_,c,hc,hn=>absurd (List.mem_singleton.1 (show c∈[from_] from hc)) hn
 | w::R,⟨h1,h2,h3,h4⟩,c,hc,hn=>by
   by_cases e:w.to F=c
   · refine ⟨w,by simp,e,?_⟩
     rw [Z32 (c:=w.fr F) (fun e2=>h2 (e2▸h3)),Z0N,decide_eq_true e,cond_true]
   · obtain ⟨v,hv,e1,e2⟩:=Tr.step h4 ((dom_cons.1 hc).resolve_left (fun e2=>e e2.symm)) hn
     refine ⟨v,by simp [hv],e1,?_⟩
     have h5:=(Tr.ok h4 v hv).2
     rw [Z32 e,Z32 (c:=v.fr F) (fun e3=>h2 (e3▸h5)),e2]
theorem Tr.uniq {n:Nat} {F:List Fl} {A:List Int} {from_:Nat}:∀ {R:List Wy},Tr n F A from_ R→∀ {v w:Wy},v∈R→w∈R→v.to F=w.to F→v=w
 | u::R,⟨_,h2,_,h4⟩,v,w,hv,hw,e=>by
   rcases List.mem_cons.1 hv with h5 | h5
   · rcases List.mem_cons.1 hw with h6 | h6
     · rw [h5,h6]
     · exact absurd (show u.to F∈dom F from_ R from dom_mem.2 (.inr ⟨w,h6,by rw [← e,h5]⟩)) h2
   · rcases List.mem_cons.1 hw with h6 | h6
     · exact absurd (show u.to F∈dom F from_ R from dom_mem.2 (.inr ⟨v,h5,by rw [e,h6]⟩)) h2
     · exact Tr.uniq h4 h5 h6 e
theorem Z8Q {g:Nat→Int} {n k:Nat} (h:∀ c,c<n→0≤g c) (hk:k<n) (hp:0<g k):0<Z2J g n:=by
 have key:∀ m,m≤n→0≤Z2J g m∧(k<m→0<Z2J g m):=fun m=>by
   induction m with
   | zero=>exact fun _=>⟨Int.le_refl 0,fun h=>absurd h (Nat.not_lt_zero _)⟩
   | succ m ih =>
     intro hm
     obtain ⟨i1,i2⟩:=ih (by omega)
     have hg:=h m (by omega)
     refine ⟨by unfold Z2J;omega,fun hkm=>?_⟩
     unfold Z2J
     by_cases e:k=m
     · subst e;omega
     · have:=i2 (by omega);omega
 exact (key n (Nat.le_refl _)).2 hk
theorem Tr.stuck {n:Nat} {F:List Fl} {A B:List Int} {from_:Nat} {R:List Wy} (hF:∀ f∈F,f.fr<n∧f.to<n) (hlen:A.length=F.length) (hfn:from_<n) (hcl:∀ v:Wy,v.ok n F A→v.fr F∈dom F from_ R→v.to F∈dom F from_ R)
   (hpos:0<ovr F A from_) (hno:∀ c,c<n→c∈dom F from_ R→0≤ovr F A c) (hB:Feas n F B):False:=by
 refine Z9m hF hlen (S:=fun c=>decide (c∈dom F from_ R)) (fun i f hf h1 h2=>?_) (fun i f hf h1 h2=>?_) ?_ hB
 · have hm:=hF f (List.mem_of_getElem? hf)
   have h1:=of_decide_eq_true h1
   have h2:=of_decide_eq_false h2
   rcases Int.lt_or_le f.lo (na A i) with h3 | h3
   · refine absurd (hcl ⟨i,false⟩ ⟨(List.getElem?_eq_some_iff.1 hf).1,by show 1≤na A i-(fl F i).lo;rw [Z0h hf];omega,by show (fl F i).to<n;rw [Z0h hf];exact hm.2,by show (fl F i).fr<n;rw [Z0h hf];exact hm.1⟩ (by show (fl F i).to∈_;rw [Z0h hf];exact h1)) ?_
     show ¬ (fl F i).fr∈_
     rw [Z0h hf];exact h2
   · exact h3
 · have hm:=hF f (List.mem_of_getElem? hf)
   have h1:=of_decide_eq_false h1
   have h2:=of_decide_eq_true h2
   rcases Int.lt_or_le (na A i) f.hi with h3 | h3
   · refine absurd (hcl ⟨i,true⟩ ⟨(List.getElem?_eq_some_iff.1 hf).1,by show 1≤(fl F i).hi-na A i;rw [Z0h hf];omega,by show (fl F i).fr<n;rw [Z0h hf];exact hm.1,by show (fl F i).to<n;rw [Z0h hf];exact hm.2⟩ (by show (fl F i).fr∈_;rw [Z0h hf];exact h2)) ?_
     show ¬ (fl F i).to∈_
     rw [Z0h hf];exact h1
   · exact h3
 · refine Z8Q (fun c hc=>?_) hfn ?_
   · cases e:decide (c∈dom F from_ R) with
     | true=>simp only [e,cond_true];have:=hno c hc (of_decide_eq_true e);omega
     | false=>simp only [e,cond_false];omega
   · simp only [decide_eq_true (ZcM (F:=F) (from_:=from_) (R:=R)),cond_true];omega
def tot (n:Nat) (F:List Fl) (A:List Int):Int:=Z2J (fun c=>max (ovr F A c) 0) n
theorem ZbK {g h:Nat→Int}:∀ n,(∀ c,c<n→g c≤h c)→Z2J g n≤Z2J h n
 | 0,_=>Int.le_refl 0
 | n+1,hh=>by unfold Z2J;have:=ZbK n (fun c hc=>hh c (by omega));have:=hh n (by omega);omega
theorem ZbL {g h:Nat→Int} {n k:Nat} (hh:∀ c,c<n→g c≤h c) (hk:k<n) (hl:g k<h k):Z2J g n<Z2J h n:=by
 have:=Z8Q (g:=fun c=>h c-g c) (fun c hc=>by have:=hh c hc;omega) hk (by omega)
 rw [Z5Y] at this;omega
theorem Zix (n:Nat) (F:List Fl) (A:List Int):0≤tot n F A:=by
 have:=ZbK (g:=fun _=>0) (h:=fun c=>max (ovr F A c) 0) n (fun c _=>by omega)
 rw [Z15 n (fun _ _=>rfl)] at this;exact this
theorem Z5J {n:Nat} {F:List Fl} {A:List Int} (hF:∀ f∈F,f.fr<n∧f.to<n):Z2J (fun c=>ovr F A c) n=0:=by
 have h:=Z8G (fun _=>1) (A:=A) hF
 have e:(fun c=>(1:Int)*ovr F A c)=fun c=>ovr F A c:=funext fun c=>Int.one_mul _
 rw [e] at h
 rw [h]
 have:∀ (F:List Fl) (A:List Int),pot (fun _=>1) F A=0:=fun F=>by
   induction F with
   | nil=>exact fun A=>rfl
   | cons f F ih =>
     intro A
     cases A with
     | nil=>rfl
     | cons a A=>show ((1:Int)-1)*a+pot (fun _=>1) F A=0;rw [ih A];omega
 exact this F A
theorem Zfd {n:Nat} {F:List Fl} {A:List Int} (hF:∀ f∈F,f.fr<n∧f.to<n) (hlen:A.length=F.length) (hb:∀ i f,F[i]?=some f→f.lo≤na A i∧na A i≤f.hi) (h:∀ c,c<n→ovr F A c≤0):Feas n F A :=
 ⟨hlen,hb,fun c hc=>by
   have h0:=Z5J (A:=A) hF
   rcases Int.lt_or_le (ovr F A c) 0 with h1 | h1
   · have:=ZbL (g:=fun c=>ovr F A c) (h:=fun _=>0) h hc h1
     rw [Z15 n (fun _ _=>rfl)] at this;omega
   · have:=h c hc;omega⟩
theorem Tr.send {n:Nat} {F:List Fl} {A:List Int} {from_ to_:Nat} {R:List Wy} {k:Int} (hlen:A.length=F.length) (hb:∀ i f,F[i]?=some f→f.lo≤na A i∧na A i≤f.hi) (h:Tr n F A from_ R) (hfn:from_<n) (hto:to_∈dom F from_ R)
   (hk:1≤k) (h1:k≤ovr F A from_) (h2:k ≤ -ovr F A to_) (hl:∀ w∈Z0N F R to_,k≤w.res F A) :
   (snd A (Z0N F R to_) k).length=F.length∧(∀ i f,F[i]?=some f→f.lo≤na (snd A (Z0N F R to_) k) i∧na (snd A (Z0N F R to_) k) i≤f.hi)∧tot n F (snd A (Z0N F R to_) k)<tot n F A:=by
 have hsub:=Z33 (F:=F) (R:=R) (c:=to_)
 have hok:∀ w∈Z0N F R to_,w.i<F.length:=fun w hw=>(h.ok w (hsub.subset hw)).1.1
 have hov:∀ c,ovr F (snd A (Z0N F R to_) k) c=ovr F A c+k*((bif decide (to_=c) then 1 else 0)-(bif decide (from_=c) then 1 else 0)):=fun c=>by
   rw [Z7v hlen hok,Z7f (h.chain hto)]
 refine ⟨(Z7E _ _ A).trans hlen,ZbD hlen hb (fun w hw=>⟨hok w hw,hl w hw⟩) (h.nd.sublist hsub) (by omega),ZbL (fun c _=>?_) hfn ?_⟩
 · rw [hov c]
   by_cases e1:to_=c
   · subst e1
     rw [decide_eq_true rfl,cond_true]
     cases decide (from_=to_)<;>simp only [cond_true,cond_false]<;>omega
   · rw [decide_eq_false e1,cond_false]
     cases decide (from_=c)<;>simp only [cond_true,cond_false]<;>omega
 · rw [hov from_]
   have e1:to_≠from_:=fun e=>by rw [e] at h2;omega
   rw [decide_eq_false e1,decide_eq_true rfl]
   simp only [cond_true,cond_false]
   omega
theorem Z2X {c:Nat}:∀ {F:List Fl} {A B:List Int},A.length=F.length→B.length=F.length→(∀ i f,F[i]?=some f→(f.to=c∨f.fr=c)→na A i=na B i)→ovr F A c=ovr F B c
 | [],[],[],_,_,_=>rfl
 | f::F,a::A,b::B,hA,hB,h=>by
   have ih:=Z2X (c:=c) (F:=F) (A:=A) (B:=B) (by simpa using hA) (by simpa using hB) (fun i g hg=>h (i+1) g hg)
   have h0:(f.to=c∨f.fr=c)→a=b:=h 0 f rfl
   show ((bif decide (f.to=c) then a else 0)-(bif decide (f.fr=c) then a else 0))+ovr F A c=((bif decide (f.to=c) then b else 0)-(bif decide (f.fr=c) then b else 0))+ovr F B c
   rw [ih]
   by_cases e1:f.to=c
   · rw [h0 (.inl e1)]
   · by_cases e2:f.fr=c
     · rw [h0 (.inr e2)]
     · rw [decide_eq_false e1,decide_eq_false e2];rfl
def mrg (K:Nat→Bool) (A B:List Int):List Int:=(List.range A.length).map fun i=>bif K i then na A i else na B i
theorem Z3h (K:Nat→Bool) (A B:List Int):(mrg K A B).length=A.length:=by simp [mrg]
theorem Z4o {K:Nat→Bool} {A B:List Int} {i:Nat} (h:i<A.length):na (mrg K A B) i=bif K i then na A i else na B i:=by
 have h1:(mrg K A B)[i]?=some (bif K i then na A i else na B i):=by
   unfold mrg;rw [List.getElem?_map,List.getElem?_range h];rfl
 unfold na at h1 ⊢
 rw [List.getD_eq_getElem?_getD,h1];rfl
theorem Z4E {g:Nat→Int} {n k:Nat} (hk:k<n) (h:∀ c,c<n→c≠k→g c=0):Z2J g n=g k:=by
 have key:∀ m,m≤n→Z2J g m=if k<m then g k else 0:=fun m=>by
   induction m with
   | zero=>exact fun _=>rfl
   | succ m ih =>
     intro hm
     unfold Z2J
     rw [ih (by omega)]
     by_cases e:k=m
     · subst e;rw [if_neg (Nat.lt_irrefl _),if_pos (Nat.lt_succ_self _)];omega
     · rw [h m (by omega) (fun e2=>e e2.symm)]
       by_cases e3:k<m
       · rw [if_pos e3,if_pos (by omega)];omega
       · rw [if_neg e3,if_neg (by omega)];rfl
 rw [key n (Nat.le_refl _),if_pos hk]
theorem Zd2 {n out:Nat} {F:List Fl} {A B:List Int} (hF:∀ f∈F,f.fr<n∧f.to<n) (hout:out<n) (hA:A.length=F.length) (hB:B.length=F.length) {K U:Nat→Bool} (hU:U out=false)
   (h1:∀ i f,F[i]?=some f→K i=true→(U f.fr=true∨f.fr=out)∧(U f.to=true∨f.to=out)) (h2:∀ i f,F[i]?=some f→K i=false→U f.fr=false∧U f.to=false)
   (bA:∀ i f,F[i]?=some f→K i=true→f.lo≤na A i∧na A i≤f.hi) (bB:∀ i f,F[i]?=some f→K i=false→f.lo≤na B i∧na B i≤f.hi)
   (oA:∀ c,c<n→U c=true→ovr F A c=0) (oB:∀ c,c<n→U c=false→c≠out→ovr F B c=0):Feas n F (mrg K A B):=by
 have hlt:∀ {i f},F[i]?=some f→i<A.length:=fun h=>by rw [hA];exact (List.getElem?_eq_some_iff.1 h).1
 have hz:∀ c,c<n→c≠out→ovr F (mrg K A B) c=0:=fun c hc hn=>by
   cases hu:U c with
   | true =>
     rw [← oA c hc hu]
     refine Z2X ((Z3h K A B).trans hA) hA fun i f hf ht=>?_
     rw [Z4o (hlt hf)]
     cases hk:K i with
     | true=>rfl
     | false =>
       have:=h2 i f hf hk
       rcases ht with e | e
       · rw [e,hu] at this;cases this.2
       · rw [e,hu] at this;cases this.1
   | false =>
     rw [← oB c hc hu hn]
     refine Z2X ((Z3h K A B).trans hA) hB fun i f hf ht=>?_
     rw [Z4o (hlt hf)]
     cases hk:K i with
     | false=>rfl
     | true =>
       have:=h1 i f hf hk
       rcases ht with e | e
       · rcases this.2 with h | h
         · rw [e,hu] at h;cases h
         · exact absurd (e.symm.trans h) hn
       · rcases this.1 with h | h
         · rw [e,hu] at h;cases h
         · exact absurd (e.symm.trans h) hn
 refine ⟨(Z3h K A B).trans hA,fun i f hf=>?_,fun c hc=>?_⟩
 · rw [Z4o (hlt hf)]
   cases hk:K i with
   | true=>exact bA i f hf hk
   | false=>exact bB i f hf hk
 · by_cases e:c=out
   · subst e
     have h:=Z5J (A:=mrg K A B) hF
     rwa [Z4E hout hz] at h
   · exact hz c hc e
theorem Z3i {c:Nat}:∀ {F G:List Fl} {A B:List Int},A.length=F.length→ovr (F++G) (A++B) c=ovr F A c+ovr G B c
 | [],G,[],B,_=>by show ovr G B c=0+_;omega
 | f::F,G,a::A,B,h=>by
   show _+ovr (F++G) (A++B) c=(_+ovr F A c)+_
   rw [Z3i (by simpa using h)];omega
def Z2j {α:Type}:(Nat→Bool)→List α→List α
 | K,x::l=>bif K 0 then x::Z2j (fun i=>K (i+1)) l else Z2j (fun i=>K (i+1)) l
 | _,[]=>[]
def fat:(Nat→Bool)→Nat→List Int→List Int
 | K,n+1,a::A=>bif K 0 then a::fat (fun i=>K (i+1)) n A else 0::fat (fun i=>K (i+1)) n (a::A)
 | K,n+1,[]=>0::fat (fun i=>K (i+1)) n []
 | _,0,_=>[]
theorem Z4e:∀ (K:Nat→Bool) (n:Nat) (A:List Int),(fat K n A).length=n
 | _,0,_=>rfl
 | K,n+1,[]=>by show (fat _ n []).length+1=_;rw [Z4e]
 | K,n+1,a::A=>by
   unfold fat
   cases K 0<;>simp only [cond_true,cond_false,List.length_cons,Z4e]
theorem Z8U {c:Nat}:∀ {F:List Fl} {A:List Int} {K:Nat→Bool},A.length=F.length→(∀ i,K i=false→na A i=0)→ovr (Z2j K F) (Z2j K A) c=ovr F A c
 | [],[],_,_,_=>rfl
 | f::F,a::A,K,h,hz=>by
   have ih:=Z8U (c:=c) (F:=F) (A:=A) (K:=fun i=>K (i+1)) (by simpa using h) (fun i hi=>hz (i+1) hi)
   unfold Z2j
   cases hk:K 0 with
   | true =>
     simp only [cond_true]
     show _+ovr (Z2j _ F) (Z2j _ A) c=_+ovr F A c
     rw [ih]
   | false =>
     simp only [cond_false]
     have h0:a=0:=hz 0 hk
     subst h0
     show ovr (Z2j _ F) (Z2j _ A) c=((bif decide (f.to=c) then 0 else 0)-(bif decide (f.fr=c) then 0 else 0))+ovr F A c
     rw [ih]
     cases decide (f.to=c)<;>cases decide (f.fr=c)<;>simp only [cond_true,cond_false]<;>omega
def Z3u:(Nat→Bool)→Nat→Nat
 | _,0=>0
 | K,n+1=>(bif K 0 then 1 else 0)+Z3u (fun i=>K (i+1)) n
theorem Z60 {α:Type}:∀ {l:List α} {K:Nat→Bool},(Z2j K l).length=Z3u K l.length
 | [],K=>rfl
 | x::l,K=>by
   have ih:=Z60 (l:=l) (K:=fun i=>K (i+1))
   unfold Z2j
   show _=(bif K 0 then 1 else 0)+Z3u (fun i=>K (i+1)) l.length
   cases K 0<;>simp only [cond_true,cond_false,List.length_cons]<;>omega
theorem Z5Z {α:Type}:∀ {l:List α} {K:Nat→Bool} {i:Nat},K i=true→(Z2j K l)[Z3u K i]?=l[i]?
 | [],K,i,_=>by show ([]:List α)[_]?=_;rw [List.getElem?_nil,List.getElem?_nil]
 | x::l,K,0,h=>by unfold Z2j;rw [h];rfl
 | x::l,K,i+1,h=>by
   have ih:=Z5Z (l:=l) (K:=fun i=>K (i+1)) (i:=i) h
   unfold Z2j
   show _[(bif K 0 then 1 else 0)+Z3u (fun i=>K (i+1)) i]?=l[i]?
   cases K 0<;>simp only [cond_true,cond_false]
   · rw [Nat.zero_add];exact ih
   · rw [Nat.add_comm,List.getElem?_cons_succ];exact ih
theorem Z61 {α:Type}:∀ {l:List α} {K:Nat→Bool} {j:Nat} {x:α},(Z2j K l)[j]?=some x→∃ i,K i=true∧Z3u K i=j∧l[i]?=some x
 | [],K,j,x,h=>by cases h
 | y::l,K,j,x,h=>by
   unfold Z2j at h
   cases hk:K 0 with
   | true =>
     rw [hk,cond_true] at h
     cases j with
     | zero=>exact ⟨0,hk,rfl,h⟩
     | succ j =>
       rw [List.getElem?_cons_succ] at h
       obtain ⟨i,h1,h2,h3⟩:=Z61 h
       exact ⟨i+1,h1,by show (bif K 0 then 1 else 0)+Z3u (fun i=>K (i+1)) i=_;rw [hk,cond_true,h2];omega,h3⟩
   | false =>
     rw [hk,cond_false] at h
     obtain ⟨i,h1,h2,h3⟩:=Z61 h
     exact ⟨i+1,h1,by show (bif K 0 then 1 else 0)+Z3u (fun i=>K (i+1)) i=_;rw [hk,cond_false,h2];omega,h3⟩
theorem Z6p:∀ {K:Nat→Bool} {n i:Nat} {A:List Int},i<n→na (fat K n A) i=bif K i then na A (Z3u K i) else 0
 | K,n+1,0,[],_=>by
   show (0:Int)=_
   cases K 0<;>rfl
 | K,n+1,i+1,[],h=>by
   have ih:=Z6p (K:=fun i=>K (i+1)) (n:=n) (i:=i) (A:=[]) (by omega)
   show na (fat _ n []) i=_
   rw [ih]
   cases K (i+1)<;>rfl
 | K,n+1,0,a::A,_=>by
   unfold fat
   cases h:K 0<;>rfl
 | K,n+1,i+1,a::A,h=>by
   unfold fat
   show _=bif K (i+1) then na (a::A) ((bif K 0 then 1 else 0)+Z3u (fun i=>K (i+1)) i) else 0
   cases K 0 with
   | true =>
     have ih:=Z6p (K:=fun i=>K (i+1)) (n:=n) (i:=i) (A:=A) (by omega)
     simp only [cond_true]
     show na (fat _ n A) i=_
     rw [ih,show 1+Z3u (fun i=>K (i+1)) i=Z3u (fun i=>K (i+1)) i+1 by omega];rfl
   | false =>
     have ih:=Z6p (K:=fun i=>K (i+1)) (n:=n) (i:=i) (A:=a::A) (by omega)
     simp only [cond_false]
     show na (fat _ n (a::A)) i=_
     rw [ih,Nat.zero_add]
theorem Z3X:∀ {K:Nat→Bool} {n:Nat} {A:List Int},A.length=Z3u K n→Z2j K (fat K n A)=A
 | K,0,[],_=>rfl
 | K,0,a::A,h=>by cases h
 | K,n+1,[],h=>by
   have h:0=(bif K 0 then 1 else 0)+Z3u (fun i=>K (i+1)) n:=h
   have ih:=Z3X (K:=fun i=>K (i+1)) (n:=n) (A:=[]) (by show 0=_;omega)
   show Z2j K (0::fat _ n [])=[]
   unfold Z2j
   cases h0:K 0 with
   | true=>rw [h0,cond_true] at h;omega
   | false=>exact ih
 | K,n+1,a::A,h=>by
   have h:A.length+1=(bif K 0 then 1 else 0)+Z3u (fun i=>K (i+1)) n:=h
   unfold fat
   cases h0:K 0 with
   | true =>
     rw [h0,cond_true] at h
     have ih:=Z3X (K:=fun i=>K (i+1)) (n:=n) (A:=A) (by omega)
     simp only [cond_true]
     unfold Z2j
     rw [h0,cond_true,ih]
   | false =>
     rw [h0,cond_false] at h
     have ih:=Z3X (K:=fun i=>K (i+1)) (n:=n) (A:=a::A) (by show A.length+1=_;omega)
     simp only [cond_false]
     unfold Z2j
     rw [h0,cond_false,ih]
structure Spn where
 lo:Int
 hi:Int
 deriving DecidableEq
structure SBin where
 holds:Int
 fst:Spn
structure SMov where
 day:Int
 fr:Int
 to:Int
 s:Spn
structure SLev where
 day:Int
 bin:Int
 s:Spn
structure Yrd where
 days:Nat
 bins:List SBin
 moves:List SMov
 levels:List SLev
def Spn.ok (s:Spn):Prop:=0≤s.lo∧s.lo≤s.hi∧s.hi≤300
structure Yrd.ok (y:Yrd):Prop where
 days:1≤y.days∧y.days≤5
 bins:1≤y.bins.length∧y.bins.length≤4
 nm:y.moves.length≤10
 nl:y.levels.length≤8
 bin:∀ x∈y.bins,(0≤x.holds∧x.holds≤300)∧x.fst.ok
 mov:∀ m∈y.moves,(0≤m.day∧m.day<y.days)∧(-1≤m.fr∧m.fr<y.bins.length)∧(-1≤m.to∧m.to<y.bins.length)∧m.fr≠m.to∧m.s.ok
 lev:∀ l∈y.levels,(0≤l.day∧l.day≤y.days)∧(0≤l.bin∧l.bin<y.bins.length)∧l.s.ok
def Yrd.cells (y:Yrd):Nat:=y.bins.length*y.days
def Yrd.cell (y:Yrd) (bin:Int) (day:Nat):Nat:=bif decide (bin = -1) then y.cells else bin.toNat*y.days+day
def Z0B (b t:Nat) (f:Fl) (l:SLev):Fl:=bif decide (l.bin=(b:Int))&&decide (l.day=(t:Int)) then ⟨f.fr,f.to,max f.lo l.s.lo,min f.hi l.s.hi⟩ else f
def Yrd.base (y:Yrd) (b t:Nat) (x:SBin):Fl:=⟨bif decide (0<t) then b*y.days+(t-1) else y.cells,bif decide (t<y.days) then b*y.days+t else y.cells,bif decide (0<t) then 0 else max 0 x.fst.lo,bif decide (0<t) then x.holds else min x.holds x.fst.hi⟩
def Yrd.keptF (y:Yrd) (b:Nat) (x:SBin) (t:Nat):Fl:=y.levels.foldl (Z0B b t) (y.base b t x)
def Yrd.binD (y:Yrd) (b:Nat):SBin:=y.bins.getD b ⟨0,⟨0,0⟩⟩
def Yrd.keptB (y:Yrd) (b:Nat):List Fl:=(List.range (y.days+1)).map (y.keptF b (y.binD b))
def Yrd.keptN (y:Yrd) (k:Nat):List Fl:=((List.range k).map y.keptB).flatten
def Yrd.movF (y:Yrd) (m:SMov):Fl:=⟨y.cell m.fr m.day.toNat,y.cell m.to m.day.toNat,m.s.lo,m.s.hi⟩
def Yrd.flows (y:Yrd):List Fl:=y.keptN y.bins.length++y.moves.map y.movF
theorem Z2b (b t:Nat):∀ (ls:List SLev) (f:Fl),(ls.foldl (Z0B b t) f).fr=f.fr∧(ls.foldl (Z0B b t) f).to=f.to
 | [],f=>⟨rfl,rfl⟩
 | l::ls,f=>by
   obtain ⟨h1,h2⟩:=Z2b b t ls (Z0B b t f l)
   rw [List.foldl_cons,h1,h2]
   unfold Z0B
   cases decide (l.bin=(b:Int))&&decide (l.day=(t:Int))<;>exact ⟨rfl,rfl⟩
theorem Zb9 (y:Yrd) (b:Nat):(y.keptB b).length=y.days+1:=by simp [Yrd.keptB]
theorem Zs (y:Yrd):∀ k,(y.keptN k).length=k*(y.days+1)
 | 0=>by simp [Yrd.keptN]
 | k+1=>by
   have ih:=Zs y k
   unfold Yrd.keptN at ih ⊢
   rw [List.range_succ,List.map_append,List.flatten_append,List.length_append,ih]
   simp only [List.map_cons,List.map_nil,List.flatten_cons,List.flatten_nil,List.append_nil,Zb9]
   rw [Nat.add_mul,Nat.one_mul]
theorem Z59 (y:Yrd) (k:Nat):y.keptN (k+1)=y.keptN k++y.keptB k:=by
 unfold Yrd.keptN
 rw [List.range_succ,List.map_append,List.flatten_append]
 simp
theorem Z1V {y:Yrd} {b k t:Nat} (hb:b<k) (ht:t≤y.days):b*(y.days+1)+t<k*(y.days+1):=by
 have h:(b+1)*(y.days+1)≤k*(y.days+1):=Nat.mul_le_mul_right _ hb
 rw [Nat.add_mul] at h
 omega
theorem Z3S {y:Yrd} {b t:Nat} (ht:t≤y.days):∀ {k},b<k→(y.keptN k)[b*(y.days+1)+t]?=some (y.keptF b (y.binD b) t)
 | k+1,hb=>by
   rw [Z59]
   by_cases e:b=k
   · subst e
     rw [List.getElem?_append_right (by rw [Zs];omega),Zs,show b*(y.days+1)+t-b*(y.days+1)=t by omega]
     unfold Yrd.keptB
     rw [List.getElem?_map,List.getElem?_range (by omega)];rfl
   · rw [List.getElem?_append_left (by rw [Zs];exact Z1V (by omega) ht)]
     exact Z3S ht (by omega)
theorem Z1o {y:Yrd} {b t:Nat} (hb:b<y.bins.length) (ht:t≤y.days):y.flows[b*(y.days+1)+t]?=some (y.keptF b (y.binD b) t):=by
 unfold Yrd.flows
 rw [List.getElem?_append_left (by rw [Zs];exact Z1V hb ht)]
 exact Z3S ht hb
theorem Z6r {y:Yrd} {i:Nat} {m:SMov} (h:y.moves[i]?=some m):y.flows[y.bins.length*(y.days+1)+i]?=some (y.movF m):=by
 unfold Yrd.flows
 rw [List.getElem?_append_right (by rw [Zs];omega),Zs,show y.bins.length*(y.days+1)+i-y.bins.length*(y.days+1)=i by omega,List.getElem?_map,h];rfl
theorem Z0Z {y:Yrd} {i:Nat} {f:Fl} (h:y.flows[i]?=some f):(∃ b t,b<y.bins.length∧t≤y.days∧i=b*(y.days+1)+t∧f=y.keptF b (y.binD b) t)∨∃ j m,y.moves[j]?=some m∧i=y.bins.length*(y.days+1)+j∧f=y.movF m:=by
 by_cases hi:i<y.bins.length*(y.days+1)
 · left
   have hb:i / (y.days+1)<y.bins.length:=Nat.div_lt_of_lt_mul (by rw [Nat.mul_comm];exact hi)
   have ht:i%(y.days+1)<y.days+1:=Nat.mod_lt _ (by omega)
   have he:i=i / (y.days+1)*(y.days+1)+i%(y.days+1):=by rw [Nat.mul_comm];exact (Nat.div_add_mod _ _).symm
   refine ⟨i / (y.days+1),i%(y.days+1),hb,by omega,he,?_⟩
   have h2:=Z1o (y:=y) hb (show i%(y.days+1)≤y.days by omega)
   rw [← he,h] at h2
   exact Option.some.inj h2
 · right
   unfold Yrd.flows at h
   rw [List.getElem?_append_right (by rw [Zs];omega),Zs,List.getElem?_map] at h
   cases hm:y.moves[i-y.bins.length*(y.days+1)]? with
   | none=>rw [hm] at h;cases h
   | some m =>
     rw [hm] at h
     exact ⟨_,m,hm,by omega,(Option.some.inj h).symm⟩
theorem Z0c {y:Yrd} (hy:y.ok):∀ f∈y.flows,(f.fr<y.cells+1∧f.to<y.cells+1)∧f.fr≠f.to:=fun f hf=>by
 obtain ⟨i,hi⟩:=List.mem_iff_getElem?.1 hf
 have hd:=hy.days
 rcases Z0Z hi with ⟨b,t,hb,ht,_,rfl⟩ | ⟨j,m,hm,_,rfl⟩
 · obtain ⟨e1,e2⟩:=Z2b b t y.levels (y.base b t (y.binD b))
   unfold Yrd.keptF
   rw [e1,e2]
   have hc:(b+1)*y.days≤y.bins.length*y.days:=Nat.mul_le_mul_right _ hb
   rw [Nat.add_mul] at hc
   unfold Yrd.base Yrd.cells
   dsimp only
   by_cases h1:0<t<;>by_cases h2:t<y.days
   · rw [decide_eq_true h1,decide_eq_true h2];simp only [cond_true];omega
   · rw [decide_eq_true h1,decide_eq_false h2];simp only [cond_true,cond_false];omega
   · rw [decide_eq_false h1,decide_eq_true h2];simp only [cond_true,cond_false];omega
   · omega
 · obtain ⟨h1,h2,h3,h4,_⟩:=hy.mov m (List.mem_of_getElem? hm)
   have key:∀ x:Int,-1≤x→x<y.bins.length→y.cell x m.day.toNat<y.cells+1∧(x ≠ -1→y.cell x m.day.toNat=x.toNat*y.days+m.day.toNat∧x.toNat*y.days+m.day.toNat<y.cells):=fun x a1 a2=>by
     unfold Yrd.cell
     by_cases e:x = -1
     · rw [decide_eq_true e,cond_true];exact ⟨by omega,fun h=>absurd e h⟩
     · rw [decide_eq_false e,cond_false]
       have hc:(x.toNat+1)*y.days≤y.bins.length*y.days:=Nat.mul_le_mul_right _ (by omega)
       rw [Nat.add_mul] at hc
       unfold Yrd.cells
       exact ⟨by omega,fun _=>⟨rfl,by omega⟩⟩
   have k1:=key m.fr h2.1 h2.2
   have k2:=key m.to h3.1 h3.2
   refine ⟨⟨k1.1,k2.1⟩,?_⟩
   show y.cell m.fr m.day.toNat≠y.cell m.to m.day.toNat
   by_cases e1:m.fr = -1
   · by_cases e2:m.to = -1
     · omega
     · rw [(k2.2 e2).1,show y.cell m.fr m.day.toNat=y.cells from by unfold Yrd.cell;rw [decide_eq_true e1];rfl]
       have:=(k2.2 e2).2;omega
   · by_cases e2:m.to = -1
     · rw [(k1.2 e1).1,show y.cell m.to m.day.toNat=y.cells from by unfold Yrd.cell;rw [decide_eq_true e2];rfl]
       have:=(k1.2 e1).2;omega
     · rw [(k1.2 e1).1,(k2.2 e2).1]
       intro e
       have h5:m.fr.toNat*y.days=m.to.toNat*y.days:=by omega
       have h6:=Nat.eq_of_mul_eq_mul_right (by omega) h5
       omega
theorem Z8z {c:Nat}:∀ {F G:List Fl} {A:List Int},F.length=G.length→(∀ (i:Nat) (f g:Fl),F[i]?=some f→G[i]?=some g→f.fr=g.fr∧f.to=g.to)→ovr F A c=ovr G A c
 | [],[],_,_,_=>rfl
 | f::F,g::G,[],_,_=>rfl
 | f::F,g::G,a::A,hl,h=>by
   obtain ⟨h1,h2⟩:=h 0 f g rfl rfl
   show ((bif decide (f.to=c) then a else 0)-(bif decide (f.fr=c) then a else 0))+ovr F A c=((bif decide (g.to=c) then a else 0)-(bif decide (g.fr=c) then a else 0))+ovr G A c
   rw [h1,h2,Z8z (F:=F) (G:=G) (by simpa using hl) (fun i f g h3 h4=>h (i+1) f g h3 h4)]
theorem Zft {n out:Nat} {F:List Fl} {A B:List Int} (hF:∀ f∈F,f.fr<n∧f.to<n) (hout:out<n) (hA:A.length=F.length) (hB:B.length=F.length) {K U:Nat→Bool}
   (h1:∀ i f,F[i]?=some f→K i=true→(U f.fr=true∨f.fr=out)∧(U f.to=true∨f.to=out)) (h2:∀ i f,F[i]?=some f→K i=false→U f.fr=false∧U f.to=false)
   (oA:∀ c,c<n→U c=true→ovr F A c=0) (oB:∀ c,c<n→U c=false→c≠out→ovr F B c=0):∀ c,c<n→ovr F (mrg K A B) c=0:=by
 have hlt:∀ {i f},F[i]?=some f→i<A.length:=fun h=>by rw [hA];exact (List.getElem?_eq_some_iff.1 h).1
 have hz:∀ c,c<n→c≠out→ovr F (mrg K A B) c=0:=fun c hc hn=>by
   cases hu:U c with
   | true =>
     rw [← oA c hc hu]
     refine Z2X ((Z3h K A B).trans hA) hA fun i f hf ht=>?_
     rw [Z4o (hlt hf)]
     cases hk:K i with
     | true=>rfl
     | false =>
       have:=h2 i f hf hk
       rcases ht with e | e
       · rw [e,hu] at this;cases this.2
       · rw [e,hu] at this;cases this.1
   | false =>
     rw [← oB c hc hu hn]
     refine Z2X ((Z3h K A B).trans hA) hB fun i f hf ht=>?_
     rw [Z4o (hlt hf)]
     cases hk:K i with
     | false=>rfl
     | true =>
       have:=h1 i f hf hk
       rcases ht with e | e
       · rcases this.2 with h | h
         · rw [e,hu] at h;cases h
         · exact absurd (e.symm.trans h) hn
       · rcases this.1 with h | h
         · rw [e,hu] at h;cases h
         · exact absurd (e.symm.trans h) hn
 intro c hc
 by_cases e:c=out
 · subst e
   have h:=Z5J (A:=mrg K A B) hF
   rwa [Z4E hout hz] at h
 · exact hz c hc e
theorem Z8C {c:Nat}:∀ {F:List Fl} {A:List Int},(∀ i,na A i=0)→ovr F A c=0
 | [],_,_=>rfl
 | _::_,[],_=>rfl
 | f::F,a::A,h=>by
   have h0:a=0:=h 0
   subst h0
   show ((bif decide (f.to=c) then 0 else 0)-(bif decide (f.fr=c) then 0 else 0))+ovr F A c=0
   rw [Z8C (F:=F) (A:=A) (fun i=>h (i+1))]
   cases decide (f.to=c)<;>cases decide (f.fr=c)<;>rfl
def apB (W:Nat→Bool) (b:Int):Bool:=decide (b = -1)||W b.toNat
def Yrd.off (y:Yrd) (W:Nat→Bool):Yrd:=⟨y.days,(List.range y.bins.length).map fun b=>bif W b then y.binD b else ⟨0,⟨0,0⟩⟩,y.moves.filter (fun m=>apB W m.fr&&apB W m.to),y.levels.filter fun l=>apB W l.bin⟩
theorem Z1c (y:Yrd) (W:Nat→Bool):(y.off W).bins.length=y.bins.length:=by simp [Yrd.off]
theorem Zd9 {y:Yrd} {W:Nat→Bool} {b:Nat} (h:b<y.bins.length):(y.off W).binD b=bif W b then y.binD b else ⟨0,⟨0,0⟩⟩:=by
 unfold Yrd.off Yrd.binD
 dsimp only
 rw [List.getD_eq_getElem?_getD,List.getElem?_map,List.getElem?_range h];rfl
theorem Z7p {W:Nat→Bool} {b t:Nat} (h:W b=true):∀ (ls:List SLev) (f:Fl),(ls.filter fun l=>apB W l.bin).foldl (Z0B b t) f=ls.foldl (Z0B b t) f
 | [],f=>rfl
 | l::ls,f=>by
   rw [List.filter_cons]
   by_cases e:apB W l.bin=true
   · rw [if_pos e,List.foldl_cons,List.foldl_cons,Z7p h ls]
   · rw [if_neg e,List.foldl_cons,Z7p h ls]
     have:Z0B b t f l=f:=by
       unfold Z0B
       rw [decide_eq_false (show ¬ l.bin=(b:Int) from fun e2=>e (by unfold apB;rw [e2,Int.toNat_natCast,h,Bool.or_true]))];rfl
     rw [this]
theorem Z5C {W:Nat→Bool} {b t:Nat} (h:W b=false):∀ (ls:List SLev) (f:Fl),(ls.filter fun l=>apB W l.bin).foldl (Z0B b t) f=f
 | [],f=>rfl
 | l::ls,f=>by
   rw [List.filter_cons]
   by_cases e:apB W l.bin=true
   · rw [if_pos e,List.foldl_cons]
     have:Z0B b t f l=f:=by
       unfold Z0B
       rw [decide_eq_false (show ¬ l.bin=(b:Int) from fun e2=>by unfold apB at e;rw [e2,Int.toNat_natCast,h,Bool.or_false] at e;have:=of_decide_eq_true e;omega)];rfl
     rw [this,Z5C h ls]
   · rw [if_neg e,Z5C h ls]
theorem Z5H {y:Yrd} {W:Nat→Bool} {b t:Nat} (hb:b<y.bins.length):(W b=true→(y.off W).keptF b ((y.off W).binD b) t=y.keptF b (y.binD b) t)∧(W b=false→((y.off W).keptF b ((y.off W).binD b) t).lo=0∧((y.off W).keptF b ((y.off W).binD b) t).hi=0):=by
 rw [Zd9 hb]
 constructor
 · intro h
   rw [h,cond_true]
   unfold Yrd.keptF
   show ((y.levels.filter fun l=>apB W l.bin).foldl (Z0B b t) ((y.off W).base b t (y.binD b)))=_
   rw [Z7p h]
   unfold Yrd.base Yrd.cells
   rw [Z1c];rfl
 · intro h
   rw [h,cond_false]
   unfold Yrd.keptF
   show ((y.levels.filter fun l=>apB W l.bin).foldl (Z0B b t) ((y.off W).base b t ⟨0,⟨0,0⟩⟩)).lo=0∧((y.levels.filter fun l=>apB W l.bin).foldl (Z0B b t) ((y.off W).base b t ⟨0,⟨0,0⟩⟩)).hi=0
   rw [Z5C h]
   unfold Yrd.base
   cases decide (0<t)<;>exact ⟨rfl,rfl⟩
theorem Z4f {α:Type} {p:α→Bool}:∀ {l:List α} {K:Nat→Bool},(∀ i x,l[i]?=some x→K i=p x)→l.filter p=Z2j K l
 | [],_,_=>rfl
 | x::l,K,h=>by
   have h0:K 0=p x:=h 0 x rfl
   have ih:=Z4f (p:=p) (l:=l) (K:=fun i=>K (i+1)) (fun i x hx=>h (i+1) x hx)
   rw [List.filter_cons]
   unfold Z2j
   rw [h0]
   cases p x with
   | true=>rw [if_pos rfl,cond_true,ih]
   | false=>rw [if_neg (by decide),cond_false,ih]
theorem Z8T {α β:Type} {f:α→β}:∀ {l:List α} {K:Nat→Bool},(Z2j K l).map f=Z2j K (l.map f)
 | [],_=>rfl
 | x::l,K=>by
   have ih:=Z8T (f:=f) (l:=l) (K:=fun i=>K (i+1))
   rw [List.map_cons]
   unfold Z2j
   cases K 0 with
   | true=>rw [cond_true,cond_true,List.map_cons,ih]
   | false=>rw [cond_false,cond_false,ih]
def Yrd.N0 (y:Yrd):Nat:=y.bins.length*(y.days+1)
def Yrd.KM (y:Yrd) (W:Nat→Bool) (j:Nat):Bool:=match y.moves[j]? with
 | some m=>apB W m.fr&&apB W m.to
 | none=>false
def Yrd.K (y:Yrd) (W:Nat→Bool) (i:Nat):Bool:=bif decide (i<y.N0) then W (i / (y.days+1)) else y.KM W (i-y.N0)
def Yrd.U (y:Yrd) (W:Nat→Bool) (c:Nat):Bool:=decide (c<y.cells)&&W (c / y.days)
theorem Z9B (y:Yrd) (W:Nat→Bool):y.U W y.cells=false:=by unfold Yrd.U;rw [decide_eq_false (Nat.lt_irrefl _)];rfl
theorem Zj1 {y:Yrd} (hy:y.ok) {W:Nat→Bool} {b t:Nat} (hb:b<y.bins.length) (ht:t<y.days):y.U W (b*y.days+t)=W b:=by
 have hc:(b+1)*y.days≤y.bins.length*y.days:=Nat.mul_le_mul_right _ hb
 rw [Nat.add_mul] at hc
 unfold Yrd.U Yrd.cells
 rw [decide_eq_true (by omega),Bool.true_and,show (b*y.days+t) / y.days=b by rw [Nat.mul_comm,Nat.mul_add_div (by omega),Nat.div_eq_of_lt ht];rfl]
theorem Z7N {y:Yrd} {W:Nat→Bool} {b t:Nat} (hb:b<y.bins.length) (ht:t≤y.days):y.K W (b*(y.days+1)+t)=W b:=by
 unfold Yrd.K
 rw [decide_eq_true (show _<y.N0 from Z1V hb ht),cond_true,show (b*(y.days+1)+t) / (y.days+1)=b by rw [Nat.mul_comm,Nat.mul_add_div (by omega),Nat.div_eq_of_lt (by omega)];rfl]
theorem ZiY {y:Yrd} {W:Nat→Bool} {j:Nat} {m:SMov} (h:y.moves[j]?=some m):y.K W (y.N0+j)=(apB W m.fr&&apB W m.to):=by
 unfold Yrd.K
 rw [decide_eq_false (by omega),cond_false,show y.N0+j-y.N0=j by omega]
 unfold Yrd.KM
 rw [h]
theorem Zax {y:Yrd} {x:Int} {d:Nat}:y.cell x d=bif decide (x = -1) then y.cells else x.toNat*y.days+d:=rfl
theorem Z7M {y:Yrd} (hy:y.ok) {W:Nat→Bool} (hW:∀ m∈y.moves,m.fr ≠ -1→m.to ≠ -1→W m.fr.toNat=W m.to.toNat) {i:Nat} {f:Fl} (hf:y.flows[i]?=some f) :
   (y.K W i=true→(y.U W f.fr=true∨f.fr=y.cells)∧(y.U W f.to=true∨f.to=y.cells))∧(y.K W i=false→y.U W f.fr=false∧y.U W f.to=false):=by
 have hd:=hy.days
 rcases Z0Z hf with ⟨b,t,hb,ht,rfl,rfl⟩ | ⟨j,m,hm,rfl,rfl⟩
 · rw [Z7N hb ht]
   obtain ⟨e1,e2⟩:=Z2b b t y.levels (y.base b t (y.binD b))
   unfold Yrd.keptF
   rw [e1,e2]
   have hfr:(y.base b t (y.binD b)).fr=y.cells∨y.U W (y.base b t (y.binD b)).fr=W b:=by
     unfold Yrd.base
     dsimp only
     by_cases h:0<t
     · rw [decide_eq_true h,cond_true];exact .inr (Zj1 hy hb (by omega))
     · rw [decide_eq_false h];exact .inl rfl
   have hto:(y.base b t (y.binD b)).to=y.cells∨y.U W (y.base b t (y.binD b)).to=W b:=by
     unfold Yrd.base
     dsimp only
     by_cases h:t<y.days
     · rw [decide_eq_true h,cond_true];exact .inr (Zj1 hy hb h)
     · rw [decide_eq_false h];exact .inl rfl
   refine ⟨fun h=>⟨?_,?_⟩,fun h=>⟨?_,?_⟩⟩
   · exact hfr.elim .inr (fun e=>.inl (e.trans h))
   · exact hto.elim .inr (fun e=>.inl (e.trans h))
   · exact hfr.elim (fun e=>by rw [e];exact Z9B y W) (fun e=>e.trans h)
   · exact hto.elim (fun e=>by rw [e];exact Z9B y W) (fun e=>e.trans h)
 · rw [show y.bins.length*(y.days+1)+j=y.N0+j from rfl,ZiY hm]
   have hmm:=List.mem_of_getElem? hm
   obtain ⟨h1,h2,h3,h4,_⟩:=hy.mov m hmm
   have key:∀ x:Int,-1≤x→x<y.bins.length→(x = -1∧y.cell x m.day.toNat=y.cells)∨(x ≠ -1∧y.U W (y.cell x m.day.toNat)=W x.toNat):=fun x a1 a2=>by
     by_cases e:x = -1
     · left;exact ⟨e,by rw [Zax,decide_eq_true e];rfl⟩
     · right;exact ⟨e,by rw [Zax,decide_eq_false e,cond_false];exact Zj1 hy (by omega) (by omega)⟩
   have apx:∀ x:Int,x ≠ -1→apB W x=W x.toNat:=fun x e=>by unfold apB;rw [decide_eq_false e];rfl
   have ap1:∀ x:Int,x = -1→apB W x=true:=fun x e=>by unfold apB;rw [decide_eq_true e];rfl
   show ((apB W m.fr&&apB W m.to)=true→(y.U W (y.cell m.fr m.day.toNat)=true∨y.cell m.fr m.day.toNat=y.cells)∧(y.U W (y.cell m.to m.day.toNat)=true∨y.cell m.to m.day.toNat=y.cells))∧((apB W m.fr&&apB W m.to)=false→y.U W (y.cell m.fr m.day.toNat)=false∧y.U W (y.cell m.to m.day.toNat)=false)
   rcases key m.fr h2.1 h2.2 with ⟨a1,a2⟩ | ⟨a1,a2⟩<;>rcases key m.to h3.1 h3.2 with ⟨b1,b2⟩ | ⟨b1,b2⟩
   · omega
   · rw [a2,b2,ap1 _ a1,apx _ b1,Z9B,Bool.true_and]
     exact ⟨fun h=>⟨.inr rfl,.inl h⟩,fun h=>⟨rfl,h⟩⟩
   · rw [a2,b2,ap1 _ b1,apx _ a1,Z9B,Bool.and_true]
     exact ⟨fun h=>⟨.inl h,.inr rfl⟩,fun h=>⟨h,rfl⟩⟩
   · rw [a2,b2,apx _ a1,apx _ b1,hW m hmm a1 b1,Bool.and_self]
     exact ⟨fun h=>⟨.inl h,.inl h⟩,fun h=>⟨h,h⟩⟩
theorem Z1X (y:Yrd) (W:Nat→Bool):(y.off W).flows=(y.off W).keptN y.bins.length++Z2j (y.KM W) (y.moves.map y.movF):=by
 unfold Yrd.flows
 rw [Z1c]
 congr 1
 rw [← Z8T,← Z4f (p:=fun m=>apB W m.fr&&apB W m.to) (fun i m hm=>by unfold Yrd.KM;rw [hm])]
 refine List.map_congr_left fun m _=>?_
 unfold Yrd.movF Yrd.cell Yrd.cells
 rw [Z1c];rfl
theorem Z4s (y:Yrd) (W:Nat→Bool):(y.off W).cells=y.cells:=by unfold Yrd.cells;rw [Z1c];rfl
theorem Zba {y:Yrd} {W:Nat→Bool} {c:Nat} {A:List Int}:ovr ((y.off W).keptN y.bins.length) A c=ovr (y.keptN y.bins.length) A c:=by
 refine Z8z (by rw [Zs,Zs];rfl) fun i f g hf hg=>?_
 have hi:i<y.bins.length*(y.days+1):=by rw [← Zs y];exact (List.getElem?_eq_some_iff.1 hg).1
 have hb:i / (y.days+1)<y.bins.length:=Nat.div_lt_of_lt_mul (by rw [Nat.mul_comm];exact hi)
 have ht:i%(y.days+1)<y.days+1:=Nat.mod_lt _ (by omega)
 have he:i=i / (y.days+1)*(y.days+1)+i%(y.days+1):=by rw [Nat.mul_comm];exact (Nat.div_add_mod _ _).symm
 have h1:=Z3S (y:=y) (t:=i%(y.days+1)) (by omega) hb
 have h2:=Z3S (y:=y.off W) (t:=i%(y.days+1)) (show _≤y.days by omega) hb
 rw [← he,hg] at h1
 rw [show (y.off W).days=y.days from rfl,← he,hf] at h2
 cases h1;cases h2
 obtain ⟨e1,e2⟩:=Z2b (i / (y.days+1)) (i%(y.days+1)) y.levels (y.base (i / (y.days+1)) (i%(y.days+1)) (y.binD (i / (y.days+1))))
 obtain ⟨e3,e4⟩:=Z2b (i / (y.days+1)) (i%(y.days+1)) (y.off W).levels ((y.off W).base (i / (y.days+1)) (i%(y.days+1)) ((y.off W).binD (i / (y.days+1))))
 unfold Yrd.keptF
 rw [e1,e2,e3,e4]
 unfold Yrd.base
 rw [Z4s]
 exact ⟨rfl,rfl⟩
theorem Z7u {A:List Int} {N i:Nat} (h:i<N):na (A.take N) i=na A i:=by
 unfold na;rw [List.getD_eq_getElem?_getD,List.getD_eq_getElem?_getD,List.getElem?_take,if_pos h]
theorem Z7r {A:List Int} {N j:Nat}:na (A.drop N) j=na A (N+j):=by
 unfold na;rw [List.getD_eq_getElem?_getD,List.getD_eq_getElem?_getD,List.getElem?_drop]
theorem Z4p {A B:List Int} {i:Nat} (h:i<A.length):na (A++B) i=na A i:=by
 unfold na;rw [List.getD_eq_getElem?_getD,List.getD_eq_getElem?_getD,List.getElem?_append_left h]
theorem Z4q {A B:List Int} {j:Nat}:na (A++B) (A.length+j)=na B j:=by
 unfold na;rw [List.getD_eq_getElem?_getD,List.getD_eq_getElem?_getD,List.getElem?_append_right (by omega),show A.length+j-A.length=j by omega]
theorem Zfv {A:List Int} {K:Nat→Bool} {i:Nat} (h:K i=true):na (Z2j K A) (Z3u K i)=na A i:=by
 unfold na;rw [List.getD_eq_getElem?_getD,List.getD_eq_getElem?_getD,Z5Z h]
theorem Z1p (y:Yrd):y.flows.length=y.N0+y.moves.length:=by unfold Yrd.flows;rw [List.length_append,Zs,List.length_map];rfl
theorem Zed (y:Yrd) (W:Nat→Bool):(Z2j (y.KM W) (y.moves.map y.movF)).length=Z3u (y.KM W) y.moves.length:=by rw [Z60,List.length_map]
theorem Zbn {y:Yrd} {W:Nat→Bool} {c:Nat} {P M:List Int} (hP:P.length=y.N0) (hM:M.length=y.moves.length) (hz:∀ j,y.KM W j=false→na M j=0):ovr (y.off W).flows (P++Z2j (y.KM W) M) c=ovr y.flows (P++M) c:=by
 rw [Z1X,Z3i (by rw [hP,Zs];rfl),Zba,Z8U (by rw [hM,List.length_map]) hz]
 unfold Yrd.flows
 rw [Z3i (by rw [hP,Zs];rfl)]
theorem Zda {y:Yrd} {W:Nat→Bool} {i:Nat} {f:Fl} (h:(y.off W).flows[i]?=some f):(∃ b t,b<y.bins.length∧t≤y.days∧i=b*(y.days+1)+t∧f=(y.off W).keptF b ((y.off W).binD b) t)∨∃ j m,y.moves[j]?=some m∧y.KM W j=true∧i=y.N0+Z3u (y.KM W) j∧f=y.movF m:=by
 by_cases hi:i<y.N0
 · left
   have hb:i / (y.days+1)<y.bins.length:=Nat.div_lt_of_lt_mul (by rw [Nat.mul_comm];exact hi)
   have ht:i%(y.days+1)<y.days+1:=Nat.mod_lt _ (by omega)
   have he:i=i / (y.days+1)*(y.days+1)+i%(y.days+1):=by rw [Nat.mul_comm];exact (Nat.div_add_mod _ _).symm
   refine ⟨i / (y.days+1),i%(y.days+1),hb,by omega,he,?_⟩
   have h2:=Z1o (y:=y.off W) (b:=i / (y.days+1)) (t:=i%(y.days+1)) (by rw [Z1c];exact hb) (show _≤y.days by omega)
   rw [show (y.off W).days=y.days from rfl,← he,h] at h2
   exact Option.some.inj h2
 · right
   rw [Z1X,List.getElem?_append_right (by rw [Zs];exact Nat.le_of_not_lt hi),Zs] at h
   obtain ⟨j,h1,h2,h3⟩:=Z61 h
   rw [List.getElem?_map] at h3
   cases hm:y.moves[j]? with
   | none=>rw [hm] at h3;cases h3
   | some m =>
     rw [hm] at h3
     have e0:y.bins.length*((y.off W).days+1)=y.N0:=rfl
     rw [e0] at h2
     exact ⟨j,m,hm,h1,by omega,(Option.some.inj h3).symm⟩
theorem Z5G {y:Yrd} (hy:y.ok) {W:Nat→Bool} (hW:∀ m∈y.moves,m.fr ≠ -1→m.to ≠ -1→W m.fr.toNat=W m.to.toNat) {A:List Int} (hA:Feas (y.cells+1) y.flows A) :
   ∃ A',Feas (y.cells+1) (y.off W).flows A'∧∀ b t,b<y.bins.length→W b=true→t≤y.days→na A' (b*(y.days+1)+t)=na A (b*(y.days+1)+t):=by
 have hF:∀ f∈y.flows,f.fr<y.cells+1∧f.to<y.cells+1:=fun f hf=>(Z0c hy f hf).1
 obtain ⟨Z,hZ⟩:∃ Z:List Int,Z=List.replicate A.length 0:=⟨_,rfl⟩
 have hZn:∀ i,na Z i=0:=fun i=>by
   unfold na;rw [hZ,List.getD_eq_getElem?_getD,List.getElem?_replicate];split<;>rfl
 obtain ⟨M,hM⟩:∃ M,M=mrg (y.K W) A Z:=⟨_,rfl⟩
 have hMl:M.length=y.N0+y.moves.length:=by rw [hM,Z3h,hA.len,Z1p]
 have hMa:∀ i,i<A.length→na M i=bif y.K W i then na A i else 0:=fun i hi=>by rw [hM,Z4o hi,hZn]
 have hAl:A.length=y.N0+y.moves.length:=by rw [hA.len,Z1p]
 have hbal:∀ c,c<y.cells+1→ovr y.flows M c=0:=by
   rw [hM]
   exact Zft hF (Nat.lt_succ_self _) hA.len (by rw [hZ,List.length_replicate];exact hA.len) (K:=y.K W) (U:=y.U W) (fun i f hf=>(Z7M hy hW hf).1) (fun i f hf=>(Z7M hy hW hf).2) (fun c hc _=>hA.bal c hc) (fun c _ _ _=>Z8C hZn)
 have hP:(M.take y.N0).length=y.N0:=by rw [List.length_take];omega
 have hD:(M.drop y.N0).length=y.moves.length:=by rw [List.length_drop];omega
 have hz:∀ j,y.KM W j=false→na (M.drop y.N0) j=0:=fun j hj=>by
   rw [Z7r]
   by_cases h:y.N0+j<A.length
   · rw [hMa _ h]
     have:y.K W (y.N0+j)=false:=by unfold Yrd.K;rw [decide_eq_false (by omega),cond_false,show y.N0+j-y.N0=j by omega];exact hj
     rw [this];rfl
   · unfold na;rw [List.getD_eq_getElem?_getD,List.getElem?_eq_none (by omega)];rfl
 have hkept:∀ b t,b<y.bins.length→t≤y.days→na (M.take y.N0++Z2j (y.KM W) (M.drop y.N0)) (b*(y.days+1)+t)=bif W b then na A (b*(y.days+1)+t) else 0:=fun b t hb ht=>by
   have hlt:b*(y.days+1)+t<y.N0:=Z1V hb ht
   rw [Z4p (by rw [hP];exact hlt),Z7u hlt,hMa _ (by omega),Z7N hb ht]
 refine ⟨M.take y.N0++Z2j (y.KM W) (M.drop y.N0),⟨?_,fun i f hf=>?_,fun c hc=>?_⟩,fun b t hb hw ht=>by rw [hkept b t hb ht,hw];rfl⟩
 · rw [List.length_append,hP,Z60,hD,Z1X,List.length_append,Zs,Zed];rfl
 · rcases Zda hf with ⟨b,t,hb,ht,rfl,rfl⟩ | ⟨j,m,hm,hk,rfl,rfl⟩
   · rw [hkept b t hb ht]
     cases hw:W b with
     | true =>
       rw [(Z5H hb).1 hw,cond_true]
       exact hA.bnd _ _ (Z1o hb ht)
     | false =>
       obtain ⟨e1,e2⟩:=(Z5H (y:=y) (t:=t) hb).2 hw
       rw [e1,e2,cond_false];omega
   · have hj:=(List.getElem?_eq_some_iff.1 hm).1
     have e:na (M.take y.N0++Z2j (y.KM W) (M.drop y.N0)) (y.N0+Z3u (y.KM W) j)=na A (y.N0+j):=by
       have:=Z4q (A:=M.take y.N0) (B:=Z2j (y.KM W) (M.drop y.N0)) (j:=Z3u (y.KM W) j)
       rw [hP] at this
       rw [this,Zfv hk,Z7r,hMa _ (by omega)]
       have hk2:y.K W (y.N0+j)=true:=by unfold Yrd.K;rw [decide_eq_false (by omega),cond_false,show y.N0+j-y.N0=j by omega];exact hk
       rw [hk2];rfl
     rw [e]
     exact hA.bnd _ _ (Z6r hm)
 · rw [Zbn hP hD hz,List.take_append_drop]
   exact hbal c hc
theorem Zee {y:Yrd} (hy:y.ok) {W:Nat→Bool} (hW:∀ m∈y.moves,m.fr ≠ -1→m.to ≠ -1→W m.fr.toNat=W m.to.toNat) {A0 A':List Int} (h0:Feas (y.cells+1) y.flows A0) (hA:Feas (y.cells+1) (y.off W).flows A') :
   ∃ A,Feas (y.cells+1) y.flows A∧∀ b t,b<y.bins.length→W b=true→t≤y.days→na A (b*(y.days+1)+t)=na A' (b*(y.days+1)+t):=by
 have hF:∀ f∈y.flows,f.fr<y.cells+1∧f.to<y.cells+1:=fun f hf=>(Z0c hy f hf).1
 have hAl:A'.length=y.N0+Z3u (y.KM W) y.moves.length:=by rw [hA.len,Z1X,List.length_append,Zs,Zed];rfl
 have hP:(A'.take y.N0).length=y.N0:=by rw [List.length_take];omega
 have hD:(A'.drop y.N0).length=Z3u (y.KM W) y.moves.length:=by rw [List.length_drop];omega
 obtain ⟨E,hE⟩:∃ E,E=A'.take y.N0++fat (y.KM W) y.moves.length (A'.drop y.N0):=⟨_,rfl⟩
 have hEl:E.length=y.flows.length:=by rw [hE,List.length_append,hP,Z4e,Z1p]
 have hz:∀ j,y.KM W j=false→na (fat (y.KM W) y.moves.length (A'.drop y.N0)) j=0:=fun j hj=>by
   by_cases h:j<y.moves.length
   · rw [Z6p h,hj];rfl
   · unfold na;rw [List.getD_eq_getElem?_getD,List.getElem?_eq_none (by rw [Z4e];omega)];rfl
 have hEo:∀ c,ovr y.flows E c=ovr (y.off W).flows A' c:=fun c=>by
   rw [hE,← Zbn hP (Z4e _ _ _) hz,Z3X hD,List.take_append_drop]
 have hEk:∀ b t,b<y.bins.length→t≤y.days→na E (b*(y.days+1)+t)=na A' (b*(y.days+1)+t):=fun b t hb ht=>by
   have hlt:b*(y.days+1)+t<y.N0:=Z1V hb ht
   rw [hE,Z4p (by rw [hP];exact hlt),Z7u hlt]
 have hEm:∀ j,j<y.moves.length→y.KM W j=true→na E (y.N0+j)=na A' (y.N0+Z3u (y.KM W) j):=fun j hj hk=>by
   have:=Z4q (A:=A'.take y.N0) (B:=fat (y.KM W) y.moves.length (A'.drop y.N0)) (j:=j)
   rw [hP,← hE] at this
   rw [this,Z6p hj,hk,cond_true,Z7r]
 refine ⟨mrg (y.K W) E A0,Zd2 hF (Nat.lt_succ_self _) hEl h0.len (K:=y.K W) (U:=y.U W) (Z9B y W) (fun i f hf=>(Z7M hy hW hf).1) (fun i f hf=>(Z7M hy hW hf).2) (fun i f hf hk=>?_) (fun i f hf _=>h0.bnd i f hf) (fun c hc _=>by rw [hEo];exact hA.bal c hc) (fun c hc _ _=>h0.bal c hc),fun b t hb hw ht=>?_⟩
 · rcases Z0Z hf with ⟨b,t,hb,ht,rfl,rfl⟩ | ⟨j,m,hm,rfl,rfl⟩
   · rw [Z7N hb ht] at hk
     rw [hEk b t hb ht]
     have h2:=Z1o (y:=y.off W) (b:=b) (t:=t) (by rw [Z1c];exact hb) ht
     rw [(Z5H hb).1 hk] at h2
     exact hA.bnd _ _ h2
   · have hj:=(List.getElem?_eq_some_iff.1 hm).1
     have hk2:y.KM W j=true:=by
       unfold Yrd.K at hk
       rw [show y.bins.length*(y.days+1)+j=y.N0+j from rfl,decide_eq_false (by omega),cond_false,show y.N0+j-y.N0=j by omega] at hk
       exact hk
     rw [show y.bins.length*(y.days+1)+j=y.N0+j from rfl,hEm j hj hk2]
     refine hA.bnd (y.N0+Z3u (y.KM W) j) (y.movF m) ?_
     rw [Z1X,List.getElem?_append_right (by rw [Zs];exact Nat.le_add_right _ _),Zs,show y.N0+Z3u (y.KM W) j-y.bins.length*((y.off W).days+1)=Z3u (y.KM W) j from by show y.N0+_-y.N0=_;omega,Z5Z hk2,List.getElem?_map,hm];rfl
 · have hlt:b*(y.days+1)+t<y.N0:=Z1V hb ht
   rw [Z4o (by rw [hEl,Z1p];omega),Z7N hb ht,hw,cond_true,hEk b t hb ht]
def Grt (n:Nat) (F:List Fl) (wt:Nat→Int) (v:Int):Prop:=(∃ A,Feas n F A∧Z0O wt A=v)∧∀ B,Feas n F B→Z0O wt B≤v
def Lst (n:Nat) (F:List Fl) (wt:Nat→Int) (v:Int):Prop:=(∃ A,Feas n F A∧Z0O wt A=v)∧∀ B,Feas n F B→v≤Z0O wt B
theorem Grt.uniq {n:Nat} {F:List Fl} {wt:Nat→Int} {u v:Int} (h:Grt n F wt u) (h':Grt n F wt v):u=v:=by
 obtain ⟨⟨A,a1,a2⟩,a3⟩:=h
 obtain ⟨⟨B,b1,b2⟩,b3⟩:=h'
 have:=a3 B b1
 have:=b3 A a1
 omega
theorem Lst.uniq {n:Nat} {F:List Fl} {wt:Nat→Int} {u v:Int} (h:Lst n F wt u) (h':Lst n F wt v):u=v:=by
 obtain ⟨⟨A,a1,a2⟩,a3⟩:=h
 obtain ⟨⟨B,b1,b2⟩,b3⟩:=h'
 have:=a3 B b1
 have:=b3 A a1
 omega
theorem Z64:∀ (A:List Int) (w:Nat→Int),Z0O (fun i => -w i) A = -Z0O w A
 | [],_=>rfl
 | a::A,w=>by
   show -w 0*a+Z0O (fun i => -w (i+1)) A = -(w 0*a+Z0O (fun i=>w (i+1)) A)
   rw [Z64 A (fun i=>w (i+1)),Int.neg_mul];omega
theorem Zi6 {n:Nat} {F:List Fl} {wt:Nat→Int} {A:List Int} (hA:Feas n F A) (h:∀ B,Feas n F B→Z0O (fun i => -wt i) B≤Z0O (fun i => -wt i) A):Lst n F wt (Z0O wt A) :=
 ⟨⟨A,hA,rfl⟩,fun B hB=>by have:=h B hB;rw [Z64,Z64] at this;omega⟩
theorem Z6V:∀ (A:List Int) (w:Nat→Int),(∀ i,w i=0)→Z0O w A=0
 | [],_,_=>rfl
 | a::A,w,h=>by
   show w 0*a+Z0O (fun i=>w (i+1)) A=0
   rw [Z6V A _ (fun i=>h (i+1)),h 0,Int.zero_mul];rfl
theorem Z0T:∀ (A:List Int) (k:Nat),Z0O (fun i=>bif decide (i=k) then 1 else 0) A=na A k
 | [],k=>by show (0:Int)=na [] k;rfl
 | a::A,0=>by
   show (1:Int)*a+Z0O (fun i=>bif decide (i+1=0) then 1 else 0) A=a
   rw [Z6V A _ (fun i=>by rw [decide_eq_false (by omega)];rfl)];omega
 | a::A,k+1=>by
   show (0:Int)*a+Z0O (fun i=>bif decide (i+1=k+1) then 1 else 0) A=na A k
   rw [show (fun i=>bif decide (i+1=k+1) then (1:Int) else 0)=fun i=>bif decide (i=k) then 1 else 0 from funext fun i=>by rw [show decide (i+1=k+1)=decide (i=k) from decide_eq_decide.2 (by omega)],Z0T A k];omega
theorem Zfz {y:Yrd} (hy:y.ok) {W:Nat→Bool} (hW:∀ m∈y.moves,m.fr ≠ -1→m.to ≠ -1→W m.fr.toNat=W m.to.toNat) {b t:Nat} (hb:b<y.bins.length) (hw:W b=true) (ht:t≤y.days) {v:Int}
   (h:Grt (y.cells+1) y.flows (fun i=>bif decide (i=b*(y.days+1)+t) then 1 else 0) v):Grt (y.cells+1) (y.off W).flows (fun i=>bif decide (i=b*(y.days+1)+t) then 1 else 0) v:=by
 obtain ⟨⟨A,a1,a2⟩,a3⟩:=h
 rw [Z0T] at a2
 obtain ⟨A',h1,h2⟩:=Z5G hy hW a1
 refine ⟨⟨A',h1,by rw [Z0T,h2 b t hb hw ht,a2]⟩,fun B hB=>?_⟩
 obtain ⟨C,c1,c2⟩:=Zee hy hW a1 hB
 have:=a3 C c1
 rw [Z0T,c2 b t hb hw ht] at this
 rw [Z0T];exact this
theorem ZfA {y:Yrd} (hy:y.ok) {W:Nat→Bool} (hW:∀ m∈y.moves,m.fr ≠ -1→m.to ≠ -1→W m.fr.toNat=W m.to.toNat) {b t:Nat} (hb:b<y.bins.length) (hw:W b=true) (ht:t≤y.days) {v:Int}
   (h:Lst (y.cells+1) y.flows (fun i=>bif decide (i=b*(y.days+1)+t) then 1 else 0) v):Lst (y.cells+1) (y.off W).flows (fun i=>bif decide (i=b*(y.days+1)+t) then 1 else 0) v:=by
 obtain ⟨⟨A,a1,a2⟩,a3⟩:=h
 rw [Z0T] at a2
 obtain ⟨A',h1,h2⟩:=Z5G hy hW a1
 refine ⟨⟨A',h1,by rw [Z0T,h2 b t hb hw ht,a2]⟩,fun B hB=>?_⟩
 obtain ⟨C,c1,c2⟩:=Zee hy hW a1 hB
 have:=a3 C c1
 rw [Z0T,c2 b t hb hw ht] at this
 rw [Z0T];exact this
open Go
theorem Z70:Z2q Tryz.prog 102=some 4:=by kernel_rfl
theorem Z5g:Z2q Tryz.prog 307=some 4:=by kernel_rfl
theorem Zg2:Z2q Tryz.prog 62=some 3:=by kernel_rfl
theorem Z9s:Z2q Tryz.prog 83=some 5:=by kernel_rfl
theorem Z3r:cal Tryz.prog 182=true:=by kernel_rfl
theorem Zhi:cal Tryz.prog 243=true:=by kernel_rfl
theorem Zhj:cal Tryz.prog 244=true:=by kernel_rfl
theorem Zhk:cal Tryz.prog 245=true:=by kernel_rfl
theorem Zhl:cal Tryz.prog 246=true:=by kernel_rfl
theorem Zhm:cal Tryz.prog 247=true:=by kernel_rfl
theorem Zhn:cal Tryz.prog 248=true:=by kernel_rfl
theorem ZhA:cal Tryz.prog 273=true:=by kernel_rfl
theorem ZhB:cal Tryz.prog 274=true:=by kernel_rfl
theorem ZhC:cal Tryz.prog 275=true:=by kernel_rfl
theorem ZhD:cal Tryz.prog 276=true:=by kernel_rfl
theorem ZhE:cal Tryz.prog 277=true:=by kernel_rfl
theorem ZhF:cal Tryz.prog 279=true:=by kernel_rfl
theorem Z97:elN Tryz.prog 236=some 4:=by kernel_rfl
theorem ZhS:elN Tryz.prog 56=some 3:=by kernel_rfl
theorem Zfa:elN Tryz.prog 57=some 5:=by kernel_rfl
theorem ZiN:elN Tryz.prog 58=some 4:=by kernel_rfl
theorem Z6t:Z0m Tryz.prog 37 0=some 0:=by kernel_rfl
theorem Z6u:Z0m Tryz.prog 37 1=some 1:=by kernel_rfl
theorem Z18:Z0m Tryz.prog 60 0=some 0:=by kernel_rfl
theorem Z0o:Z0m Tryz.prog 60 1=some 1:=by kernel_rfl
theorem Zb4:Z3G Tryz.prog 236=true:=by kernel_rfl
theorem Z2R:Z3G Tryz.prog 56=true:=by kernel_rfl
theorem Z6z:Z3G Tryz.prog 57=true:=by kernel_rfl
theorem Zb6:Z3G Tryz.prog 58=true:=by kernel_rfl
theorem ZjX:Z17 Tryz.prog 298=true:=by kernel_rfl
theorem sc3:Z17 Tryz.prog 3=true:=by kernel_rfl
theorem ZjY:Z17 Tryz.prog 300=true:=by kernel_rfl
theorem ZjZ:Z17 Tryz.prog 302=true:=by kernel_rfl
theorem Zk0:Z17 Tryz.prog 342=true:=by kernel_rfl
theorem Z2I:Z17 Tryz.prog 56=true:=by kernel_rfl
@[reducible] def inR (n lo hi : Int) : Bool := decide (lo ≤ n) && decide (n ≤ hi)
abbrev Z6 (l:List Int):List (List Value):=l.map fun z=>[.int .i64 z]
def spv (s:Spn):Value:=.agg #[.int .i64 s.lo,.int .i64 s.hi]
def Z0l (x:SBin):List Value:=[.int .i64 x.holds,.int .i64 x.fst.lo,.int .i64 x.fst.hi]
abbrev Zf (l:List SBin):List (List Value):=l.map Z0l
def Z07 (x:SMov):List Value:=[.int .i64 x.day,.int .i64 x.fr,.int .i64 x.to,.int .i64 x.s.lo,.int .i64 x.s.hi]
abbrev Zn (l:List SMov):List (List Value):=l.map Z07
def Z1r (x:SLev):List Value:=[.int .i64 x.day,.int .i64 x.bin,.int .i64 x.s.lo,.int .i64 x.s.hi]
abbrev Zy (l:List SLev):List (List Value):=l.map Z1r
def Z0e (f:Fl):List Value:=[.int .i64 (f.fr:Int),.int .i64 (f.to:Int),.int .i64 f.lo,.int .i64 f.hi]
abbrev ZM (l:List Fl):List (List Value):=l.map Z0e
def ydl (y:Yrd) (a1 a2 a3:Option Addr) (k1 k2 k3:Nat):List Value:=[.int .i64 (y.days:Int),.slice a1 y.bins.length k1,.slice a2 y.moves.length k2,.slice a3 y.levels.length k3]
def Yrd.v (y:Yrd) (a1 a2 a3:Option Addr) (k1 k2 k3:Nat):Value:=.agg (ydl y a1 a2 a3 k1 k2 k3).toArray
theorem irl (l:List Int):(Z6 l).length=l.length:=List.length_map _
theorem ZQ {l:List Int} {k:Nat} {x:Int} (h:l[k]?=some x):(Z6 l)[k]?=some [.int .i64 x]:=by simp [Z6,h]
theorem Zj (l:List Int):(Zp l).length=l.length:=by simp [Zp]
theorem Z2Q {l:List Int} {k:Nat} {v:Int} (h:l[k]?=some v):(Zp l)[k]?=some (.int .i64 v):=by simp [Zp,h]
theorem Zfi {n lo hi:Int} (h:lo≤n∧n≤hi):inR n lo hi=true:=by simp [inR,h]
theorem ZE {α:Type} {xs:List α} {p:α→Bool} {k:Nat} {x:α} (hx:xs[k]?=some x) (hn:∀ y∈xs.take k,p y=false) (h:p x=true):xs.findIdx? p=some k:=by
 induction xs generalizing k with
 | nil=>simp at hx
 | cons y ys ih =>
   cases k with
   | zero=>simp only [List.getElem?_cons_zero,Option.some.injEq] at hx;subst hx;simp [List.findIdx?_cons,h]
   | succ k =>
     have hy:=hn y (by simp)
     have:=ih (by simpa using hx) (fun z hz=>hn z (by simp [hz]))
     simp [List.findIdx?_cons,hy,this]
theorem Zv {α:Type} {xs:List α} {p:α→Bool} (hn:∀ y∈xs,p y=false):xs.findIdx? p=none:=by
 rw [List.findIdx?_eq_none_iff];exact hn
theorem Z09 {α:Type} {xs:List α} {p:α→Bool} {k:Nat} {x:α} (hx:xs[k]?=some x) (hn:∀ y∈xs.take k,p y=false) (h:p x=false):∀ y∈xs.take (k+1),p y=false:=by
 intro y hy
 rw [List.take_add_one,hx] at hy
 rcases List.mem_append.1 hy with h1 | h1
 · exact hn y h1
 · simp only [Option.toList_some,List.mem_singleton] at h1;subst h1;exact h
theorem Z1j {α:Type} (xs:List α) (p:α→Bool):Value.bool (decide (0≤(match xs.findIdx? p with | some k=>(k:Int) | none => -1))) = .bool (xs.any p):=by
 congr 1
 cases h:xs.findIdx? p with
 | none =>
   have:=List.findIdx?_eq_none_iff.1 h
   have h2:xs.any p=false:=by simpa using this
   rw [h2];rfl
 | some k =>
   have h2:xs.any p=true:=by
     rw [← Bool.not_eq_false];intro h3
     have:xs.findIdx? p=none:=List.findIdx?_eq_none_iff.2 (by simpa using h3)
     rw [this] at h;cases h
   rw [h2];simp
theorem ZX {α:Type} (xs:List α) (p:α→Bool):Value.bool (!xs.any fun x=>!p x) = .bool (xs.all p):=by
 congr 1
 induction xs with
 | nil=>rfl
 | cons x xs ih=>simp [← ih]
theorem ZdD (n lo hi:Int) (H:Z8) (R:Z4) :
    FnV Tryz.prog 182 [.int .i64 n,.int .i64 lo,.int .i64 hi] H R (.bool (inR n lo hi)):=by
 refine Zc Tryz.func182 rfl Tryz.ntmps182 rfl ?_
 refine sqt 1 rfl (pur 1 rfl (sqt 9 rfl (pur 4 rfl ?_)))
 refine Zw 10 rfl ?_ ?_<;>intro g10
 refine pur 5 rfl (Z5 ?_)
 exact rtA rfl rfl rfl ⟨by simp_all only [ZP,inR,Bool.true_and,Bool.false_and,cond_true,cond_false],rfl,rfl⟩ drp
 refine pur 5 rfl (Z5 ?_)
 exact rtA rfl rfl rfl ⟨by simp_all only [ZP,inR,Bool.true_and,Bool.false_and,cond_true,cond_false],rfl,rfl⟩ drp
theorem Z6b (n lo hi:Int) (h:lo≤n∧n≤hi) (H:Z8) (R:Z4):FnV Tryz.prog 182 [.int .i64 n,.int .i64 lo,.int .i64 hi] H R (.bool true):=by
 have:=ZdD n lo hi H R
 rwa [Zfi h] at this
theorem Za6 (xs:List SBin) (a:Option Addr) (c g:Nat) (fst cap:List Value) (p:SBin→Bool) (hg:cal Tryz.prog g=true) (hl:xs.length≤9223372036854775807) (H:Z8) (R:Z4) [hR:MemRows a 3 (Zf xs) R] (hp:∀ x,x∈xs→FnV Tryz.prog g (fst++[.agg (Z0l x).toArray]++cap) H R (.bool (p x))) :
    FnV Tryz.prog 273 [.slice a xs.length c,.func (.func g) fst.toArray cap.toArray] H R (.int .i64 (match xs.findIdx? p with | some k=>(k:Int) | none => -1)):=by
 refine Zc Tryz.func273 rfl Tryz.ntmps273 rfl ?_
 refine sqt 1 rfl (pur 1 rfl (Z0 (sqt 3 rfl (pur 1 rfl (sp rfl (PE.lenSl Z2R rfl) rfl (pur 1 rfl (Z3 ?_)))))))
 refine Zb (ι:={k:Nat // k≤xs.length∧∀ x∈xs.take k,p x=false}) (fun k=>⟨[(0,.slice a xs.length c),(1,.func (.func g) fst.toArray cap.toArray),(7,.int .i64 xs.length),(8,.int .i64 k.1)],H,R⟩) (fun k=>xs.length-k.1) ⟨0,by simp⟩ ?_ (fun k=>?_)
 exact Ze idH
 obtain ⟨k,hk,hn⟩:=k
 dsimp only
 refine sqt 1 rfl (pur 1 rfl (Z0 ?_))
 refine Z1 rfl ?_ ?_<;>intro hc0
 simp only [cS] at hc0
 obtain ⟨x,hx⟩:∃ x,xs[k]?=some x:=⟨_,List.getElem?_eq_getElem (by omega)⟩
 have hxm:=List.mem_of_getElem? hx
 refine Zi (a:=a) (sz:=3) (rows:=Zf xs) (by cases xs<;>simp_all [Zf]) (fun b off he=>?_)
 subst he
 refine Z2 (Z0 (Z3 (sqt 2 rfl (pur 2 rfl (sqt 6 rfl (pur 3 rfl (sp rfl (PE.indexAddr ZhS rfl rfl (by omega) (by omega)) rfl (spL rfl rfl (lfA Zg2 (row:=Z0l x) (by simp [Zf,hx]) rfl) rfl ?_))))))))
 refine Z3t rfl rfl (hg) rfl rfl (hp x hxm) ?_
 refine Z1 rfl ?_ ?_<;>intro hc1
 refine sqt 2 rfl (pur 2 rfl (Z5 ?_))
 first | (exact rtA rfl rfl rfl ⟨by rw [ZE hx hn hc1];rfl,rfl,rfl⟩ idH) | (exact rtA rfl rfl rfl ⟨by rw [Zv (by simpa using hn)];rfl,rfl,rfl⟩ idH)
 refine Z2 (sqr 2 rfl (sp rfl (PE.add rfl rfl (by omega)) rfl (pur 1 rfl ?_)))
 exact Z7 ⟨k+1,by omega,Z09 hx hn hc1⟩ idH
 simp only [cS] at hc0
 obtain rfl:k=xs.length:=by omega
 refine Z9 (Za (Za (Zh (sqt 1 rfl (pur 1 rfl (Z5 ?_))))))
 first | (exact rtA rfl rfl rfl ⟨by rw [ZE hx hn hc1];rfl,rfl,rfl⟩ idH) | (exact rtA rfl rfl rfl ⟨by rw [Zv (by simpa using hn)];rfl,rfl,rfl⟩ idH)
theorem Z9Z (xs:List SBin) (a:Option Addr) (c g:Nat) (fst cap:List Value) (p:SBin→Bool) (hg:cal Tryz.prog g=true) (hl:xs.length≤9223372036854775807) (H:Z8) (R:Z4) [hR:MemRows a 3 (Zf xs) R] (hp:∀ x,x∈xs→FnV Tryz.prog g (fst++[.agg (Z0l x).toArray]++cap) H R (.bool (p x))) :
    FnV Tryz.prog 243 [.slice a xs.length c,.func (.func g) fst.toArray cap.toArray] H R (.bool (xs.any p)):=by
 refine Zc Tryz.func243 rfl Tryz.ntmps243 rfl ?_
 refine sqt 1 rfl (pur 1 rfl (sqt 5 rfl (pur 2 rfl ?_)))
 refine clV rfl ZhA rfl rfl (Za6 xs a c g fst cap p hg hl _ _ hp) ?_
 refine pur 2 rfl (Z5 ?_)
 exact rtA rfl rfl rfl ⟨by simp only [ZP];exact Z1j _ _,rfl,rfl⟩ drp
theorem Z9Q (x:SBin) (g bf:Nat) (fst cap:List Value) (p:Bool) (hg:cal Tryz.prog g=true) (H:Z8) (R:Z4) [hM:Mem1 bf (cel 298 [.func (.func g) fst.toArray cap.toArray]) H] (hp:∀ b,FnV Tryz.prog g (fst++[.agg (Z0l x).toArray]++cap) ((b,cel 62 (Z0l x))::H) R (.bool p)) :
    FnV Tryz.prog 244 [.agg (Z0l x).toArray,.pointer (some ⟨bf,0,none⟩)] H R (.bool !p):=by
 refine Zc Tryz.func244 rfl Tryz.ntmps244 rfl ?_
 refine sqt 2 rfl (bx rfl rfl rfl (fun b2=>pur 1 rfl (sqt 5 rfl (spL rfl rfl (lh ZjX rfl rfl) rfl (spL rfl rfl (lhA [_,_,_] Zg2 rfl rfl rfl) rfl ?_)))))
 refine Z3t rfl rfl (hg) rfl rfl (hp _) ?_
 refine pur 2 rfl (Z5 ?_)
 exact rtA rfl rfl rfl ⟨rfl,rfl,rfl⟩ drp
theorem Z44 (xs:List SBin) (a:Option Addr) (c g:Nat) (fst cap:List Value) (p:SBin→Bool) (hg:cal Tryz.prog g=true) (hl:xs.length≤9223372036854775807) (H:Z8) (R:Z4) [hR:MemRows a 3 (Zf xs) R] (hp:∀ b b2 x,x∈xs→FnV Tryz.prog g (fst++[.agg (Z0l x).toArray]++cap) ((b2,cel 62 (Z0l x))::(b,cel 298 [.func (.func g) fst.toArray cap.toArray])::H) R (.bool (p x))) :
    FnV Tryz.prog 183 [.slice a xs.length c,.func (.func g) fst.toArray cap.toArray] H R (.bool (xs.all p)):=by
 refine Zc Tryz.func183 rfl Tryz.ntmps183 rfl ?_
 refine sqt 2 rfl (bx rfl rfl rfl (fun b3=>pur 1 rfl (sqt 5 rfl (pur 1 rfl (sp rfl (PE.makeFunc rfl rfl) rfl ?_)))))
 refine clV rfl Zhi rfl rfl (Z9Z xs a c 244 [] [_] (fun x=>!p x) Zhj hl _ _ (hp:=fun x hx=>Z9Q x g _ fst cap (p x) hg _ _ (hp:=fun b=>hp _ _ x hx))) ?_
 refine pur 2 rfl (Z5 ?_)
 exact rtA rfl rfl rfl ⟨by simp only [ZP];rw [ZX],rfl,rfl⟩ drp
theorem Zab (xs:List SMov) (a:Option Addr) (c g:Nat) (fst cap:List Value) (p:SMov→Bool) (hg:cal Tryz.prog g=true) (hl:xs.length≤9223372036854775807) (H:Z8) (R:Z4) [hR:MemRows a 5 (Zn xs) R] (hp:∀ x,x∈xs→FnV Tryz.prog g (fst++[.agg (Z07 x).toArray]++cap) H R (.bool (p x))) :
    FnV Tryz.prog 274 [.slice a xs.length c,.func (.func g) fst.toArray cap.toArray] H R (.int .i64 (match xs.findIdx? p with | some k=>(k:Int) | none => -1)):=by
 refine Zc Tryz.func274 rfl Tryz.ntmps274 rfl ?_
 refine sqt 1 rfl (pur 1 rfl (Z0 (sqt 3 rfl (pur 1 rfl (sp rfl (PE.lenSl Z6z rfl) rfl (pur 1 rfl (Z3 ?_)))))))
 refine Zb (ι:={k:Nat // k≤xs.length∧∀ x∈xs.take k,p x=false}) (fun k=>⟨[(0,.slice a xs.length c),(1,.func (.func g) fst.toArray cap.toArray),(7,.int .i64 xs.length),(8,.int .i64 k.1)],H,R⟩) (fun k=>xs.length-k.1) ⟨0,by simp⟩ ?_ (fun k=>?_)
 exact Ze idH
 obtain ⟨k,hk,hn⟩:=k
 dsimp only
 refine sqt 1 rfl (pur 1 rfl (Z0 ?_))
 refine Z1 rfl ?_ ?_<;>intro hc0
 simp only [cS] at hc0
 obtain ⟨x,hx⟩:∃ x,xs[k]?=some x:=⟨_,List.getElem?_eq_getElem (by omega)⟩
 have hxm:=List.mem_of_getElem? hx
 refine Zi (a:=a) (sz:=5) (rows:=Zn xs) (by cases xs<;>simp_all [Zn]) (fun b off he=>?_)
 subst he
 refine Z2 (Z0 (Z3 (sqt 2 rfl (pur 2 rfl (sqt 6 rfl (pur 3 rfl (sp rfl (PE.indexAddr Zfa rfl rfl (by omega) (by omega)) rfl (spL rfl rfl (lfA Z9s (row:=Z07 x) (by simp [Zn,hx]) rfl) rfl ?_))))))))
 refine Z3t rfl rfl (hg) rfl rfl (hp x hxm) ?_
 refine Z1 rfl ?_ ?_<;>intro hc1
 refine sqt 2 rfl (pur 2 rfl (Z5 ?_))
 first | (exact rtA rfl rfl rfl ⟨by rw [ZE hx hn hc1];rfl,rfl,rfl⟩ idH) | (exact rtA rfl rfl rfl ⟨by rw [Zv (by simpa using hn)];rfl,rfl,rfl⟩ idH)
 refine Z2 (sqr 2 rfl (sp rfl (PE.add rfl rfl (by omega)) rfl (pur 1 rfl ?_)))
 exact Z7 ⟨k+1,by omega,Z09 hx hn hc1⟩ idH
 simp only [cS] at hc0
 obtain rfl:k=xs.length:=by omega
 refine Z9 (Za (Za (Zh (sqt 1 rfl (pur 1 rfl (Z5 ?_))))))
 first | (exact rtA rfl rfl rfl ⟨by rw [ZE hx hn hc1];rfl,rfl,rfl⟩ idH) | (exact rtA rfl rfl rfl ⟨by rw [Zv (by simpa using hn)];rfl,rfl,rfl⟩ idH)
theorem Za4 (xs:List SMov) (a:Option Addr) (c g:Nat) (fst cap:List Value) (p:SMov→Bool) (hg:cal Tryz.prog g=true) (hl:xs.length≤9223372036854775807) (H:Z8) (R:Z4) [hR:MemRows a 5 (Zn xs) R] (hp:∀ x,x∈xs→FnV Tryz.prog g (fst++[.agg (Z07 x).toArray]++cap) H R (.bool (p x))) :
    FnV Tryz.prog 245 [.slice a xs.length c,.func (.func g) fst.toArray cap.toArray] H R (.bool (xs.any p)):=by
 refine Zc Tryz.func245 rfl Tryz.ntmps245 rfl ?_
 refine sqt 1 rfl (pur 1 rfl (sqt 5 rfl (pur 2 rfl ?_)))
 refine clV rfl ZhB rfl rfl (Zab xs a c g fst cap p hg hl _ _ hp) ?_
 refine pur 2 rfl (Z5 ?_)
 exact rtA rfl rfl rfl ⟨by simp only [ZP];exact Z1j _ _,rfl,rfl⟩ drp
theorem Z9W (x:SMov) (g bf:Nat) (fst cap:List Value) (p:Bool) (hg:cal Tryz.prog g=true) (H:Z8) (R:Z4) [hM:Mem1 bf (cel 300 [.func (.func g) fst.toArray cap.toArray]) H] (hp:∀ b,FnV Tryz.prog g (fst++[.agg (Z07 x).toArray]++cap) ((b,cel 83 (Z07 x))::H) R (.bool p)) :
    FnV Tryz.prog 246 [.agg (Z07 x).toArray,.pointer (some ⟨bf,0,none⟩)] H R (.bool !p):=by
 refine Zc Tryz.func246 rfl Tryz.ntmps246 rfl ?_
 refine sqt 2 rfl (bx rfl rfl rfl (fun b2=>pur 1 rfl (sqt 5 rfl (spL rfl rfl (lh ZjY rfl rfl) rfl (spL rfl rfl (lhA [_,_,_,_,_] Z9s rfl rfl rfl) rfl ?_)))))
 refine Z3t rfl rfl (hg) rfl rfl (hp _) ?_
 refine pur 2 rfl (Z5 ?_)
 exact rtA rfl rfl rfl ⟨rfl,rfl,rfl⟩ drp
theorem Z1v (xs:List SMov) (a:Option Addr) (c g:Nat) (fst cap:List Value) (p:SMov→Bool) (hg:cal Tryz.prog g=true) (hl:xs.length≤9223372036854775807) (H:Z8) (R:Z4) [hR:MemRows a 5 (Zn xs) R] (hp:∀ b b2 x,x∈xs→FnV Tryz.prog g (fst++[.agg (Z07 x).toArray]++cap) ((b2,cel 83 (Z07 x))::(b,cel 300 [.func (.func g) fst.toArray cap.toArray])::H) R (.bool (p x))) :
    FnV Tryz.prog 186 [.slice a xs.length c,.func (.func g) fst.toArray cap.toArray] H R (.bool (xs.all p)):=by
 refine Zc Tryz.func186 rfl Tryz.ntmps186 rfl ?_
 refine sqt 2 rfl (bx rfl rfl rfl (fun b3=>pur 1 rfl (sqt 5 rfl (pur 1 rfl (sp rfl (PE.makeFunc rfl rfl) rfl ?_)))))
 refine clV rfl Zhk rfl rfl (Za4 xs a c 246 [] [_] (fun x=>!p x) Zhl hl _ _ (hp:=fun x hx=>Z9W x g _ fst cap (p x) hg _ _ (hp:=fun b=>hp _ _ x hx))) ?_
 refine pur 2 rfl (Z5 ?_)
 exact rtA rfl rfl rfl ⟨by simp only [ZP];rw [ZX],rfl,rfl⟩ drp
theorem Za9 (xs:List SLev) (a:Option Addr) (c g:Nat) (fst cap:List Value) (p:SLev→Bool) (hg:cal Tryz.prog g=true) (hl:xs.length≤9223372036854775807) (H:Z8) (R:Z4) [hR:MemRows a 4 (Zy xs) R] (hp:∀ x,x∈xs→FnV Tryz.prog g (fst++[.agg (Z1r x).toArray]++cap) H R (.bool (p x))) :
    FnV Tryz.prog 275 [.slice a xs.length c,.func (.func g) fst.toArray cap.toArray] H R (.int .i64 (match xs.findIdx? p with | some k=>(k:Int) | none => -1)):=by
 refine Zc Tryz.func275 rfl Tryz.ntmps275 rfl ?_
 refine sqt 1 rfl (pur 1 rfl (Z0 (sqt 3 rfl (pur 1 rfl (sp rfl (PE.lenSl Zb6 rfl) rfl (pur 1 rfl (Z3 ?_)))))))
 refine Zb (ι:={k:Nat // k≤xs.length∧∀ x∈xs.take k,p x=false}) (fun k=>⟨[(0,.slice a xs.length c),(1,.func (.func g) fst.toArray cap.toArray),(7,.int .i64 xs.length),(8,.int .i64 k.1)],H,R⟩) (fun k=>xs.length-k.1) ⟨0,by simp⟩ ?_ (fun k=>?_)
 exact Ze idH
 obtain ⟨k,hk,hn⟩:=k
 dsimp only
 refine sqt 1 rfl (pur 1 rfl (Z0 ?_))
 refine Z1 rfl ?_ ?_<;>intro hc0
 simp only [cS] at hc0
 obtain ⟨x,hx⟩:∃ x,xs[k]?=some x:=⟨_,List.getElem?_eq_getElem (by omega)⟩
 have hxm:=List.mem_of_getElem? hx
 refine Zi (a:=a) (sz:=4) (rows:=Zy xs) (by cases xs<;>simp_all [Zy]) (fun b off he=>?_)
 subst he
 refine Z2 (Z0 (Z3 (sqt 2 rfl (pur 2 rfl (sqt 6 rfl (pur 3 rfl (sp rfl (PE.indexAddr ZiN rfl rfl (by omega) (by omega)) rfl (spL rfl rfl (lfA Z70 (row:=Z1r x) (by simp [Zy,hx]) rfl) rfl ?_))))))))
 refine Z3t rfl rfl (hg) rfl rfl (hp x hxm) ?_
 refine Z1 rfl ?_ ?_<;>intro hc1
 refine sqt 2 rfl (pur 2 rfl (Z5 ?_))
 first | (exact rtA rfl rfl rfl ⟨by rw [ZE hx hn hc1];rfl,rfl,rfl⟩ idH) | (exact rtA rfl rfl rfl ⟨by rw [Zv (by simpa using hn)];rfl,rfl,rfl⟩ idH)
 refine Z2 (sqr 2 rfl (sp rfl (PE.add rfl rfl (by omega)) rfl (pur 1 rfl ?_)))
 exact Z7 ⟨k+1,by omega,Z09 hx hn hc1⟩ idH
 simp only [cS] at hc0
 obtain rfl:k=xs.length:=by omega
 refine Z9 (Za (Za (Zh (sqt 1 rfl (pur 1 rfl (Z5 ?_))))))
 first | (exact rtA rfl rfl rfl ⟨by rw [ZE hx hn hc1];rfl,rfl,rfl⟩ idH) | (exact rtA rfl rfl rfl ⟨by rw [Zv (by simpa using hn)];rfl,rfl,rfl⟩ idH)
theorem Za2 (xs:List SLev) (a:Option Addr) (c g:Nat) (fst cap:List Value) (p:SLev→Bool) (hg:cal Tryz.prog g=true) (hl:xs.length≤9223372036854775807) (H:Z8) (R:Z4) [hR:MemRows a 4 (Zy xs) R] (hp:∀ x,x∈xs→FnV Tryz.prog g (fst++[.agg (Z1r x).toArray]++cap) H R (.bool (p x))) :
    FnV Tryz.prog 247 [.slice a xs.length c,.func (.func g) fst.toArray cap.toArray] H R (.bool (xs.any p)):=by
 refine Zc Tryz.func247 rfl Tryz.ntmps247 rfl ?_
 refine sqt 1 rfl (pur 1 rfl (sqt 5 rfl (pur 2 rfl ?_)))
 refine clV rfl ZhC rfl rfl (Za9 xs a c g fst cap p hg hl _ _ hp) ?_
 refine pur 2 rfl (Z5 ?_)
 exact rtA rfl rfl rfl ⟨by simp only [ZP];exact Z1j _ _,rfl,rfl⟩ drp
theorem Z9U (x:SLev) (g bf:Nat) (fst cap:List Value) (p:Bool) (hg:cal Tryz.prog g=true) (H:Z8) (R:Z4) [hM:Mem1 bf (cel 302 [.func (.func g) fst.toArray cap.toArray]) H] (hp:∀ b,FnV Tryz.prog g (fst++[.agg (Z1r x).toArray]++cap) ((b,cel 102 (Z1r x))::H) R (.bool p)) :
    FnV Tryz.prog 248 [.agg (Z1r x).toArray,.pointer (some ⟨bf,0,none⟩)] H R (.bool !p):=by
 refine Zc Tryz.func248 rfl Tryz.ntmps248 rfl ?_
 refine sqt 2 rfl (bx rfl rfl rfl (fun b2=>pur 1 rfl (sqt 5 rfl (spL rfl rfl (lh ZjZ rfl rfl) rfl (spL rfl rfl (lhA [_,_,_,_] Z70 rfl rfl rfl) rfl ?_)))))
 refine Z3t rfl rfl (hg) rfl rfl (hp _) ?_
 refine pur 2 rfl (Z5 ?_)
 exact rtA rfl rfl rfl ⟨rfl,rfl,rfl⟩ drp
theorem Z2x (xs:List SLev) (a:Option Addr) (c g:Nat) (fst cap:List Value) (p:SLev→Bool) (hg:cal Tryz.prog g=true) (hl:xs.length≤9223372036854775807) (H:Z8) (R:Z4) [hR:MemRows a 4 (Zy xs) R] (hp:∀ b b2 x,x∈xs→FnV Tryz.prog g (fst++[.agg (Z1r x).toArray]++cap) ((b2,cel 102 (Z1r x))::(b,cel 302 [.func (.func g) fst.toArray cap.toArray])::H) R (.bool (p x))) :
    FnV Tryz.prog 188 [.slice a xs.length c,.func (.func g) fst.toArray cap.toArray] H R (.bool (xs.all p)):=by
 refine Zc Tryz.func188 rfl Tryz.ntmps188 rfl ?_
 refine sqt 2 rfl (bx rfl rfl rfl (fun b3=>pur 1 rfl (sqt 5 rfl (pur 1 rfl (sp rfl (PE.makeFunc rfl rfl) rfl ?_)))))
 refine clV rfl Zhm rfl rfl (Za2 xs a c 248 [] [_] (fun x=>!p x) Zhn hl _ _ (hp:=fun x hx=>Z9U x g _ fst cap (p x) hg _ _ (hp:=fun b=>hp _ _ x hx))) ?_
 refine pur 2 rfl (Z5 ?_)
 exact rtA rfl rfl rfl ⟨by simp only [ZP];rw [ZX],rfl,rfl⟩ drp
theorem Za7 (xs:List Fl) (a:Option Addr) (c g:Nat) (fst cap:List Value) (p:Fl→Bool) (hg:cal Tryz.prog g=true) (hl:xs.length≤9223372036854775807) (H:Z8) (R:Z4) [hR:MemRows a 4 (ZM xs) R] (hp:∀ x,x∈xs→FnV Tryz.prog g (fst++[.agg (Z0e x).toArray]++cap) H R (.bool (p x))) :
    FnV Tryz.prog 279 [.slice a xs.length c,.func (.func g) fst.toArray cap.toArray] H R (.int .i64 (match xs.findIdx? p with | some k=>(k:Int) | none => -1)):=by
 refine Zc Tryz.func279 rfl Tryz.ntmps279 rfl ?_
 refine sqt 1 rfl (pur 1 rfl (Z0 (sqt 3 rfl (pur 1 rfl (sp rfl (PE.lenSl Zb4 rfl) rfl (pur 1 rfl (Z3 ?_)))))))
 refine Zb (ι:={k:Nat // k≤xs.length∧∀ x∈xs.take k,p x=false}) (fun k=>⟨[(0,.slice a xs.length c),(1,.func (.func g) fst.toArray cap.toArray),(7,.int .i64 xs.length),(8,.int .i64 k.1)],H,R⟩) (fun k=>xs.length-k.1) ⟨0,by simp⟩ ?_ (fun k=>?_)
 exact Ze idH
 obtain ⟨k,hk,hn⟩:=k
 dsimp only
 refine sqt 1 rfl (pur 1 rfl (Z0 ?_))
 refine Z1 rfl ?_ ?_<;>intro hc0
 simp only [cS] at hc0
 obtain ⟨x,hx⟩:∃ x,xs[k]?=some x:=⟨_,List.getElem?_eq_getElem (by omega)⟩
 have hxm:=List.mem_of_getElem? hx
 refine Zi (a:=a) (sz:=4) (rows:=ZM xs) (by cases xs<;>simp_all [ZM]) (fun b off he=>?_)
 subst he
 refine Z2 (Z0 (Z3 (sqt 2 rfl (pur 2 rfl (sqt 6 rfl (pur 3 rfl (sp rfl (PE.indexAddr Z97 rfl rfl (by omega) (by omega)) rfl (spL rfl rfl (lfA Z5g (row:=Z0e x) (by simp [ZM,hx]) rfl) rfl ?_))))))))
 refine Z3t rfl rfl (hg) rfl rfl (hp x hxm) ?_
 refine Z1 rfl ?_ ?_<;>intro hc1
 refine sqt 2 rfl (pur 2 rfl (Z5 ?_))
 first | (exact rtA rfl rfl rfl ⟨by rw [ZE hx hn hc1];rfl,rfl,rfl⟩ idH) | (exact rtA rfl rfl rfl ⟨by rw [Zv (by simpa using hn)];rfl,rfl,rfl⟩ idH)
 refine Z2 (sqr 2 rfl (sp rfl (PE.add rfl rfl (by omega)) rfl (pur 1 rfl ?_)))
 exact Z7 ⟨k+1,by omega,Z09 hx hn hc1⟩ idH
 simp only [cS] at hc0
 obtain rfl:k=xs.length:=by omega
 refine Z9 (Za (Za (Zh (sqt 1 rfl (pur 1 rfl (Z5 ?_))))))
 first | (exact rtA rfl rfl rfl ⟨by rw [ZE hx hn hc1];rfl,rfl,rfl⟩ idH) | (exact rtA rfl rfl rfl ⟨by rw [Zv (by simpa using hn)];rfl,rfl,rfl⟩ idH)
theorem Za0 (xs:List Fl) (a:Option Addr) (c g:Nat) (fst cap:List Value) (p:Fl→Bool) (hg:cal Tryz.prog g=true) (hl:xs.length≤9223372036854775807) (H:Z8) (R:Z4) [hR:MemRows a 4 (ZM xs) R] (hp:∀ x,x∈xs→FnV Tryz.prog g (fst++[.agg (Z0e x).toArray]++cap) H R (.bool (p x))) :
    FnV Tryz.prog 276 [.slice a xs.length c,.func (.func g) fst.toArray cap.toArray] H R (.bool (xs.any p)):=by
 refine Zc Tryz.func276 rfl Tryz.ntmps276 rfl ?_
 refine sqt 1 rfl (pur 1 rfl (sqt 5 rfl (pur 2 rfl ?_)))
 refine clV rfl ZhF rfl rfl (Za7 xs a c g fst cap p hg hl _ _ hp) ?_
 refine pur 2 rfl (Z5 ?_)
 exact rtA rfl rfl rfl ⟨by simp only [ZP];exact Z1j _ _,rfl,rfl⟩ drp
theorem Z9R (x:Fl) (g bf:Nat) (fst cap:List Value) (p:Bool) (hg:cal Tryz.prog g=true) (H:Z8) (R:Z4) [hM:Mem1 bf (cel 342 [.func (.func g) fst.toArray cap.toArray]) H] (hp:∀ b,FnV Tryz.prog g (fst++[.agg (Z0e x).toArray]++cap) ((b,cel 307 (Z0e x))::H) R (.bool p)) :
    FnV Tryz.prog 277 [.agg (Z0e x).toArray,.pointer (some ⟨bf,0,none⟩)] H R (.bool !p):=by
 refine Zc Tryz.func277 rfl Tryz.ntmps277 rfl ?_
 refine sqt 2 rfl (bx rfl rfl rfl (fun b2=>pur 1 rfl (sqt 5 rfl (spL rfl rfl (lh Zk0 rfl rfl) rfl (spL rfl rfl (lhA [_,_,_,_] Z5g rfl rfl rfl) rfl ?_)))))
 refine Z3t rfl rfl (hg) rfl rfl (hp _) ?_
 refine pur 2 rfl (Z5 ?_)
 exact rtA rfl rfl rfl ⟨rfl,rfl,rfl⟩ drp
theorem Z75 (xs:List Fl) (a:Option Addr) (c g:Nat) (fst cap:List Value) (p:Fl→Bool) (hg:cal Tryz.prog g=true) (hl:xs.length≤9223372036854775807) (H:Z8) (R:Z4) [hR:MemRows a 4 (ZM xs) R] (hp:∀ b b2 x,x∈xs→FnV Tryz.prog g (fst++[.agg (Z0e x).toArray]++cap) ((b2,cel 307 (Z0e x))::(b,cel 342 [.func (.func g) fst.toArray cap.toArray])::H) R (.bool (p x))) :
    FnV Tryz.prog 252 [.slice a xs.length c,.func (.func g) fst.toArray cap.toArray] H R (.bool (xs.all p)):=by
 refine Zc Tryz.func252 rfl Tryz.ntmps252 rfl ?_
 refine sqt 2 rfl (bx rfl rfl rfl (fun b3=>pur 1 rfl (sqt 5 rfl (pur 1 rfl (sp rfl (PE.makeFunc rfl rfl) rfl ?_)))))
 refine clV rfl ZhD rfl rfl (Za0 xs a c 277 [] [_] (fun x=>!p x) ZhE hl _ _ (hp:=fun x hx=>Z9R x g _ fst cap (p x) hg _ _ (hp:=fun b=>hp _ _ x hx))) ?_
 refine pur 2 rfl (Z5 ?_)
 exact rtA rfl rfl rfl ⟨by simp only [ZP];rw [ZX],rfl,rfl⟩ drp
theorem Z5l (y:Yrd) (a1 a2 a3:Option Addr) (k1 k2 k3:Nat) (q:Int) (hq:0≤q∧q<y.bins.length) (hn:y.bins.length≤4) (H:Z8) (R:Z4) :
    FnV Tryz.prog 130 [(y.v a1 a2 a3 k1 k2 k3),.int .i64 q] H R (.bool true):=by
 refine Zc Tryz.func130 rfl Tryz.ntmps130 rfl ?_
 refine sqt 2 rfl (bx rfl rfl rfl (fun b2=>pur 1 rfl (sqt 7 rfl (pur 1 rfl (sp rfl (PE.fA Z0o rfl) rfl (spL rfl rfl (lh Z2I rfl rfl) rfl (sp rfl (PE.lenSl Z2R rfl) rfl (sp rfl (PE.sub rfl rfl (by omega)) rfl ?_))))))))
 refine clV rfl Z3r rfl rfl (Z6b _ _ _ (by omega) _ _) ?_
 refine pur 1 rfl (Z5 ?_)
 exact rtA rfl rfl rfl ⟨rfl,rfl,rfl⟩ drp
theorem Zgw (y:Yrd) (a1 a2 a3:Option Addr) (k1 k2 k3:Nat) (q:Int) (hq:0≤q∧q≤y.days) (H:Z8) (R:Z4) :
    FnV Tryz.prog 192 [(y.v a1 a2 a3 k1 k2 k3),.int .i64 q] H R (.bool true):=by
 refine Zc Tryz.func192 rfl Tryz.ntmps192 rfl ?_
 refine sqt 2 rfl (bx rfl rfl rfl (fun b2=>pur 1 rfl (sqt 5 rfl (pur 1 rfl (sp rfl (PE.fA Z18 rfl) rfl (spL rfl rfl (lh sc3 rfl rfl) rfl ?_))))))
 refine clV rfl Z3r rfl rfl (Z6b _ _ _ (by omega) _ _) ?_
 refine pur 1 rfl (Z5 ?_)
 exact rtA rfl rfl rfl ⟨rfl,rfl,rfl⟩ drp
theorem Z42 (s:Spn) (hs:s.ok) (H:Z8) (R:Z4) :
    FnV Tryz.prog 185 [spv s] H R (.bool true):=by
 obtain ⟨h1,h2,h3⟩:=hs
 refine Zc Tryz.func185 rfl Tryz.ntmps185 rfl ?_
 refine sqt 2 rfl (bx rfl rfl rfl (fun b1=>pur 1 rfl (sqt 9 rfl (sp rfl (PE.fA Z6t rfl) rfl (spL rfl rfl (lh sc3 rfl rfl) rfl ?_)))))
 refine clV rfl Z3r rfl rfl (Z6b _ _ _ (by omega) _ _) ?_
 refine pur 1 rfl ?_
 refine Zw 6 rfl ?_ ?_<;>intro g6
 refine spG rfl rfl rfl rfl (PE.fA Z6u rfl) rfl ?_
 refine Z0U rfl rfl rfl rfl rfl (lh sc3 rfl rfl) rfl ?_
 refine Z9t rfl rfl rfl rfl Z3r rfl rfl (Z6b _ _ _ (by omega) _ _) ?_
 refine pur 2 rfl (Z5 ?_)
 exact rtA rfl rfl rfl ⟨rfl,rfl,rfl⟩ drp
 exact absurd g6 (by simp)
theorem Z5n (s:Spn) (hs:s.ok) (H:Z8) (R:Z4) :
    FnV Tryz.prog 195 [spv s] H R (.bool true):=by
 obtain ⟨h1,h2,h3⟩:=hs
 refine Zc Tryz.func195 rfl Tryz.ntmps195 rfl ?_
 refine sqt 2 rfl (bx rfl rfl rfl (fun b1=>pur 1 rfl (sqt 6 rfl (sp rfl (PE.fA Z6t rfl) rfl (spL rfl rfl (lh sc3 rfl rfl) rfl (sp rfl (PE.fA Z6u rfl) rfl (spL rfl rfl (lh sc3 rfl rfl) rfl (pur 2 rfl (Z5 ?_)))))))))
 exact rtA rfl rfl rfl ⟨by simp [ZP];omega,rfl,rfl⟩ drp
theorem Z9r:Z2q Tryz.prog 37=some 2:=by kernel_rfl
theorem Z4P:Z2q Tryz.prog 60=some 4:=by kernel_rfl
theorem Zaj:cal Tryz.prog 130=true:=by kernel_rfl
theorem ZdQ:cal Tryz.prog 181=true:=by kernel_rfl
theorem Zam:cal Tryz.prog 185=true:=by kernel_rfl
theorem ZgY:cal Tryz.prog 192=true:=by kernel_rfl
theorem Zao:cal Tryz.prog 195=true:=by kernel_rfl
theorem Z7h:Z0m Tryz.prog 102 0=some 0:=by kernel_rfl
theorem Z4h:Z0m Tryz.prog 102 1=some 1:=by kernel_rfl
theorem Z4i:Z0m Tryz.prog 102 2=some 2:=by kernel_rfl
theorem Z8f:Z0m Tryz.prog 62 0=some 0:=by kernel_rfl
theorem Z8g:Z0m Tryz.prog 62 1=some 1:=by kernel_rfl
theorem Z1U:Z0m Tryz.prog 83 0=some 0:=by kernel_rfl
theorem Z0z:Z0m Tryz.prog 83 1=some 1:=by kernel_rfl
theorem Z1J:Z0m Tryz.prog 83 2=some 2:=by kernel_rfl
theorem Z6v:Z0m Tryz.prog 83 3=some 3:=by kernel_rfl
theorem Z3k:Z17 Tryz.prog 100=true:=by kernel_rfl
theorem Zgk (y:Yrd) (a1 a2 a3:Option Addr) (k1 k2 k3:Nat) (hn:y.bins.length≤4) (b3:Nat) (q:Int) (hq : -1≤q∧q<y.bins.length) (H:Z8) (R:Z4) [hN:Mem1 b3 (cel 100 [.func (.func 130) #[(y.v a1 a2 a3 k1 k2 k3)] #[]]) H] :
    FnV Tryz.prog 181 [.int .i64 q,.pointer (some ⟨b3,0,none⟩)] H R (.bool true):=by
 refine Zc Tryz.func181 rfl Tryz.ntmps181 rfl ?_
 refine sqt 1 rfl (pur 1 rfl (sqt 8 rfl (pur 3 rfl ?_)))
 refine Zw 6 rfl ?_ ?_<;>intro g6
 refine pur 5 rfl (Z5 ?_)
 exact rtA rfl rfl rfl ⟨rfl,rfl,rfl⟩ drp
 have h9:q ≠ -1:=by simpa using g6
 refine Z0U rfl rfl rfl rfl rfl (lh Z3k rfl rfl) rfl (pur 1 rfl ?_)
 refine Z7a rfl rfl rfl rfl rfl (Zaj) rfl rfl (Z5l y a1 a2 a3 k1 k2 k3 q (by omega) hn _ _) ?_
 refine pur 2 rfl (Z5 ?_)
 exact rtA rfl rfl rfl ⟨rfl,rfl,rfl⟩ drp
theorem Zj7 (x:SBin) (hx:(0≤x.holds∧x.holds≤300)∧x.fst.ok) (H:Z8) (R:Z4) :
    FnV Tryz.prog 184 [.agg (Z0l x).toArray] H R (.bool true):=by
 refine Zc Tryz.func184 rfl Tryz.ntmps184 rfl ?_
 refine sqt 2 rfl (bx rfl rfl rfl (fun b1=>pur 1 rfl (sqt 9 rfl (sp rfl (PE.fA Z8f rfl) rfl (spL rfl rfl (lh (v:=.int .i64 x.holds) sc3 rfl rfl) rfl ?_)))))
 refine clV rfl Z3r rfl rfl (Z6b _ _ _ (by omega) _ _) ?_
 refine pur 1 rfl ?_
 refine Zw 6 rfl ?_ ?_<;>intro g6
 refine spG rfl rfl rfl rfl (PE.fA Z8g rfl) rfl ?_
 refine Z0U rfl rfl rfl rfl rfl (lhA [.int .i64 x.fst.lo,.int .i64 x.fst.hi] Z9r rfl rfl rfl) rfl ?_
 refine Z9t rfl rfl rfl rfl Zam rfl rfl (Z42 x.fst hx.2 _ _) ?_
 refine pur 2 rfl (Z5 ?_)
 exact rtA rfl rfl rfl ⟨rfl,rfl,rfl⟩ drp
 exact absurd g6 (by simp)
theorem Zj8 (x:SMov) (hx:x.s.ok) (H:Z8) (R:Z4) :
    FnV Tryz.prog 187 [.agg (Z07 x).toArray] H R (.bool true):=by
 refine Zc Tryz.func187 rfl Tryz.ntmps187 rfl ?_
 refine sqt 2 rfl (bx rfl rfl rfl (fun b1=>pur 1 rfl (sqt 4 rfl (sp rfl (PE.fA Z6v rfl) rfl (spL rfl rfl (lhA [.int .i64 x.s.lo,.int .i64 x.s.hi] Z9r rfl rfl rfl) rfl ?_)))))
 refine clV rfl Zam rfl rfl (Z42 x.s hx _ _) ?_
 refine pur 1 rfl (Z5 ?_)
 exact rtA rfl rfl rfl ⟨rfl,rfl,rfl⟩ drp
theorem Zj9 (x:SLev) (hx:x.s.ok) (H:Z8) (R:Z4) :
    FnV Tryz.prog 189 [.agg (Z1r x).toArray] H R (.bool true):=by
 refine Zc Tryz.func189 rfl Tryz.ntmps189 rfl ?_
 refine sqt 2 rfl (bx rfl rfl rfl (fun b1=>pur 1 rfl (sqt 4 rfl (sp rfl (PE.fA Z4i rfl) rfl (spL rfl rfl (lhA [.int .i64 x.s.lo,.int .i64 x.s.hi] Z9r rfl rfl rfl) rfl ?_)))))
 refine clV rfl Zam rfl rfl (Z42 x.s hx _ _) ?_
 refine pur 1 rfl (Z5 ?_)
 exact rtA rfl rfl rfl ⟨rfl,rfl,rfl⟩ drp
theorem Zjc (x:SMov) (hx:x.fr≠x.to) (H:Z8) (R:Z4) :
    FnV Tryz.prog 193 [.agg (Z07 x).toArray] H R (.bool true):=by
 refine Zc Tryz.func193 rfl Tryz.ntmps193 rfl ?_
 refine sqt 2 rfl (bx rfl rfl rfl (fun b1=>pur 1 rfl (sqt 6 rfl (sp rfl (PE.fA Z0z rfl) rfl (spL rfl rfl (lh sc3 rfl rfl) rfl (sp rfl (PE.fA Z1J rfl) rfl (spL rfl rfl (lh sc3 rfl rfl) rfl (pur 2 rfl (Z5 ?_)))))))))
 exact rtA rfl rfl rfl ⟨by simp only [ZP];congr 1;simpa using hx,rfl,rfl⟩ drp
theorem Zjd (x:SBin) (hx:x.fst.ok) (H:Z8) (R:Z4) :
    FnV Tryz.prog 194 [.agg (Z0l x).toArray] H R (.bool true):=by
 refine Zc Tryz.func194 rfl Tryz.ntmps194 rfl ?_
 refine sqt 2 rfl (bx rfl rfl rfl (fun b1=>pur 1 rfl (sqt 4 rfl (sp rfl (PE.fA Z8g rfl) rfl (spL rfl rfl (lhA [.int .i64 x.fst.lo,.int .i64 x.fst.hi] Z9r rfl rfl rfl) rfl ?_)))))
 refine clV rfl Zao rfl rfl (Z5n x.fst hx _ _) ?_
 refine pur 1 rfl (Z5 ?_)
 exact rtA rfl rfl rfl ⟨rfl,rfl,rfl⟩ drp
theorem Zje (x:SMov) (hx:x.s.ok) (H:Z8) (R:Z4) :
    FnV Tryz.prog 196 [.agg (Z07 x).toArray] H R (.bool true):=by
 refine Zc Tryz.func196 rfl Tryz.ntmps196 rfl ?_
 refine sqt 2 rfl (bx rfl rfl rfl (fun b1=>pur 1 rfl (sqt 4 rfl (sp rfl (PE.fA Z6v rfl) rfl (spL rfl rfl (lhA [.int .i64 x.s.lo,.int .i64 x.s.hi] Z9r rfl rfl rfl) rfl ?_)))))
 refine clV rfl Zao rfl rfl (Z5n x.s hx _ _) ?_
 refine pur 1 rfl (Z5 ?_)
 exact rtA rfl rfl rfl ⟨rfl,rfl,rfl⟩ drp
theorem Zgl (x:SLev) (hx:x.s.ok) (H:Z8) (R:Z4) :
    FnV Tryz.prog 197 [.agg (Z1r x).toArray] H R (.bool true):=by
 refine Zc Tryz.func197 rfl Tryz.ntmps197 rfl ?_
 refine sqt 2 rfl (bx rfl rfl rfl (fun b1=>pur 1 rfl (sqt 4 rfl (sp rfl (PE.fA Z4i rfl) rfl (spL rfl rfl (lhA [.int .i64 x.s.lo,.int .i64 x.s.hi] Z9r rfl rfl rfl) rfl ?_)))))
 refine clV rfl Zao rfl rfl (Z5n x.s hx _ _) ?_
 refine pur 1 rfl (Z5 ?_)
 exact rtA rfl rfl rfl ⟨rfl,rfl,rfl⟩ drp
theorem Zja (y:Yrd) (a1 a2 a3:Option Addr) (k1 k2 k3:Nat) (hn:y.bins.length≤4) (hd:y.days≤5) (b1 bf3 b4:Nat) (x:SMov) (hx:(0≤x.day∧x.day<y.days)∧(-1≤x.fr∧x.fr<y.bins.length)∧(-1≤x.to∧x.to<y.bins.length)) (H:Z8) (R:Z4) [hM:Mem1 b1 (cel 60 (ydl y a1 a2 a3 k1 k2 k3)) H] [hN3:Mem1 bf3 (cel 100 [.func (.func 130) #[(y.v a1 a2 a3 k1 k2 k3)] #[]]) H] [hN:Mem1 b4 (cel 100 [.func (.func 181) ([]:List Value).toArray ([.pointer (some ⟨bf3,0,none⟩)]:List Value).toArray]) H] :
    FnV Tryz.prog 190 [.agg (Z07 x).toArray,.pointer (some ⟨b1,0,none⟩),.pointer (some ⟨b4,0,none⟩)] H R (.bool true):=by
 refine Zc Tryz.func190 rfl Tryz.ntmps190 rfl ?_
 refine sqt 2 rfl (bx rfl rfl rfl (fun b3=>pur 1 rfl (sqt 19 rfl (sp rfl (PE.fA Z1U rfl) rfl (spL rfl rfl (lh (v:=.int .i64 x.day) sc3 rfl rfl) rfl (sp rfl (PE.fA Z18 rfl) rfl (spL rfl rfl (lh (v:=.int .i64 (y.days:Int)) sc3 rfl rfl) rfl (sp rfl (PE.sub rfl rfl (by omega)) rfl ?_))))))))
 refine clV rfl Z3r rfl rfl (Z6b _ _ _ (by omega) _ _) ?_
 refine pur 1 rfl ?_
 refine Zw 11 rfl ?_ ?_<;>intro g11
 refine Z0U rfl rfl rfl rfl rfl (lh Z3k rfl rfl) rfl ?_
 refine spG rfl rfl rfl rfl (PE.fA Z0z rfl) rfl ?_
 refine Z0U rfl rfl rfl rfl rfl (lh (v:=.int .i64 x.fr) sc3 rfl rfl) rfl ?_
 refine Z7a rfl rfl rfl rfl rfl (ZdQ) rfl rfl (Zgk y a1 a2 a3 k1 k2 k3 hn bf3 x.fr (by omega) _ _) ?_
 refine pur 2 rfl ?_
 refine Zw 17 rfl ?_ ?_<;>intro g17
 refine Z0U rfl rfl rfl rfl rfl (lh Z3k rfl rfl) rfl ?_
 refine spG rfl rfl rfl rfl (PE.fA Z1J rfl) rfl ?_
 refine Z0U rfl rfl rfl rfl rfl (lh (v:=.int .i64 x.to) sc3 rfl rfl) rfl ?_
 refine Z7a rfl rfl rfl rfl rfl (ZdQ) rfl rfl (Zgk y a1 a2 a3 k1 k2 k3 hn bf3 x.to (by omega) _ _) ?_
 refine pur 2 rfl (Z5 ?_)
 exact rtA rfl rfl rfl ⟨rfl,rfl,rfl⟩ drp
 exact absurd g17 (by simp)
 exact absurd g11 (by simp)
theorem Zjb (y:Yrd) (a1 a2 a3:Option Addr) (k1 k2 k3:Nat) (hn:y.bins.length≤4) (b1 bf3:Nat) (x:SLev) (hx:(0≤x.day∧x.day≤y.days)∧(0≤x.bin∧x.bin<y.bins.length)) (H:Z8) (R:Z4) [hM:Mem1 b1 (cel 60 (ydl y a1 a2 a3 k1 k2 k3)) H] [hN:Mem1 bf3 (cel 100 [.func (.func 130) #[(y.v a1 a2 a3 k1 k2 k3)] #[]]) H] :
    FnV Tryz.prog 191 [.agg (Z1r x).toArray,.pointer (some ⟨b1,0,none⟩),.pointer (some ⟨bf3,0,none⟩)] H R (.bool true):=by
 refine Zc Tryz.func191 rfl Tryz.ntmps191 rfl ?_
 refine sqt 2 rfl (bx rfl rfl rfl (fun b3=>pur 1 rfl (sqt 11 rfl (spL rfl rfl (lhA (ydl y a1 a2 a3 k1 k2 k3) Z4P rfl rfl rfl) rfl (sp rfl (PE.fA Z7h rfl) rfl (spL rfl rfl (lh (v:=.int .i64 x.day) sc3 rfl rfl) rfl ?_))))))
 refine clV rfl ZgY rfl rfl (Zgw y a1 a2 a3 k1 k2 k3 x.day (by omega) _ _) ?_
 refine pur 1 rfl ?_
 refine Zw 9 rfl ?_ ?_<;>intro g9
 refine Z0U rfl rfl rfl rfl rfl (lh Z3k rfl rfl) rfl ?_
 refine spG rfl rfl rfl rfl (PE.fA Z4h rfl) rfl ?_
 refine Z0U rfl rfl rfl rfl rfl (lh (v:=.int .i64 x.bin) sc3 rfl rfl) rfl ?_
 refine Z7a rfl rfl rfl rfl rfl (Zaj) rfl rfl (Z5l y a1 a2 a3 k1 k2 k3 x.bin (by omega) hn _ _) ?_
 refine pur 2 rfl (Z5 ?_)
 exact rtA rfl rfl rfl ⟨rfl,rfl,rfl⟩ drp
 exact absurd g9 (by simp)
theorem ZdR:cal Tryz.prog 183=true:=by kernel_rfl
theorem ZgT:cal Tryz.prog 184=true:=by kernel_rfl
theorem Z7X:cal Tryz.prog 186=true:=by kernel_rfl
theorem ZgU:cal Tryz.prog 187=true:=by kernel_rfl
theorem Zan:cal Tryz.prog 188=true:=by kernel_rfl
theorem ZgV:cal Tryz.prog 189=true:=by kernel_rfl
theorem ZgW:cal Tryz.prog 190=true:=by kernel_rfl
theorem ZgX:cal Tryz.prog 191=true:=by kernel_rfl
theorem ZgZ:cal Tryz.prog 193=true:=by kernel_rfl
theorem Zh0:cal Tryz.prog 194=true:=by kernel_rfl
theorem Zh1:cal Tryz.prog 196=true:=by kernel_rfl
theorem Zh2:cal Tryz.prog 197=true:=by kernel_rfl
theorem ZcE:ZJ Tryz.prog 100=some 1:=by kernel_rfl
theorem Z0H:Z0m Tryz.prog 60 2=some 2:=by kernel_rfl
theorem Z1T:Z0m Tryz.prog 60 3=some 3:=by kernel_rfl
theorem Z6M:Z17 Tryz.prog 57=true:=by kernel_rfl
theorem Zdi:Z17 Tryz.prog 58=true:=by kernel_rfl
theorem Zdu:ZD Tryz.prog 100=some ([.nilFunc]):=by kernel_rfl
set_option maxHeartbeats 600000 in
theorem Z1P (y:Yrd) (a1 a2 a3:Option Addr) (k1 k2 k3:Nat) (hy:y.ok) (H:Z8) (R:Z4) [hR1:MemRows a1 3 (Zf y.bins) R] [hR2:MemRows a2 5 (Zn y.moves) R] [hR3:MemRows a3 4 (Zy y.levels) R] :
    FnV Tryz.prog 113 [(y.v a1 a2 a3 k1 k2 k3)] H R (.int .i64 0):=by
 have hd:=hy.days
 have hb:=hy.bins
 have hm:=hy.nm
 have hv:=hy.nl
 refine Zc Tryz.func113 rfl Tryz.ntmps113 rfl ?_
 refine sqt 2 rfl (bx rfl rfl rfl (fun b1=>pur 1 rfl (sqt 4 rfl (spL rfl rfl (lhA (ydl y a1 a2 a3 k1 k2 k3) Z4P rfl rfl rfl) rfl (sp rfl (PE.makeFunc rfl rfl) rfl (alc rfl Zdu rfl (fun b3=>?_)))))))
 refine sto rfl rfl rfl ZcE rfl rfl rfl rfl ?_
 refine sqt 3 rfl (sp rfl (PE.makeFunc rfl rfl) rfl (alc rfl Zdu rfl (fun b4=>?_)))
 refine sto rfl rfl rfl ZcE rfl rfl rfl rfl ?_
 refine Z0 (Z3 (sqt 24 rfl (sp rfl (PE.fA Z18 rfl) rfl (spL rfl rfl (lh (v:=.int .i64 (y.days:Int)) sc3 rfl rfl) rfl ?_))))
 refine clV rfl Z3r rfl rfl (Z6b _ _ _ (by omega) _ _) ?_
 refine pur 2 rfl ?_
 refine Zw 13 rfl ?_ ?_<;>intro g13
 exact absurd g13 (by simp)
 refine spG rfl rfl rfl rfl (PE.fA Z0o rfl) rfl ?_
 refine Z0U rfl rfl rfl rfl rfl (lh Z2I rfl rfl) rfl ?_
 refine spG rfl rfl rfl rfl (PE.lenSl Z2R rfl) rfl ?_
 refine Z9t rfl rfl rfl rfl Z3r rfl rfl (Z6b _ _ _ (by omega) _ _) ?_
 refine pur 3 rfl ?_
 refine Zw 20 rfl ?_ ?_<;>intro g20
 exact absurd g20 (by simp)
 refine spG rfl rfl rfl rfl (PE.fA Z0H rfl) rfl ?_
 refine Z0U rfl rfl rfl rfl rfl (lh Z6M rfl rfl) rfl ?_
 refine spG rfl rfl rfl rfl (PE.lenSl Z6z rfl) rfl ?_
 refine pur 3 rfl ?_
 refine Zw 26 rfl ?_ ?_<;>intro g26
 exact absurd g26 (by simp;omega)
 refine spG rfl rfl rfl rfl (PE.fA Z1T rfl) rfl ?_
 refine Z0U rfl rfl rfl rfl rfl (lh Zdi rfl rfl) rfl ?_
 refine spG rfl rfl rfl rfl (PE.lenSl Zb6 rfl) rfl ?_
 refine pur 3 rfl ?_
 refine Z1 rfl ?_ ?_<;>intro hc0
 exact absurd hc0 (by simp;omega)
 refine sqt 5 rfl (sp rfl (PE.fA Z0o rfl) rfl (spL rfl rfl (lh Z2I rfl rfl) rfl ?_))
 refine cl rfl ZdR rfl rfl (Z44 y.bins a1 k1 184 [] [] (fun _=>true) ZgT (by omega) _ _ (fun b9 b8 x hx=>Zj7 x (hy.bin x hx) _ _)) ?_
 rintro _ _ R1 ⟨rfl,rfl,hR1⟩
 obtain rfl:=hR1.symm
 clear hR1
 rw [show (y.bins.all fun _=>true)=true by simp]
 refine pur 2 rfl ?_
 refine Z1 rfl ?_ ?_<;>intro hc1
 exact absurd hc1 (by simp)
 refine sqt 11 rfl (sp rfl (PE.fA Z0H rfl) rfl (spL rfl rfl (lh Z6M rfl rfl) rfl ?_))
 refine cl rfl Z7X rfl rfl (Z1v y.moves a2 k2 187 [] [] (fun _=>true) ZgU (by omega) _ _ (fun b9 b8 x hx=>Zj8 x (hy.mov x hx).2.2.2.2 _ _)) ?_
 rintro _ _ R1 ⟨rfl,rfl,hR1⟩
 obtain rfl:=hR1.symm
 clear hR1
 rw [show (y.moves.all fun _=>true)=true by simp]
 refine pur 2 rfl ?_
 refine Zw 42 rfl ?_ ?_<;>intro g42
 exact absurd g42 (by simp)
 refine spG rfl rfl rfl rfl (PE.fA Z1T rfl) rfl ?_
 refine Z0U rfl rfl rfl rfl rfl (lh Zdi rfl rfl) rfl ?_
 refine clG rfl rfl rfl rfl Zan rfl rfl (Z2x y.levels a3 k3 189 [] [] (fun _=>true) ZgV (by omega) _ _ (fun b9 b8 x hx=>Zj9 x (hy.lev x hx).2.2 _ _)) ?_
 rintro _ _ R1 ⟨rfl,rfl,hR1⟩
 obtain rfl:=hR1.symm
 clear hR1
 rw [show (y.levels.all fun _=>true)=true by simp]
 refine pur 3 rfl ?_
 refine Z1 rfl ?_ ?_<;>intro hc2
 exact absurd hc2 (by simp)
 refine sqt 6 rfl (sp rfl (PE.fA Z0H rfl) rfl (spL rfl rfl (lh Z6M rfl rfl) rfl (sp rfl (PE.makeFunc rfl rfl) rfl ?_)))
 refine cl rfl Z7X rfl rfl (Z1v y.moves a2 k2 190 [] [.pointer (some ⟨b1,0,none⟩),.pointer (some ⟨b4,0,none⟩)] (fun _=>true) ZgW (by omega) _ _ (fun b9 b8 x hx=>Zja y a1 a2 a3 k1 k2 k3 hb.2 hd.2 b1 b3 b4 x ⟨(hy.mov x hx).1,(hy.mov x hx).2.1,(hy.mov x hx).2.2.1⟩ _ _)) ?_
 rintro _ _ R1 ⟨rfl,rfl,hR1⟩
 obtain rfl:=hR1.symm
 clear hR1
 rw [show (y.moves.all fun _=>true)=true by simp]
 refine pur 2 rfl ?_
 refine Z1 rfl ?_ ?_<;>intro hc3
 exact absurd hc3 (by simp)
 refine sqt 6 rfl (sp rfl (PE.fA Z1T rfl) rfl (spL rfl rfl (lh Zdi rfl rfl) rfl (sp rfl (PE.makeFunc rfl rfl) rfl ?_)))
 refine cl rfl Zan rfl rfl (Z2x y.levels a3 k3 191 [] [.pointer (some ⟨b1,0,none⟩),.pointer (some ⟨b3,0,none⟩)] (fun _=>true) ZgX (by omega) _ _ (fun b9 b8 x hx=>Zjb y a1 a2 a3 k1 k2 k3 hb.2 b1 b3 x ⟨(hy.lev x hx).1,(hy.lev x hx).2.1⟩ _ _)) ?_
 rintro _ _ R1 ⟨rfl,rfl,hR1⟩
 obtain rfl:=hR1.symm
 clear hR1
 rw [show (y.levels.all fun _=>true)=true by simp]
 refine pur 2 rfl ?_
 refine Z1 rfl ?_ ?_<;>intro hc4
 exact absurd hc4 (by simp)
 refine sqt 5 rfl (sp rfl (PE.fA Z0H rfl) rfl (spL rfl rfl (lh Z6M rfl rfl) rfl ?_))
 refine cl rfl Z7X rfl rfl (Z1v y.moves a2 k2 193 [] [] (fun _=>true) ZgZ (by omega) _ _ (fun b9 b8 x hx=>Zjc x (hy.mov x hx).2.2.2.1 _ _)) ?_
 rintro _ _ R1 ⟨rfl,rfl,hR1⟩
 obtain rfl:=hR1.symm
 clear hR1
 rw [show (y.moves.all fun _=>true)=true by simp]
 refine pur 2 rfl ?_
 refine Z1 rfl ?_ ?_<;>intro hc5
 exact absurd hc5 (by simp)
 refine sqt 17 rfl (sp rfl (PE.fA Z0o rfl) rfl (spL rfl rfl (lh Z2I rfl rfl) rfl ?_))
 refine cl rfl ZdR rfl rfl (Z44 y.bins a1 k1 194 [] [] (fun _=>true) Zh0 (by omega) _ _ (fun b9 b8 x hx=>Zjd x (hy.bin x hx).2 _ _)) ?_
 rintro _ _ R1 ⟨rfl,rfl,hR1⟩
 obtain rfl:=hR1.symm
 clear hR1
 rw [show (y.bins.all fun _=>true)=true by simp]
 refine pur 2 rfl ?_
 refine Zw 70 rfl ?_ ?_<;>intro g70
 exact absurd g70 (by simp)
 refine spG rfl rfl rfl rfl (PE.fA Z0H rfl) rfl ?_
 refine Z0U rfl rfl rfl rfl rfl (lh Z6M rfl rfl) rfl ?_
 refine clG rfl rfl rfl rfl Z7X rfl rfl (Z1v y.moves a2 k2 196 [] [] (fun _=>true) Zh1 (by omega) _ _ (fun b9 b8 x hx=>Zje x (hy.mov x hx).2.2.2.2 _ _)) ?_
 rintro _ _ R1 ⟨rfl,rfl,hR1⟩
 obtain rfl:=hR1.symm
 clear hR1
 rw [show (y.moves.all fun _=>true)=true by simp]
 refine pur 3 rfl ?_
 refine Zw 76 rfl ?_ ?_<;>intro g76
 exact absurd g76 (by simp)
 refine spG rfl rfl rfl rfl (PE.fA Z1T rfl) rfl ?_
 refine Z0U rfl rfl rfl rfl rfl (lh Zdi rfl rfl) rfl ?_
 refine clG rfl rfl rfl rfl Zan rfl rfl (Z2x y.levels a3 k3 197 [] [] (fun _=>true) Zh2 (by omega) _ _ (fun b9 b8 x hx=>Zgl x (hy.lev x hx).2.2 _ _)) ?_
 rintro _ _ R1 ⟨rfl,rfl,hR1⟩
 obtain rfl:=hR1.symm
 clear hR1
 rw [show (y.levels.all fun _=>true)=true by simp]
 refine pur 3 rfl ?_
 refine Z1 rfl ?_ ?_<;>intro hc6
 exact absurd hc6 (by simp)
 refine Z2 (sqt 1 rfl (pur 1 rfl (Z5 ?_)))
 exact rtA rfl rfl rfl ⟨rfl,rfl,rfl⟩ (fun w h=>((h.del b4).del b3).del b1)
end Go.Proofs.YtcfdanhklbklkaaGreat.Sk
