/- Walks of the functions of the program, and the laws that join them: what the last theorem of this claim needs, in order. -/
import Derived.Test.YtcfdanhklbklkaaGreatTr2
namespace Go.Proofs.YtcfdanhklbklkaaGreat.Ht
set_option linter.unusedSimpArgs false
set_option linter.unusedVariables false
open Go
theorem Z62:apT Tryz.prog 23=some (3,1,8):=by kernel_rfl
theorem Z0Q:Z0h Tryz.prog 137=true:=by kernel_rfl
theorem sc4:Z0h Tryz.prog 4=true:=by kernel_rfl
theorem Barn.dsk_ok {b:Barn} (hb:b.ok):b.dsk.ok where
 n:=hb.many
 gangs:=hb.gangs
 lasts:=b.lasts_sml hb
 most:=b.most_sml hb
 le k hk:=by
   obtain ⟨x,hx⟩:∃ x,b.bins[k]?=some x:=⟨_,List.getElem?_eq_getElem hk⟩
   have h1:na b.lasts k=_:=Z2f (b.map_get hb _ hx)
   have h2:na b.most k=_:=Z2f (b.map_get hb _ hx)
   show na b.lasts k≤na b.most k
   rw [h1,h2];omega
 ever k hk:=by
   obtain ⟨x,hx⟩:∃ x,b.bins[k]?=some x:=⟨_,List.getElem?_eq_getElem hk⟩
   have hm:=List.mem_of_getElem? hx
   have h1:na b.lasts k=_:=Z2f (b.map_get hb _ hx)
   have h2:na b.most k=_:=Z2f (b.map_get hb _ hx)
   show (na b.lasts k=1000000∨na b.lasts k≤10)∧(na b.most k=1000000∨na b.most k≤10)∧(na b.lasts k=1000000↔na b.most k=1000000)
   have r1:=b.days_range hb hm (hb.bins x hm).2.1.1
   have r2:=b.days_range hb hm hb.cool.1
   rw [h1,h2]
   have e:b.days x x.warm=1000000↔b.days x b.cool=1000000:=by
     have z:∀ w,0≤w→(b.days x w=1000000↔b.worst x=0):=fun w hw=>by
       constructor
       · intro h
         rcases Classical.em (b.worst x=0) with h0 | h0
         · exact h0
         · have h9:=b.worst_range hb hm
           have h8:=(hb.bins x hm).1
           unfold Barn.days Z0c at h
           rw [decide_eq_false h0,cond_false] at h
           by_cases h3:x.mark<w
           · rw [decide_eq_true h3,cond_true] at h;omega
           · rw [decide_eq_false h3,cond_false] at h
             have:(x.mark-w) / b.worst x<11:=Int.ediv_lt_of_lt_mul (by omega) (by omega)
             omega
       · intro h;unfold Barn.days Z0c;rw [h];rfl
     rw [z _ (hb.bins x hm).2.1.1,z _ hb.cool.1]
   omega
theorem ZaO (l:List Nat):(il l).length=l.length:=by simp [il]
theorem Z1R (bd:Nat) (full:Bool) (H:Z8) (R:Z5) :
    Fn Tryz.prog 165 [.pointer (some ⟨bd,0,none⟩),.bool full] H R (fun v H' R'=>∃ xb xf,v = .func (.func 239) #[] #[.pointer (some ⟨xb,0,none⟩),.pointer (some ⟨xf,0,none⟩)]∧H'=H∧R'=RowsA (some ⟨xf,0,none⟩) 1 [[.bool full]]::RowsA (some ⟨xb,0,none⟩) 1 [[.pointer (some ⟨bd,0,none⟩)]]::R):=by
 refine Ze Tryz.func165 rfl Tryz.ntmps165 rfl ?_
 refine sqt 3 rfl (bx rfl rfl rfl (fun b2=>bx rfl rfl rfl (fun b3=>pur 1 rfl (sqt 2 rfl (sp rfl (PE.makeFunc rfl rfl) rfl (pur 1 rfl (Z4 ?_)))))))
 refine Sy.heap (fun w h=>St.rows (sz:=1) (rows:=[[.pointer (some ⟨bd,0,none⟩)]]) (rest:=[]) (h.pull b2) (by simp)) ?_
 refine Sy.heap (fun w h=>St.rows (sz:=1) (rows:=[[.bool full]]) (rest:=[]) (h.pull b3) (by simp)) ?_
 exact rtA rfl rfl rfl ⟨b2,b3,rfl,rfl,rfl⟩ idH
theorem Z5b (bd:Nat) (H:Z8) (R:Z5) :
    Fn Tryz.prog 97 [.pointer (some ⟨bd,0,none⟩)] H R (fun v H' R'=>∃ xb,v = .func (.func 164) #[] #[.pointer (some ⟨xb,0,none⟩)]∧H'=H∧R'=RowsA (some ⟨xb,0,none⟩) 1 [[.pointer (some ⟨bd,0,none⟩)]]::R):=by
 refine Ze Tryz.func97 rfl Tryz.ntmps97 rfl ?_
 refine sqt 2 rfl (bx rfl rfl rfl (fun b1=>pur 1 rfl (sqt 2 rfl (sp rfl (PE.makeFunc rfl rfl) rfl (pur 1 rfl (Z4 ?_))))))
 refine Sy.heap (fun w h=>St.rows (sz:=1) (rows:=[[.pointer (some ⟨bd,0,none⟩)]]) (rest:=[]) (h.pull b1) (by simp)) ?_
 exact rtA rfl rfl rfl ⟨b1,rfl,rfl,rfl⟩ idH
theorem Z3X (b:Barn) (hok:b.ok) (ab:Option Addr) (cb bd m:Nat) (full:Bool) (xb xf lp:Nat) (I:Nat→Z8→Z5→Prop) (E:Z8→Z5→Prop) (hI:∀ k H R,I k H R→RowsA (some ⟨xb,0,none⟩) 1 [[.pointer (some ⟨bd,0,none⟩)]]∈R∧RowsA (some ⟨xf,0,none⟩) 1 [[.bool full]]∈R∧RowsA (some ⟨bd,0,none⟩) 18 [dcs b (b.sl ab cb) b.lasts b.most m]∈R)
    (hy:∀ k l a c H R,(b.dsk.trs full)[k]?=some l→I k H R→Yd Tryz.prog lp [.slice a l.length c] H (RowsA a 1 (irows (il l))::R) (fun v H' R'=>(v = .bool true∧I (k+1) H' R')∨(v = .bool false∧E H' R'))) (H:Z8) (R:Z5) (h0:I 0 H R) :
    Fn Tryz.prog 239 [yv lp,.pointer (some ⟨xb,0,none⟩),.pointer (some ⟨xf,0,none⟩)] H R (fun _ H' R'=>I (b.dsk.trs full).length H' R'∨E H' R'):=by
 have hmn:=hok.many
 have hgg:=hok.gangs
 obtain ⟨hF1,hF2,hF3⟩:=hI _ _ _ h0
 haveI:MemRows (some ⟨xb,0,none⟩) 1 [[.pointer (some ⟨bd,0,none⟩)]] R:=⟨hF1⟩
 haveI:MemRows (some ⟨xf,0,none⟩) 1 [[.bool full]] R:=⟨hF2⟩
 haveI:MemRows (some ⟨bd,0,none⟩) 18 [dcs b (b.sl ab cb) b.lasts b.most m] R:=⟨hF3⟩
 refine Ze Tryz.func239 rfl Tryz.ntmps239 rfl ?_
 refine Z0 ?_
 refine Zb [0,1,3,7,15,0,32,96,224,480,992,2047,4095] (.ld 0 (tks 1 3 (.ld 4 (.ld 5 (tks 6 3 (.ld 9 (tks 10 3 .done))))))) Zo (by kernel_rfl) ?_
 refine ld rfl rfl (lfB (sz:=1) Z0Q rfl) rfl (tk rfl (PE.nilCheck rfl) rfl (tk rfl (PE.fA Z0W rfl) rfl (tk rfl (PE.fA Z46 rfl) rfl (ld rfl rfl (lfB (sz:=18) sc3 rfl) rfl (ld rfl rfl (lfB (sz:=1) Z0Q rfl) rfl (tk rfl (PE.nilCheck rfl) rfl (tk rfl (PE.fA Z0W rfl) rfl (tk rfl (PE.fA ZJ rfl) rfl (ld rfl rfl (lfB (sz:=18) Z2X rfl) rfl (tk rfl (PE.lenSl Z1a rfl) rfl (tk rfl (PE.min rfl rfl) rfl (Zl 1 rfl (sqt 8 rfl (spL rfl rfl (lfB (sz:=1) Z0Q rfl) rfl (sp rfl (PE.nilCheck rfl) rfl ?_)))))))))))))))
 refine sp rfl (PE.fA Z0W rfl) rfl (sp rfl (PE.fA ZJ rfl) rfl (spL rfl rfl (lfB (sz:=18) Z2X rfl) rfl (sp rfl (PE.lenSl Z1a rfl) rfl (sp rfl (PE.shlN (m:=1) (n:=b.bins.length) rfl rfl rfl (by omega) (by have:=Nat.pow_le_pow_right (show 0<2 by decide) hmn.2;omega)) rfl (pur 1 rfl (Z3 ?_))))))
 have h16:2 ^ b.bins.length≤16:=Nat.pow_le_pow_right (show 0<2 by decide) hmn.2
 refine Zd (ι:={x:Nat×Z8×Z5 // x.1≤2 ^ b.bins.length∧I (b.dsk.cnt full x.1) x.2.1 x.2.2}) (fun x=>⟨[(0,yv lp),(1,.pointer (some ⟨xb,0,none⟩)),(2,.pointer (some ⟨xf,0,none⟩)),(4,.int .i64 b.dsk.g),(26,.int .i64 ((1*2 ^ b.bins.length:Nat):Int)),(27,.int .i64 x.1.1)],x.1.2.1,x.1.2.2⟩) (fun x=>2 ^ b.bins.length-x.1.1) ⟨(0,H,R),Nat.zero_le _,by rw [Dsk.cnt_zero];exact h0⟩ ?_ (fun x=>?_)
 exact Zj idH
 obtain ⟨⟨i,H0,R0⟩,hi,hI0⟩:=x
 dsimp only at hi hI0 ⊢
 obtain ⟨hF1,hF2,hF3⟩:=hI _ _ _ hI0
 haveI:MemRows (some ⟨xb,0,none⟩) 1 [[.pointer (some ⟨bd,0,none⟩)]] R0:=⟨hF1⟩
 haveI:MemRows (some ⟨xf,0,none⟩) 1 [[.bool full]] R0:=⟨hF2⟩
 haveI:MemRows (some ⟨bd,0,none⟩) 18 [dcs b (b.sl ab cb) b.lasts b.most m] R0:=⟨hF3⟩
 refine sqt 1 rfl (pur 1 rfl (Z0 ?_))
 refine Z2 rfl ?_ ?_<;>intro hc0<;>try simp only [cS] at hc0
 have hi2:i<2 ^ b.bins.length:=by omega
 refine Z1 (Z0 (Z3 (sqt 2 rfl (pur 2 rfl (sqt 1 rfl (pur 1 rfl (Z0 (sqt 7 rfl (spL rfl rfl (lfB (sz:=1) Z0Q rfl) rfl (sp rfl (PE.nilCheck rfl) rfl (sp rfl (PE.fA Z0W rfl) rfl (sp rfl (PE.fA ZJ rfl) rfl (spL rfl rfl (lfB (sz:=18) Z2X rfl) rfl (sp rfl (PE.lenSl Z1a rfl) rfl (pur 1 rfl ?_)))))))))))))))
 refine Z3 ?_
 refine Zd (ι:=(k:{k:Nat // k≤b.bins.length})×OSl 3 1 (irows (il (ZL k.1 i)))) (fun x=>⟨[(0,yv lp),(1,.pointer (some ⟨xb,0,none⟩)),(2,.pointer (some ⟨xf,0,none⟩)),(4,.int .i64 b.dsk.g),(26,.int .i64 ((1*2 ^ b.bins.length:Nat):Int)),(27,.int .i64 i),(5,.int .i64 i),(6,x.2.fs),(35,.int .i64 b.bins.length),(36,.int .i64 x.1.1)],x.2.G++H0,R0⟩) (fun x=>b.bins.length-x.1.1) ⟨⟨0,by omega⟩,OSl.nil _ _⟩ ?_ (fun x=>?_)
 exact Zj idH
 obtain ⟨⟨k,hk⟩,o⟩:=x
 dsimp only at hk o ⊢
 refine sqt 1 rfl (pur 1 rfl (Z0 ?_))
 refine Z2 rfl ?_ ?_<;>intro hc1<;>try simp only [cS] at hc1
 have eb:=Z3M k i
 refine Z1 (Z0 (Z3 (sqt 2 rfl (pur 2 rfl (sqt 5 rfl (pur 2 rfl (sp rfl (PE.shrN (m:=i) (n:=k) rfl rfl (by omega)) rfl (sp rfl (PE.andN (m:=i>>>k) (n:=1) rfl rfl rfl (Nat.le_trans (Nat.shiftRight_le _ _) (by omega)) (by decide)) rfl (pur 1 rfl ?_)))))))))
 refine Z2 rfl ?_ ?_<;>intro hc2
 rw [Z0k] at hc2
 rw [hc2,cond_true] at eb
 refine sqr 5 rfl (pur 2 rfl ?_)
 refine bsl (out:=[_]) rfl Z18 zl3 rfl rfl rfl rfl rfl rfl (fun b46=>?_)
 refine apO (o) rfl Z62 rfl rfl (Z0B (row:=[.int .i64 k]) rfl) rfl rfl ((by have:=Z0R k i;simp only [irows,il,List.length_map,List.length_singleton];omega)) rfl (fun o47=>?_)
 refine pur 1 rfl (sqr 2 rfl (sp rfl (PE.add rfl rfl (by omega)) rfl (pur 1 rfl ?_)))
 first
   | exact Zf ⟨⟨k+1,by omega⟩,o47.cast (by rw [eb];simp [irows,il])⟩ (by dsimp only;omega) (fun w h=>h.del b46)
   | exact Zf ⟨⟨k+1,by omega⟩,o.cast (by rw [eb])⟩ (by dsimp only;omega) idH
 rw [Z0k] at hc2
 rw [hc2,cond_false,List.append_nil] at eb
 refine Z1 (sqr 2 rfl (sp rfl (PE.add rfl rfl (by omega)) rfl (pur 1 rfl ?_)))
 first
   | exact Zf ⟨⟨k+1,by omega⟩,o47.cast (by rw [eb];simp [irows,il])⟩ (by dsimp only;omega) (fun w h=>h.del b46)
   | exact Zf ⟨⟨k+1,by omega⟩,o.cast (by rw [eb])⟩ (by dsimp only;omega) idH
 obtain rfl:k=b.bins.length:=by omega
 obtain ⟨al,cl,he,hf⟩:=o.freeze
 rw [he]
 refine Sy.heap (fun w h=>hf h) ?_
 clear he hf
 rw [show (irows (il (ZL b.bins.length i))).length=(ZL b.bins.length i).length from by simp [irows,il]]
 have hbl:=Z0R b.bins.length i
 refine Z7 (Z9 (Z9 (Zk (Z0 (sqt 13 rfl (pur 1 rfl (sp rfl (PE.lenSl ZD rfl) rfl (pur 3 rfl ?_))))))))
 refine Zv 53 rfl ?_ ?_<;>intro g53
 try simp only [cS] at g53
 have hmy:b.dsk.may full (ZL b.dsk.n i)=false:=by unfold Dsk.may;rw [dT (show b.dsk.g<((ZL b.dsk.n i).length:Int) from g53)];rfl
 have hcn:=b.dsk.cnt_no (full:=full) hi2 hmy
 refine pur 2 rfl ?_
 repeat refine spU rfl rfl rfl rfl rfl rfl rfl ?_
 refine pur 2 rfl ?_
 refine Zt rfl ?_
 refine Z7 (Z9 (Zk (sqr 2 rfl (sp rfl (PE.add rfl rfl (by omega)) rfl (pur 1 rfl ?_)))))
 first | exact Zf ⟨(i+1,H3,R3),by dsimp only;omega,by dsimp only;rw [hcn];exact hI3⟩ (by dsimp only;omega) idH | exact Zf ⟨(i+1,H0,R0),by dsimp only;omega,by dsimp only;rw [hcn];exact hI0⟩ (by dsimp only;omega) (fun w h=>h.ftail)
 try simp only [cS] at g53
 refine Z0E rfl rfl rfl rfl rfl (lfB (sz:=1) sc4 rfl) rfl (pur 1 rfl ?_)
 refine Zv 55 rfl ?_ ?_<;>intro g55
 refine pur 1 rfl ?_
 refine spG rfl rfl rfl rfl (PE.lenSl ZD rfl) rfl ?_
 refine pur 4 rfl ?_
 refine Z2 rfl ?_ ?_<;>intro hc3<;>try simp only [cS] at hc3
 have hmy:b.dsk.may full (ZL b.dsk.n i)=false:=by unfold Dsk.may;rw [dF (show ¬ b.dsk.g<((ZL b.dsk.n i).length:Int) from Int.not_lt.2 g53),g55,dT (show ((ZL b.dsk.n i).length:Int)<b.dsk.g from hc3)];rfl
 have hcn:=b.dsk.cnt_no (full:=full) hi2 hmy
 refine Z7 (Z9 (Zk (sqr 2 rfl (sp rfl (PE.add rfl rfl (by omega)) rfl (pur 1 rfl ?_)))))
 first | exact Zf ⟨(i+1,H3,R3),by dsimp only;omega,by dsimp only;rw [hcn];exact hI3⟩ (by dsimp only;omega) idH | exact Zf ⟨(i+1,H0,R0),by dsimp only;omega,by dsimp only;rw [hcn];exact hI0⟩ (by dsimp only;omega) (fun w h=>h.ftail)
 have hmy:b.dsk.may full (ZL b.dsk.n i)=true:=by unfold Dsk.may;rw [dF (show ¬ b.dsk.g<((ZL b.dsk.n i).length:Int) from Int.not_lt.2 g53),g55,dF (show ¬ ((ZL b.dsk.n i).length:Int)<b.dsk.g from Int.not_lt.2 hc3)];rfl
 obtain ⟨hcn,htr⟩:=b.dsk.cnt_yes (full:=full) hi2 hmy
 refine Z1 (sqt 4 rfl (pur 2 rfl ?_))
 refine clY rfl rfl rfl rfl (hy _ _ al cl _ _ htr hI0) ?_
 rintro v H3 R3 (⟨rfl,hI3⟩ | ⟨rfl,hE3⟩)
 refine pur 1 rfl ?_
 refine Zq rfl ?_
 refine Z1 (sqr 2 rfl (sp rfl (PE.add rfl rfl (by omega)) rfl (pur 1 rfl ?_)))
 first | exact Zf ⟨(i+1,H3,R3),by dsimp only;omega,by dsimp only;rw [hcn];exact hI3⟩ (by dsimp only;omega) idH | exact Zf ⟨(i+1,H0,R0),by dsimp only;omega,by dsimp only;rw [hcn];exact hI0⟩ (by dsimp only;omega) (fun w h=>h.ftail)
 refine pur 1 rfl ?_
 refine Zt rfl ?_
 refine Z4 ?_
 exact Zg (vs:=[]) rfl .nil rfl (.inr hE3) idH
 try simp only [cS] at g55
 have hmy:b.dsk.may full (ZL b.dsk.n i)=true:=by unfold Dsk.may;rw [dF (show ¬ b.dsk.g<((ZL b.dsk.n i).length:Int) from Int.not_lt.2 g53),g55];rfl
 obtain ⟨hcn,htr⟩:=b.dsk.cnt_yes (full:=full) hi2 hmy
 refine pur 6 rfl ?_
 refine Zq rfl ?_
 refine Z1 (sqt 4 rfl (pur 2 rfl ?_))
 refine clY rfl rfl rfl rfl (hy _ _ al cl _ _ htr hI0) ?_
 rintro v H3 R3 (⟨rfl,hI3⟩ | ⟨rfl,hE3⟩)
 refine pur 1 rfl ?_
 refine Zq rfl ?_
 refine Z1 (sqr 2 rfl (sp rfl (PE.add rfl rfl (by omega)) rfl (pur 1 rfl ?_)))
 first | exact Zf ⟨(i+1,H3,R3),by dsimp only;omega,by dsimp only;rw [hcn];exact hI3⟩ (by dsimp only;omega) idH | exact Zf ⟨(i+1,H0,R0),by dsimp only;omega,by dsimp only;rw [hcn];exact hI0⟩ (by dsimp only;omega) (fun w h=>h.ftail)
 refine pur 1 rfl ?_
 refine Zt rfl ?_
 refine Z4 ?_
 exact Zg (vs:=[]) rfl .nil rfl (.inr hE3) idH
 obtain rfl:i=2 ^ b.bins.length:=by omega
 have hce:b.dsk.cnt full (2 ^ b.bins.length)=(b.dsk.trs full).length:=b.dsk.cnt_end full
 refine Z7 (Z9 (Z9 (Zk ?_)))
 exact Z1L (vs:=[]) rfl .nil rfl (.inl (hce▸hI0)) idH
theorem Z3W (b:Barn) (hok:b.ok) (ab:Option Addr) (cb bd m:Nat) (xb lp:Nat) (I:Nat→Z8→Z5→Prop) (E:Z8→Z5→Prop) (hI:∀ k H R,I k H R→RowsA (some ⟨xb,0,none⟩) 1 [[.pointer (some ⟨bd,0,none⟩)]]∈R∧RowsA (some ⟨bd,0,none⟩) 18 [dcs b (b.sl ab cb) b.lasts b.most m]∈R)
    (hy:∀ k s q o H R,b.dsk.sts[k]?=some s→I k H R→Yd Tryz.prog lp [stv s] ((q,o)::H) R (fun v H' R'=>(v = .bool true∧∃ H2,H'=(q,o)::H2∧I (k+1) H2 R')∨(v = .bool false∧∃ H2,H'=(q,o)::H2∧E H2 R'))) (H:Z8) (R:Z5) (h0:I 0 H R) :
    Fn Tryz.prog 164 [yv lp,.pointer (some ⟨xb,0,none⟩)] H R (fun _ H' R'=>I b.dsk.nst H' R'∨E H' R'):=by
 have hmn:=hok.many
 have hdk:=b.dsk_ok hok
 have hl4:=hdk.lasts.len
 have hm4:=hdk.most.len
 obtain ⟨hF1,hF3⟩:=hI _ _ _ h0
 haveI:MemRows (some ⟨xb,0,none⟩) 1 [[.pointer (some ⟨bd,0,none⟩)]] R:=⟨hF1⟩
 haveI:MemRows (some ⟨bd,0,none⟩) 18 [dcs b (b.sl ab cb) b.lasts b.most m] R:=⟨hF3⟩
 refine Ze Tryz.func164 rfl Tryz.ntmps164 rfl ?_
 refine sqt 3 rfl (sp rfl (PE.zero (.inr (by rw [Z0w];rfl)) Z1k) rfl (alc rfl Z1k rfl (fun b3=>?_)))
 refine sto rfl rfl rfl Z1p rfl rfl rfl rfl ?_
 refine Z0 (sqt 7 rfl (spL rfl rfl (lfB (sz:=1) Z0Q rfl) rfl (sp rfl (PE.nilCheck rfl) rfl (sp rfl (PE.fA Z0W rfl) rfl (sp rfl (PE.fA ZJ rfl) rfl (spL rfl rfl (lfB (sz:=18) Z2X rfl) rfl (sp rfl (PE.lenSl Z1a rfl) rfl (pur 1 rfl (Z3 ?_)))))))))
 refine Zd (ι:={k:Nat // k≤b.bins.length}) (fun k=>⟨[(0,yv lp),(1,.pointer (some ⟨xb,0,none⟩)),(3,.pointer (some ⟨b3,0,none⟩)),(12,.int .i64 b.bins.length),(13,.int .i64 k.1)],(b3,cel 140 (Za (zst b.dsk k.1)))::H,R⟩) (fun k=>b.bins.length-k.1) ⟨0,by omega⟩ ?_ (fun k=>?_)
 exact Zj idH
 obtain ⟨k,hk⟩:=k
 dsimp only at hk ⊢
 refine sqt 1 rfl (pur 1 rfl (Z0 ?_))
 refine Z2 rfl ?_ ?_<;>intro hc0<;>try simp only [cS] at hc0
 refine Z1 (Z0 (Z3 (sqt 2 rfl (pur 2 rfl (sqt 7 rfl (spL rfl rfl (lfB (sz:=1) Z0Q rfl) rfl (pur 1 rfl (sp rfl (PE.nilCheck rfl) rfl (sp rfl (PE.fA Z5q rfl) rfl (sp rfl (PE.indexArr Z0w rfl rfl (by omega) (by omega)) rfl (spL rfl rfl (lfB (sz:=18) (x:=.int .i64 (na b.most k)) sc3 (Z5k (k:=k) hl4 hm4 (by omega) (by show 0+13+((k:Nat):Int).toNat*1=_;omega))) rfl (pur 1 rfl ?_))))))))))))
 refine Z2 rfl ?_ ?_<;>intro hc1<;>try simp only [cS] at hc1
 refine sqr 3 rfl (pur 1 rfl (sp rfl (PE.indexArr Z0w rfl rfl (by omega) (by omega)) rfl ?_))
 refine ZH (l':=Za (zst b.dsk (k+1))) rfl rfl rfl cn3 rfl rfl rfl ((Z4Z (k:=k) (Z1O _ _) (by omega) (by show 0+((k:Nat):Int).toNat*1=k;omega)).trans (by rw [Zg5 (d:=b.dsk) (k:=k) (by omega) hc1])) (by rw [Z6,Z1O];show 0+((k:Nat):Int).toNat*1+1≤4;omega) ?_
 refine sqr 2 rfl (sp rfl (PE.add rfl rfl (by omega)) rfl (pur 1 rfl ?_))
 first
   | exact Zf ⟨k+1,by omega⟩ (by dsimp only;omega) (fun w h=>by dsimp only;rw [← Zem (d:=b.dsk) (k:=k) hc1];exact h)
   | exact Zf ⟨k+1,by omega⟩ (by dsimp only;omega) idH
 refine Z1 (sqr 2 rfl (sp rfl (PE.add rfl rfl (by omega)) rfl (pur 1 rfl ?_)))
 first
   | exact Zf ⟨k+1,by omega⟩ (by dsimp only;omega) (fun w h=>by dsimp only;rw [← Zem (d:=b.dsk) (k:=k) hc1];exact h)
   | exact Zf ⟨k+1,by omega⟩ (by dsimp only;omega) idH
 obtain rfl:k=b.bins.length:=by omega
 rw [show zst b.dsk b.bins.length=b.dsk.sat 0 from Zg4 hdk]
 refine Z7 (Z9 (Z9 (Zk (Z3 ?_))))
 refine Zd (ι:={x:Nat×Z8×Z5 // x.1<b.dsk.nst∧I x.1 x.2.1 x.2.2}) (fun x=>⟨[(0,yv lp),(1,.pointer (some ⟨xb,0,none⟩)),(3,.pointer (some ⟨b3,0,none⟩))],(b3,cel 140 (Za (b.dsk.sat x.1.1)))::x.1.2.1,x.1.2.2⟩) (fun x=>b.dsk.nst-x.1.1) ⟨(0,H,R),(b.dsk.nst_le hdk).1,h0⟩ ?_ (fun x=>?_)
 exact Zj idH
 obtain ⟨⟨i,H0,R0⟩,hi,hI0⟩:=x
 dsimp only at hi hI0 ⊢
 have hs:=b.dsk.sat_sml hdk i
 refine Z3 (Z0 (sqt 4 rfl (pur 1 rfl (spL rfl rfl (lhI (b.dsk.sat i) ZM rfl rfl (hs.len)) rfl ?_))))
 refine clY rfl rfl rfl rfl (hy _ _ b3 _ _ _ (b.dsk.sts_get hi) hI0) ?_
 rintro v H3 R3 (⟨rfl,H2,rfl,hI3⟩ | ⟨rfl,H2,rfl,hE3⟩)
 refine pur 1 rfl ?_
 refine Zq rfl ?_
 refine Z1 (sqt 1 rfl (pur 1 rfl (Z0 (Z3 ?_))))
 obtain ⟨hF1,hF3⟩:=hI _ _ _ hI3
 haveI:MemRows (some ⟨xb,0,none⟩) 1 [[.pointer (some ⟨bd,0,none⟩)]] R3:=⟨hF1⟩
 haveI:MemRows (some ⟨bd,0,none⟩) 18 [dcs b (b.sl ab cb) b.lasts b.most m] R3:=⟨hF3⟩
 refine Zd (ι:={a:Nat // a≤b.bins.length∧∀ j<a,na (b.dsk.sat i) j=na b.most j}) (fun a=>⟨[(0,yv lp),(1,.pointer (some ⟨xb,0,none⟩)),(3,.pointer (some ⟨b3,0,none⟩)),(5,.int .i64 a.1)],(b3,cel 140 (Za (rsz (b.dsk.sat i) a.1)))::H2,R3⟩) (fun a=>b.bins.length-a.1) ⟨0,by omega,by omega⟩ ?_ (fun a=>?_)
 exact Zj (fun w h=>by dsimp only;rw [Zd9 hs.len];exact h)
 obtain ⟨a,ha,hat⟩:=a
 dsimp only at ha hat ⊢
 refine Z0 (Z0 ?_)
 refine Zb [0,0,2,6,14,30,62,127,255,511,1023,2047,511,511,4607,20991,61951,127487,262143,524287] (.tk 0 (.ld 1 (tks 2 3 (.ld 5 (tks 6 5 (.ld 11 (.ld 12 (tks 13 4 (.ld 17 (.tk 18 (.tk 19 .done))))))))))) Zo (by kernel_rfl) ?_
 refine Zl 1 rfl (ld rfl rfl (lfB (sz:=1) Z0Q rfl) rfl (tk rfl (PE.nilCheck rfl) rfl (tk rfl (PE.fA Z0W rfl) rfl (tk rfl (PE.fA ZJ rfl) rfl (ld rfl rfl (lfB (sz:=18) Z2X rfl) rfl (tk rfl (PE.lenSl Z1a rfl) rfl (Zl 2 rfl ?_)))))))
 refine Zv 38 rfl ?_ ?_<;>intro g38
 simp only [decide_eq_true_eq] at g38
 have hra:na (rsz (b.dsk.sat i) a) a=na (b.dsk.sat i) a:=by rw [Z1E (by omega),dF (Nat.lt_irrefl a)];rfl
 refine Zl 1 rfl ?_
 refine tkG rfl rfl rfl rfl (PE.indexArr Z0w rfl rfl (by omega) (by omega)) rfl ?_
 refine ldG rfl rfl rfl rfl rfl (lh sc3 rfl (Z5N (k:=a) (ZW _ _) (by omega) (by show 0+((a:Nat):Int).toNat*1=_;omega))) rfl (ldG rfl rfl rfl rfl rfl (lfB (sz:=1) Z0Q rfl) rfl (Zl 1 rfl ?_))
 refine tkG rfl rfl rfl rfl (PE.nilCheck rfl) rfl ?_
 refine tkG rfl rfl rfl rfl (PE.fA Z5q rfl) rfl ?_
 refine tkG rfl rfl rfl rfl (PE.indexArr Z0w rfl rfl (by omega) (by omega)) rfl ?_
 refine ldG rfl rfl rfl rfl rfl (lfB (sz:=18) (x:=.int .i64 (na b.most a)) sc3 (Z5k (k:=a) hl4 hm4 (by omega) (by show 0+13+((a:Nat):Int).toNat*1=_;omega))) rfl (Zl 2 rfl ?_)
 refine Z2 rfl ?_ ?_<;>intro hc3<;>try simp only [cS] at hc3
 refine Z1 (Z3 (Z0 (sqt 4 rfl (pur 1 rfl (sp rfl (PE.indexArr Z0w rfl rfl (by omega) (by omega)) rfl (spL rfl rfl (lh sc3 rfl (Z5N (k:=a) (ZW _ _) (by omega) (by show 0+((a:Nat):Int).toNat*1=_;omega))) rfl (pur 1 rfl ?_)))))))
 refine Z2 rfl ?_ ?_<;>intro hc4<;>try simp only [cS] at hc4
 have hat2:∀ j<a+1,na (b.dsk.sat i) j=na b.most j:=fun j hj=>by
   rcases Nat.lt_or_ge j a with h1 | h1
   · exact hat j h1
   · obtain rfl:j=a:=by omega
     rw [← hra];exact hc3
 refine sqr 3 rfl (pur 1 rfl (sp rfl (PE.indexArr Z0w rfl rfl (by omega) (by omega)) rfl ?_))
 refine ZH (l':=Za (rsz (b.dsk.sat i) (a+1))) rfl rfl rfl cn3 rfl rfl rfl ((Z4Z (k:=a) (ZW _ _) (by omega) (by show 0+((a:Nat):Int).toNat*1=a;omega)).trans (by rw [ZfH (by omega) (by rw [← hra];exact hc4)])) (by rw [Z6,ZW];show 0+((a:Nat):Int).toNat*1+1≤4;omega) ?_
 refine sqr 3 rfl (pur 1 rfl (sp rfl (PE.add rfl rfl (by omega)) rfl (pur 1 rfl ?_)))
 exact Zc ⟨a+1,by omega,hat2⟩ idH
 have hat2:∀ j<a+1,na (b.dsk.sat i) j=na b.most j:=fun j hj=>by
   rcases Nat.lt_or_ge j a with h1 | h1
   · exact hat j h1
   · obtain rfl:j=a:=by omega
     rw [← hra];exact hc3
 have hev:na (b.dsk.sat i) a=1000000:=by rw [← hra];omega
 refine Z1 (sqr 3 rfl (pur 1 rfl (sp rfl (PE.add rfl rfl (by omega)) rfl (pur 1 rfl ?_))))
 exact Zc ⟨a+1,by omega,hat2⟩ (fun w h=>by dsimp only;rw [Zd8 hev];exact h)
 have hne3:na (b.dsk.sat i) a≠na b.most a:=by rw [← hra];exact hc3
 refine Z7 (Z9 (Z9 (Zk (Z0 (sqt 8 rfl (pur 1 rfl (spL rfl rfl (lfB (sz:=1) Z0Q rfl) rfl (sp rfl (PE.nilCheck rfl) rfl (sp rfl (PE.fA Z0W rfl) rfl (sp rfl (PE.fA ZJ rfl) rfl (spL rfl rfl (lfB (sz:=18) Z2X rfl) rfl (sp rfl (PE.lenSl Z1a rfl) rfl (pur 1 rfl ?_)))))))))))))
 refine Z2 rfl ?_ ?_<;>intro hc5<;>try simp only [cS] at hc5
 have hae:a=b.bins.length:=by omega
 subst hae
 have hlast:=b.dsk.sat_last hdk hi hat
 refine Z4 ?_
 first | exact Zg (vs:=[]) rfl .nil rfl (.inr hE3) (fun _ h=>h.tail) | exact Zg (vs:=[]) rfl .nil rfl (.inl (hlast▸hI3)) (fun _ h=>h.tail)
 have hne:na (b.dsk.sat i) a≠na b.most a:=by first | exact hne3 | (exfalso;omega)
 refine Z1 (sqr 6 rfl (pur 1 rfl (sp rfl (PE.indexArr Z0w rfl rfl (by omega) (by omega)) rfl (spL rfl rfl (lh sc3 rfl (Z5N (k:=a) (ZW _ _) (by omega) (by show 0+((a:Nat):Int).toNat*1=_;omega))) rfl (sp rfl (PE.add rfl rfl (by have:=(b.dsk.sat_sml hdk i).at_ a (by omega);rw [Z1E (by omega),dF (Nat.lt_irrefl a)];simp only [Bool.false_and,cond_false];omega)) rfl (sp rfl (PE.indexArr Z0w rfl rfl (by omega) (by omega)) rfl ?_))))))
 refine ZH (l':=Za (b.dsk.sat (i+1))) rfl rfl rfl cn3 rfl rfl rfl ((Z4Z (k:=a) (ZW _ _) (by omega) (by show 0+((a:Nat):Int).toNat*1=a;omega)).trans (by rw [show na (rsz (b.dsk.sat i) a) a=na (b.dsk.sat i) a by rw [Z1E (by omega),dF (Nat.lt_irrefl a)];rfl,b.dsk.sat_next hdk (show a<b.dsk.n by show a<b.bins.length;omega) hat hne])) (by rw [Z6,ZW];show 0+((a:Nat):Int).toNat*1+1≤4;omega) ?_
 have hlt:i+1<b.dsk.nst:=by
   rcases Nat.lt_or_ge (i+1) b.dsk.nst with h1 | h1
   · exact h1
   · exact absurd (b.dsk.sat_max hdk (show i+1=b.dsk.nst by omega) (show a<b.dsk.n by show a<b.bins.length;omega)) hne
 exact Zc ⟨(i+1,H2,R3),hlt,hI3⟩ idH
 simp only [decide_eq_false_iff_not] at g38
 refine Zl 2 rfl ?_
 repeat refine ldN rfl rfl rfl rfl rfl rfl rfl rfl ?_
 refine Zl 4 rfl ?_
 refine ldN rfl rfl rfl rfl rfl rfl rfl rfl ?_
 refine Zl 2 rfl ?_
 refine Zq rfl ?_
 refine Z7 (Z9 (Z9 (Zk (Z0 (sqt 8 rfl (pur 1 rfl (spL rfl rfl (lfB (sz:=1) Z0Q rfl) rfl (sp rfl (PE.nilCheck rfl) rfl (sp rfl (PE.fA Z0W rfl) rfl (sp rfl (PE.fA ZJ rfl) rfl (spL rfl rfl (lfB (sz:=18) Z2X rfl) rfl (sp rfl (PE.lenSl Z1a rfl) rfl (pur 1 rfl ?_)))))))))))))
 refine Z2 rfl ?_ ?_<;>intro hc5<;>try simp only [cS] at hc5
 have hae:a=b.bins.length:=by omega
 subst hae
 have hlast:=b.dsk.sat_last hdk hi hat
 refine Z4 ?_
 first | exact Zg (vs:=[]) rfl .nil rfl (.inr hE3) (fun _ h=>h.tail) | exact Zg (vs:=[]) rfl .nil rfl (.inl (hlast▸hI3)) (fun _ h=>h.tail)
 have hne:na (b.dsk.sat i) a≠na b.most a:=by first | exact hne3 | (exfalso;omega)
 refine Z1 (sqr 6 rfl (pur 1 rfl (sp rfl (PE.indexArr Z0w rfl rfl (by omega) (by omega)) rfl (spL rfl rfl (lh sc3 rfl (Z5N (k:=a) (ZW _ _) (by omega) (by show 0+((a:Nat):Int).toNat*1=_;omega))) rfl (sp rfl (PE.add rfl rfl (by have:=(b.dsk.sat_sml hdk i).at_ a (by omega);rw [Z1E (by omega),dF (Nat.lt_irrefl a)];simp only [Bool.false_and,cond_false];omega)) rfl (sp rfl (PE.indexArr Z0w rfl rfl (by omega) (by omega)) rfl ?_))))))
 refine ZH (l':=Za (b.dsk.sat (i+1))) rfl rfl rfl cn3 rfl rfl rfl ((Z4Z (k:=a) (ZW _ _) (by omega) (by show 0+((a:Nat):Int).toNat*1=a;omega)).trans (by rw [show na (rsz (b.dsk.sat i) a) a=na (b.dsk.sat i) a by rw [Z1E (by omega),dF (Nat.lt_irrefl a)];rfl,b.dsk.sat_next hdk (show a<b.dsk.n by show a<b.bins.length;omega) hat hne])) (by rw [Z6,ZW];show 0+((a:Nat):Int).toNat*1+1≤4;omega) ?_
 have hlt:i+1<b.dsk.nst:=by
   rcases Nat.lt_or_ge (i+1) b.dsk.nst with h1 | h1
   · exact h1
   · exact absurd (b.dsk.sat_max hdk (show i+1=b.dsk.nst by omega) (show a<b.dsk.n by show a<b.bins.length;omega)) hne
 exact Zc ⟨(i+1,H2,R3),hlt,hI3⟩ idH
 refine pur 1 rfl ?_
 refine Zt rfl ?_
 refine Z4 ?_
 first | exact Zg (vs:=[]) rfl .nil rfl (.inr hE3) (fun _ h=>h.tail) | exact Zg (vs:=[]) rfl .nil rfl (.inl (hlast▸hI3)) (fun _ h=>h.tail)
theorem Zez:apT Tryz.prog 206=some (140,4,32):=by kernel_rfl
theorem Zac:cal Tryz.prog 164=true:=by kernel_rfl
theorem Zdx:cal Tryz.prog 165=true:=by kernel_rfl
theorem Zdy:cal Tryz.prog 166=true:=by kernel_rfl
theorem ZdE:cal Tryz.prog 239=true:=by kernel_rfl
theorem ZeT:cal Tryz.prog 97=true:=by kernel_rfl
theorem ZjL:cal Tryz.prog 98=true:=by kernel_rfl
theorem ZhJ:ZF Tryz.prog 206=some 1:=by kernel_rfl
theorem cn4:ZF Tryz.prog 4=some 1:=by kernel_rfl
theorem ZhT:elN Tryz.prog 206=some 4:=by kernel_rfl
theorem Z1w:eqB Tryz.prog 10000 140=some (true,4):=by kernel_rfl
theorem Z5r:ZY Tryz.prog 143 3=some 17:=by kernel_rfl
theorem ZaP:Z2y Tryz.prog 206=true:=by kernel_rfl
theorem Z8D:Z0A Tryz.prog 141=some (140,3):=by kernel_rfl
theorem Z1C:Z2H Tryz.prog 10000 140=true:=by kernel_rfl
theorem Zbw:Z0h Tryz.prog 141=true:=by kernel_rfl
theorem Ziv:Z0h Tryz.prog 206=true:=by kernel_rfl
theorem ZfM:slE Tryz.prog 206=some (140,4):=by kernel_rfl
theorem Zkl:Zr Tryz.prog 206=some ([.slice none 0 0]):=by kernel_rfl
theorem zl4:Zr Tryz.prog 4=some ([.bool false]):=by kernel_rfl
theorem zv3:zvl Tryz.prog 3=some (.int .i64 0):=by kernel_rfl
structure KvOk (d:Dsk) (n:Nat) (kv:KV):Prop where
 len:∀ e∈kv,e.1.length=4
 get:∀ s∈d.sts,kv.get s=some (.int .i64 (d.lvl n s))
theorem KV.put_len {kv:KV} {k:List Int} {v:Value} {n:Nat} (hk:k.length=n) (h:∀ e∈kv,e.1.length=n):∀ e∈kv.put k v,e.1.length=n:=fun e he=>by
 rcases KV.put_mem he with rfl | h1
 · exact hk
 · exact h e h1
def Dsk.hit (d:Dsk) (A:List HSt) (s:HSt) (l:List Nat):Bool:=match d.next s l with
 | some t=>A.contains t
 | none=>false
theorem Zgh {α:Type} {L:List α} {p:α→Bool} {k:Nat} {x:α} (h:L[k]?=some x) (hp:p x=true):L.any p=true:=List.any_eq_true.2 ⟨x,List.mem_of_getElem? h,hp⟩
theorem Zgg {α:Type} {L:List α} {p:α→Bool} (h:∀ i x,i<L.length→L[i]?=some x→p x=false):L.any p=false:=List.any_eq_false.2 fun x hx=>by
 obtain ⟨i,hi⟩:=List.getElem?_of_mem hx
 simp [h i x (List.getElem?_eq_some_iff.1 hi).1 hi]
theorem Zb5 {α:Type} {L:List α} {p:α→Bool} {k:Nat} {x:α} (hk:L[k]?=some x) (hn:∀ i y,i<k→L[i]?=some y→p y=false) (h:p x=false):∀ i y,i<k+1→L[i]?=some y→p y=false:=fun i y hi hy=>by
 rcases Nat.lt_or_ge i k with h1 | h1
 · exact hn i y h1 hy
 · obtain rfl:i=k:=by omega
   rw [hk] at hy;cases hy;exact h
theorem Zck (b:Barn) (hok:b.ok) (ab:Option Addr) (cb bd m:Nat) (n:Nat) (hn:n≤100000) (kv:KV) (hkv:KvOk b.dsk n kv) (s:HSt) (hs:s∈b.dsk.sts) (H:Z8) (R:Z5) [hD:MemRows (some ⟨bd,0,none⟩) 18 [dcs b (b.sl ab cb) b.lasts b.most m] R] [hM:Mem1 m (Zz true kv) H] :
    FnV Tryz.prog 98 [.pointer (some ⟨bd,0,none⟩),stv s] H R (.bool (b.dsk.helped (b.dsk.alive n) s)):=by
 refine Z4O Tryz.func98 rfl Tryz.ntmps98 rfl ?_
 refine sqt 3 rfl (bx rfl rfl rfl (fun b2=>bx rfl rfl rfl (fun b3=>alc rfl zl4 rfl (fun b4=>Z0 (sqt 2 rfl (spL rfl rfl (lh Z0Q rfl rfl) rfl ?_))))))
 refine cl rfl Zdx rfl rfl (Z1R bd true _ _) ?_
 rintro _ _ _ ⟨xb,xf,rfl,rfl,rfl⟩
 have hdk:=b.dsk_ok hok
 have hsi:=(b.dsk.mem_sts hdk s).1 hs
 have hsm:=b.dsk.inS_sml hdk hsi
 have hl4:=hdk.lasts.len
 have hm4:=hdk.most.len
 refine ZG b2 ?_
 refine ZG b3 ?_
 refine ZG b4 ?_
 refine Z3 ?_
 refine Z1g rfl ZdE (fun c0 bl0 bd0 hcp0 hca0 hcb0 hck0=>?_)
 refine ⟨fun st pend T R'=>(st = .ready∧pend=none∧b.dsk.helped (b.dsk.alive n) s=false∧T=(bd0,.deferred (some []))::(b4,cel 4 [.bool false])::(b3,cel 140 (Za s))::(b2,cel 137 [.pointer (some ⟨bd,0,none⟩)])::H∧R'=RowsA (some ⟨xf,0,none⟩) 1 [[.bool true]]::RowsA (some ⟨xb,0,none⟩) 1 [[.pointer (some ⟨bd,0,none⟩)]]::R) ∨
     (st = .done∧pend=some .ret∧b.dsk.helped (b.dsk.alive n) s=true∧T=(bd0,.deferred (some []))::(b4,cel 4 [.bool true])::(b3,cel 140 (Za s))::(b2,cel 137 [.pointer (some ⟨bd,0,none⟩)])::H∧R'=RowsA (some ⟨xf,0,none⟩) 1 [[.bool true]]::RowsA (some ⟨xb,0,none⟩) 1 [[.pointer (some ⟨bd,0,none⟩)]]::R),
   Fn.mono (Z3X b hok ab cb bd m true xb xf bl0 (fun k H' R'=>(∀ i l,i<k→(b.dsk.trs true)[i]?=some l→b.dsk.hit (b.dsk.alive n) s l=false)∧H'=(bl0,lob c0 .ready none)::(bd0,.deferred (some []))::(b4,cel 4 [.bool false])::(b3,cel 140 (Za s))::(b2,cel 137 [.pointer (some ⟨bd,0,none⟩)])::H∧R'=RowsA (some ⟨xf,0,none⟩) 1 [[.bool true]]::RowsA (some ⟨xb,0,none⟩) 1 [[.pointer (some ⟨bd,0,none⟩)]]::R)
     (fun H' R'=>b.dsk.helped (b.dsk.alive n) s=true∧H'=(bl0,lob c0 .done (some .ret))::(bd0,.deferred (some []))::(b4,cel 4 [.bool true])::(b3,cel 140 (Za s))::(b2,cel 137 [.pointer (some ⟨bd,0,none⟩)])::H∧R'=RowsA (some ⟨xf,0,none⟩) 1 [[.bool true]]::RowsA (some ⟨xb,0,none⟩) 1 [[.pointer (some ⟨bd,0,none⟩)]]::R)
     (fun k H' R' h=>by obtain ⟨_,_,rfl⟩:=h;exact ⟨by simp,by simp,List.mem_cons_of_mem _ (List.mem_cons_of_mem _ hD.mem)⟩) (fun k l a c H' R' hk hI=>?_) _ _ ⟨fun _ _ h=>absurd h (Nat.not_lt_zero _),rfl,rfl⟩) (fun v H' R' h=>?_),?_⟩
 rotate_left
 · rcases h with ⟨hn,rfl,rfl⟩ | ⟨hh,rfl,rfl⟩
   · exact ⟨.ready,none,_,by simp,.refl _,.inl ⟨rfl,rfl,Zgg hn,rfl,rfl⟩⟩
   · exact ⟨.done,some .ret,_,by simp,.refl _,.inr ⟨rfl,rfl,hh,rfl,rfl⟩⟩
 rotate_left
 have hlt:=b.dsk.trs_lt (List.mem_of_getElem? hk)
 have hll:l.length≤1000000:=by
   obtain ⟨i,_,rfl⟩:=List.mem_map.1 (List.mem_filter.1 (List.mem_of_getElem? hk)).1
   have:=Z0R b.dsk.n i
   have:=hdk.n
   omega
 obtain ⟨hno,rfl,rfl⟩:=hI
 refine Z7Q hcp0 hca0 hcb0 hck0 rfl ?_
 refine sqr 1 rfl (pur 1 rfl ?_)
 refine ZK ?_
 refine Z3 (sqt 10 rfl (spL rfl rfl (lh Z0Q rfl rfl) rfl (spL rfl rfl (lhI s ZM rfl rfl (hsi.len)) rfl (pur 1 rfl ?_))))
 refine cl rfl Zdy rfl rfl (Zdq b hok ab cb bd m s hsm l hlt hll a c _ _) ?_
 rintro _ _ _ ⟨rfl,rfl,rfl⟩
 rcases hnx:b.dsk.next s l with _ | t
 refine pur 3 rfl (alc rfl Z1k rfl (fun b6=>?_))
 first | (refine Z4z rfl rfl rfl Z1p rfl rfl rfl (ZA _) ?_) | (refine Z4z rfl rfl rfl Z1p rfl (by rw [Z6];exact hts.len) rfl (ZA _) ?_)
 refine pur 1 rfl (Z0 ?_)
 refine Zb [0,1,3,7,15,31,3,127,255,511] (.tk 0 (.tk 1 (.ld 2 (.tk 3 (.tk 4 (.ld 5 (.ld 6 (.ld 7 (.tk 8 (.tk 9 .done)))))))))) Zo (by kernel_rfl) ?_
 have hno2:b.dsk.hit (b.dsk.alive n) s l=false:=by simp only [Dsk.hit,hnx]
 refine Zl 2 rfl ?_
 refine ldN rfl rfl rfl rfl rfl rfl rfl rfl ?_
 refine Zl 2 rfl ?_
 repeat refine ldN rfl rfl rfl rfl rfl rfl rfl rfl ?_
 refine Zl 2 rfl ?_
 refine Zq rfl ?_
 refine Z1 ?_
 exact Zn (.inl ⟨rfl,Zb5 hk hno hno2,rfl,rfl⟩) (fun _ h=>h.tail.ftail)
 refine pur 2 rfl ?_
 have hts:=b.dsk.next_inS hdk hsi hlt hnx
 have htm:=(b.dsk.mem_sts hdk t).2 hts
 have hkt:=hkv.get t htm
 refine pur 1 rfl (alc rfl Z1k rfl (fun b6=>?_))
 first | (refine Z4z rfl rfl rfl Z1p rfl rfl rfl (ZA _) ?_) | (refine Z4z rfl rfl rfl Z1p rfl (by rw [Z6];exact hts.len) rfl (ZA _) ?_)
 refine pur 1 rfl (Z0 ?_)
 refine Zb [0,1,3,7,15,31,3,127,255,511] (.tk 0 (.tk 1 (.ld 2 (.tk 3 (.tk 4 (.ld 5 (.ld 6 (.ld 7 (.tk 8 (.tk 9 .done)))))))))) Zo (by kernel_rfl) ?_
 refine Zl 2 rfl (ldG rfl rfl rfl rfl rfl (lh Z0Q rfl rfl) rfl ?_)
 refine tkG rfl rfl rfl rfl (PE.nilCheck rfl) rfl ?_
 refine tkG rfl rfl rfl rfl (PE.fA Z5r rfl) rfl ?_
 refine ldG rfl rfl rfl rfl rfl (lfB (sz:=18) Zbw (Z3Z hl4 hm4)) rfl (ldG rfl rfl rfl rfl rfl (lhI t ZM rfl rfl (hts.len)) rfl ?_)
 refine ZkR rfl rfl rfl rfl rfl rfl (Z0L (b:=true) kv t Z8D (KeyT.of Z1w Z1C) (ZZ zv3) hts.len hkv.len false) rfl ?_
 rw [hkt]
 refine Zl 2 rfl ?_
 refine Z2 rfl ?_ ?_<;>intro hc0<;>try simp only [cS] at hc0
 have hyes:b.dsk.hit (b.dsk.alive n) s l=true:=by
   rcases b.dsk.lvl_spec htm (n:=n) (by omega) with ⟨h1,h2⟩ | ⟨j,h1,h2,h3,h4⟩
   · simp only [Dsk.hit,hnx];simpa using h2
   · exfalso;have hc:b.dsk.lvl n t=1000000:=hc0;omega
 refine sqt 1 rfl ?_
 refine sto rfl rfl rfl cn4 rfl rfl rfl rfl ?_
 refine Z4 ?_
 exact Z7K (.inr ⟨rfl,Zgh hk hyes,rfl,rfl⟩) (fun _ h=>h.tail.ftail)
 have hno2:b.dsk.hit (b.dsk.alive n) s l=false:=by
   rcases b.dsk.lvl_spec htm (n:=n) (by omega) with ⟨h1,h2⟩ | ⟨j,h1,h2,h3,h4⟩
   · exact absurd h1 hc0
   · simp only [Dsk.hit,hnx]
     have:t∉b.dsk.alive n:=fun h=>h4 (b.dsk.alive_le (by omega) h)
     simpa using this
 refine Z1 ?_
 exact Zn (.inl ⟨rfl,Zb5 hk hno hno2,rfl,rfl⟩) (fun _ h=>h.tail.ftail)
 rintro _ _ _ _ (⟨rfl,rfl,hh,rfl,rfl⟩ | ⟨rfl,rfl,hh,rfl,rfl⟩)
 refine Z6U ?_
 refine sqt 1 rfl ?_
 refine sto rfl rfl rfl cn4 rfl rfl rfl rfl ?_
 refine Z4 ?_
 exact ZO [bd0] idH rfl (.cons (RV.cell rfl (lh sc4 rfl rfl)) .nil) rfl ⟨by rw [hh];rfl,rfl,rfl⟩ (fun w h=>(((h.del b4).del b3).del b2).ftail.ftail)
 refine Ziz ?_
 refine Z4 ?_
 exact ZO [bd0] idH rfl (.cons (RV.cell rfl (lh sc4 rfl rfl)) .nil) rfl ⟨by rw [hh];rfl,rfl,rfl⟩ (fun w h=>(((h.del b4).del b3).del b2).ftail.ftail)
def Z04 (l:List HSt):List (List Value):=l.map Za
theorem Z0p (l:List HSt):(Z04 l).length=l.length:=List.length_map _
theorem Z51 {l:List HSt} {k:Nat} {s:HSt} (h:l[k]?=some s):(Z04 l)[k]?=some (Za s):=by simp [Z04,h]
theorem Z0u {α:Type} {l:List α} {k:Nat} {x:α} (h:l[k]?=some x):l.take (k+1)=l.take k++[x]:=by rw [List.take_add_one,h];rfl
theorem Z5h (l:List HSt) (x y:HSt):(l++[x]).contains y=(l.contains y||decide (x=y)):=by
 by_cases h:x=y
 · subst h;simp
 · have h':¬ y=x:=fun e=>h e.symm
   simp [h,h']
theorem Zgz (b:Barn) (hok:b.ok) (ab:Option Addr) (cb bd m:Nat) (H:Z8) (R:Z5) [hD:MemRows (some ⟨bd,0,none⟩) 18 [dcs b (b.sl ab cb) b.lasts b.most m] R] :
    Fn Tryz.prog 43 [.pointer (some ⟨bd,0,none⟩)] ((m,Zz true [])::H) R (fun _ H' R'=>∃ n kv,n≤14641∧b.dsk.alive (n+1)=b.dsk.alive n∧KvOk b.dsk n kv∧H'=(m,Zz true kv)::H∧R'=R):=by
 refine Z4O Tryz.func43 rfl Tryz.ntmps43 rfl ?_
 refine sqt 1 rfl (bx rfl rfl rfl (fun b1=>sqt 1 rfl (alc rfl Zkl rfl (fun b2=>Z0 (sqt 2 rfl (spL rfl rfl (lh Z0Q rfl rfl) rfl ?_))))))
 refine cl rfl ZeT rfl rfl (Z5b bd _ _) ?_
 rintro _ _ _ ⟨xb,rfl,rfl,rfl⟩
 have hdk:=b.dsk_ok hok
 have hl4:=hdk.lasts.len
 have hm4:=hdk.most.len
 have hnst:=b.dsk.nst_le hdk
 have hsl:=b.dsk.sts_len
 refine ZG b1 ?_
 refine ZG b2 ?_
 refine Z3 ?_
 refine Z1g rfl Zac (fun c0 bl0 bd0 hcp0 hca0 hcb0 hck0=>?_)
 refine ⟨fun st pend T R'=>st = .ready∧pend=none∧∃ (o:OSl 140 4 (Z04 b.dsk.sts)) (kv:KV),T=(bd0,.deferred (some []))::(b2,cel 206 [o.fs])::(b1,cel 137 [.pointer (some ⟨bd,0,none⟩)])::(o.G++(m,Zz true kv)::H)∧R'=RowsA (some ⟨xb,0,none⟩) 1 [[.pointer (some ⟨bd,0,none⟩)]]::R∧KvOk b.dsk 0 kv,
   Fn.mono (Z3W b hok ab cb bd m xb bl0 (fun k H' R'=>∃ (o:OSl 140 4 (Z04 (b.dsk.sts.take k))) (kv:KV),H'=(bl0,lob c0 .ready none)::(bd0,.deferred (some []))::(b2,cel 206 [o.fs])::(b1,cel 137 [.pointer (some ⟨bd,0,none⟩)])::(o.G++(m,Zz true kv)::H)∧R'=RowsA (some ⟨xb,0,none⟩) 1 [[.pointer (some ⟨bd,0,none⟩)]]::R∧(∀ e∈kv,e.1.length=4)∧∀ s∈b.dsk.sts.take k,kv.get s=some (.int .i64 1000000)) (fun _ _=>False)
     (fun k H' R' h=>by obtain ⟨_,_,_,rfl,_⟩:=h;exact ⟨by simp,List.mem_cons_of_mem _ hD.mem⟩) (fun k s q oo H' R' hk hI=>?_) _ _ ⟨OSl.nil _ _,[],rfl,rfl,by simp,by simp⟩) (fun v H' R' h=>?_),?_⟩
 rotate_left
 · rcases h with ⟨o,kv,rfl,rfl,h1,h2⟩ | h
   · rw [List.take_of_length_le (by rw [hsl];exact Nat.le_refl _)] at h2
     exact ⟨.ready,none,_,by simp,.refl _,rfl,rfl,o.cast (by rw [List.take_of_length_le (by rw [hsl];exact Nat.le_refl _)]),kv,rfl,rfl,h1,h2⟩
   · exact h.elim
 rotate_left
 have hmem:=List.mem_of_getElem? hk
 have hsi:=(b.dsk.mem_sts hdk s).1 hmem
 have hkl:=(List.getElem?_eq_some_iff.1 hk).1
 obtain ⟨s0,s1,s2,s3,rfl⟩:=Z36 hsi.len
 obtain ⟨o,kv,rfl,rfl,hkv1,hkv2⟩:=hI
 refine Z7Q hcp0 hca0 hcb0 hck0 rfl ?_
 refine sqr 2 rfl (alc rfl Z1k rfl (fun b3=>?_))
 refine sto rfl rfl rfl Z1p rfl rfl rfl rfl ?_
 refine ZK ?_
 refine Z3 (sqt 5 rfl (spL rfl rfl (lh Ziv rfl rfl) rfl (spL rfl rfl (lhA [_,_,_,_] ZM rfl rfl rfl) rfl ?_)))
 refine bsl (out:=[_,_,_,_]) rfl ZfM Z1k rfl rfl rfl rfl rfl rfl (fun b16=>?_)
 refine apO (o) rfl Zez rfl rfl (Z0B (row:=[.int .i64 s0,.int .i64 s1,.int .i64 s2,.int .i64 s3]) rfl) rfl rfl ((by rw [Z0p,List.length_take];simp only [List.length_singleton];omega)) rfl (fun o17=>?_)
 refine ZH (l':=[o17.fs]) rfl rfl rfl ZhJ rfl (by rw [o17.cells.1];first | done | rfl) (by rw [o17.cells.1];simp [o17.cells.2]) (by rw [o17.cells.1];first | done | rfl) (by rw [o17.cells.1];first | done | exact Nat.le_refl _) ?_
 refine Zb [0,1,3,7,0,31] (.ld 0 (.tk 1 (.tk 2 (.ld 3 (.ld 4 (.big 5 .done)))))) Zo (by kernel_rfl) ?_
 refine ld rfl rfl (lh Z0Q rfl rfl) rfl (tk rfl (PE.nilCheck rfl) rfl (tk rfl (PE.fA Z5r rfl) rfl (ld rfl rfl (lfB (sz:=18) Zbw (Z3Z hl4 hm4)) rfl (ld rfl rfl (lhA [_,_,_,_] ZM rfl rfl rfl) rfl ?_))))
 refine mpu kv [s0,s1,s2,s3] rfl Z8D (KeyT.of Z1w Z1C) rfl rfl rfl rfl hkv1 ?_
 refine bgT ?_
 exact Zn (.inl ⟨rfl,_,rfl,o17.cast (by rw [Z0u hk];simp [Z04]),kv.put [s0,s1,s2,s3] (.int .i64 1000000),rfl,rfl,KV.put_len rfl hkv1,fun s hs=>by
   rw [KV.get_put]
   by_cases h:[s0,s1,s2,s3]=s
   · rw [dT h];rfl
   · rw [dF h,cond_false]
     rw [Z0u hk] at hs
     rcases List.mem_append.1 hs with h1 | h1
     · exact hkv2 s h1
     · exact absurd (List.mem_singleton.1 h1).symm h⟩) (fun _ h=>(h.del b16).del b3)
 rintro _ _ _ _ ⟨rfl,rfl,o,kv,rfl,rfl,hkv⟩
 refine Z6U ?_
 refine sqt 1 rfl (pur 1 rfl (Z3 ?_))
 refine Zd (ι:=(x:{x:Nat×KV // x.1+(b.dsk.alive x.1).length≤b.dsk.nst∧KvOk b.dsk x.1 x.2})×OSl 140 4 (Z04 (b.dsk.alive x.1.1))) (fun x=>⟨[(1,.pointer (some ⟨b1,0,none⟩)),(2,.pointer (some ⟨b2,0,none⟩)),(4,.int .i64 x.1.1.1)],(bd0,.deferred (some []))::(b2,cel 206 [x.2.fs])::(b1,cel 137 [.pointer (some ⟨bd,0,none⟩)])::(x.2.G++(m,Zz true x.1.1.2)::H),RowsA (some ⟨xb,0,none⟩) 1 [[.pointer (some ⟨bd,0,none⟩)]]::R⟩) (fun x=>(b.dsk.alive x.1.1.1).length) ⟨⟨(0,kv),by show 0+b.dsk.sts.length≤_;rw [hsl];omega,hkv⟩,o⟩ ?_ (fun x=>?_)
 exact Zj idH
 obtain ⟨⟨⟨n,kv⟩,hnl,hkv⟩,o⟩:=x
 dsimp only at hnl hkv o ⊢
 obtain ⟨aa,ca,he,hf⟩:=o.freeze
 rw [he,Z0p]
 refine Sy.heap (H':=(bd0,.deferred (some []))::(b2,cel 206 [.slice aa (b.dsk.alive n).length ca])::(b1,cel 137 [.pointer (some ⟨bd,0,none⟩)])::(m,Zz true kv)::H) (R':=RowsA aa 4 (Z04 (b.dsk.alive n))::RowsA (some ⟨xb,0,none⟩) 1 [[.pointer (some ⟨bd,0,none⟩)]]::R) (fun w h=>(hf (h.perm (ZC [_,_,_] o.G _))).perm (by first | exact .refl _ | skip)) ?_
 clear he hf
 have hn5:n≤100000:=by omega
 refine Z0 (Z3 (sqt 2 rfl (pur 2 rfl (Z0 (sqt 3 rfl (spL rfl rfl (lh Ziv rfl rfl) rfl (sp rfl (PE.lenSl ZaP rfl) rfl (pur 1 rfl (Z3 ?_)))))))))
 refine Zd (ι:=(k:{k:Nat // k≤(b.dsk.alive n).length})×OSl 140 4 (Z04 ((((b.dsk.alive n).take k.1)).filter fun s=>!b.dsk.helped (b.dsk.alive n) s))×OSl 140 4 (Z04 ((((b.dsk.alive n).take k.1)).filter (b.dsk.helped (b.dsk.alive n))))) (fun x=>⟨[(1,.pointer (some ⟨b1,0,none⟩)),(2,.pointer (some ⟨b2,0,none⟩)),(4,.int .i64 n),(5,x.2.1.fs),(6,x.2.2.fs),(25,.slice aa (b.dsk.alive n).length ca),(26,.int .i64 (b.dsk.alive n).length),(27,.int .i64 x.1.1)],x.2.1.G++(x.2.2.G++(bd0,.deferred (some []))::(b2,cel 206 [.slice aa (b.dsk.alive n).length ca])::(b1,cel 137 [.pointer (some ⟨bd,0,none⟩)])::(m,Zz true kv)::H),RowsA aa 4 (Z04 (b.dsk.alive n))::RowsA (some ⟨xb,0,none⟩) 1 [[.pointer (some ⟨bd,0,none⟩)]]::R⟩) (fun x=>(b.dsk.alive n).length-x.1.1) ⟨⟨0,by omega⟩,OSl.nil _ _,OSl.nil _ _⟩ ?_ (fun x=>?_)
 exact Zj idH
 obtain ⟨⟨k,hk⟩,o5,o6⟩:=x
 dsimp only at hk o5 o6 ⊢
 refine sqt 1 rfl (pur 1 rfl (Z0 ?_))
 refine Z2 rfl ?_ ?_<;>intro hc0<;>try simp only [cS] at hc0
 obtain ⟨s,hsk⟩:∃ s,(b.dsk.alive n)[k]?=some s:=⟨_,List.getElem?_eq_getElem (by omega)⟩
 have hmem:=b.dsk.alive_sts (List.mem_of_getElem? hsk)
 have hsi:=(b.dsk.mem_sts hdk s).1 hmem
 obtain ⟨s0,s1,s2,s3,rfl⟩:=Z36 hsi.len
 refine Zi (a:=aa) (sz:=4) (rows:=Z04 (b.dsk.alive n)) (by intro h0;have:=congrArg List.length h0;rw [Z0p] at this;simp at this;simp [this] at hsk) (fun ba oa he=>?_)
 subst he
 have hd1:((((b.dsk.alive n).take (k+1))).filter fun s=>!b.dsk.helped (b.dsk.alive n) s)=((((b.dsk.alive n).take k)).filter fun s=>!b.dsk.helped (b.dsk.alive n) s)++(bif b.dsk.helped (b.dsk.alive n) [s0,s1,s2,s3] then [] else [[s0,s1,s2,s3]]):=by rw [Z2t hsk];cases b.dsk.helped (b.dsk.alive n) [s0,s1,s2,s3]<;>rfl
 have hr1:((((b.dsk.alive n).take (k+1))).filter (b.dsk.helped (b.dsk.alive n)))=((((b.dsk.alive n).take k)).filter (b.dsk.helped (b.dsk.alive n)))++(bif b.dsk.helped (b.dsk.alive n) [s0,s1,s2,s3] then [[s0,s1,s2,s3]] else []):=Z2t hsk
 have hl5:((((b.dsk.alive n).take k)).filter fun s=>!b.dsk.helped (b.dsk.alive n) s).length≤14641:=Nat.le_trans (List.length_filter_le _ _) (by rw [List.length_take];omega)
 have hl6:((((b.dsk.alive n).take k)).filter (b.dsk.helped (b.dsk.alive n))).length≤14641:=Nat.le_trans (List.length_filter_le _ _) (by rw [List.length_take];omega)
 refine Z1 (Z0 (Z3 (sqt 4 rfl (sp rfl (PE.indexAddr ZhT rfl rfl (by omega) (by omega)) rfl (spL rfl rfl (lfA ZM (row:=[.int .i64 s0,.int .i64 s1,.int .i64 s2,.int .i64 s3]) (Z51 hsk) rfl) rfl (alc rfl Z1k rfl (fun b8=>?_)))))))
 refine sto rfl rfl rfl Z1p rfl rfl rfl rfl ?_
 refine sqt 3 rfl (spL rfl rfl (lh Z0Q rfl rfl) rfl (spL rfl rfl (lhA [_,_,_,_] ZM rfl rfl rfl) rfl ?_))
 refine clV rfl ZjL rfl rfl (Zck b hok ab cb bd m n hn5 kv hkv [s0,s1,s2,s3] hmem _ _) ?_
 refine Z2 rfl ?_ ?_<;>intro hc1
 rw [hc1,cond_true,List.append_nil] at hd1
 rw [hc1,cond_true] at hr1
 refine sqr 5 rfl (pur 1 rfl (spL rfl rfl (lhA [_,_,_,_] ZM rfl rfl rfl) rfl ?_))
 refine bsl (out:=[_,_,_,_]) rfl ZfM Z1k rfl rfl rfl rfl rfl rfl (fun b36=>?_)
 refine apO (o6) rfl Zez rfl rfl (Z0B (row:=[.int .i64 s0,.int .i64 s1,.int .i64 s2,.int .i64 s3]) rfl) rfl rfl ((by rw [Z0p];simp only [List.length_singleton];omega)) rfl (fun o37=>?_)
 refine pur 1 rfl (sqr 2 rfl (sp rfl (PE.add rfl rfl (by omega)) rfl (pur 1 rfl ?_)))
 first
   | exact Zf ⟨⟨k+1,by omega⟩,o5.cast (by rw [hd1]),o37.cast (by rw [hr1];simp [Z04])⟩ (by dsimp only;omega) (fun w h=>(h.del b36).del b8)
   | exact Zf ⟨⟨k+1,by omega⟩,o41.cast (by rw [hd1];simp [Z04]),o6.cast (by rw [hr1])⟩ (by dsimp only;omega) (fun w h=>(h.del b40).del b8)
 rw [hc1,cond_false] at hd1
 rw [hc1,cond_false,List.append_nil] at hr1
 refine sqr 5 rfl (pur 1 rfl (spL rfl rfl (lhA [_,_,_,_] ZM rfl rfl rfl) rfl ?_))
 refine bsl (out:=[_,_,_,_]) rfl ZfM Z1k rfl rfl rfl rfl rfl rfl (fun b40=>?_)
 refine apO (o5) rfl Zez rfl rfl (Z0B (row:=[.int .i64 s0,.int .i64 s1,.int .i64 s2,.int .i64 s3]) rfl) rfl rfl ((by rw [Z0p];simp only [List.length_singleton];omega)) rfl (fun o41=>?_)
 refine pur 1 rfl (sqr 2 rfl (sp rfl (PE.add rfl rfl (by omega)) rfl (pur 1 rfl ?_)))
 first
   | exact Zf ⟨⟨k+1,by omega⟩,o5.cast (by rw [hd1]),o37.cast (by rw [hr1];simp [Z04])⟩ (by dsimp only;omega) (fun w h=>(h.del b36).del b8)
   | exact Zf ⟨⟨k+1,by omega⟩,o41.cast (by rw [hd1];simp [Z04]),o6.cast (by rw [hr1])⟩ (by dsimp only;omega) (fun w h=>(h.del b40).del b8)
 obtain rfl:k=(b.dsk.alive n).length:=by omega
 obtain ⟨p5,h5f,h5g⟩:∃ o:OSl 140 4 (Z04 ((b.dsk.alive n).filter fun s=>!b.dsk.helped (b.dsk.alive n) s)),o.fs=o5.fs∧o.G=o5.G:=⟨o5.cast (by rw [List.take_length]),rfl,rfl⟩
 obtain ⟨p6,h6f,h6g⟩:∃ o:OSl 140 4 (Z04 (b.dsk.alive (n+1))),o.fs=o6.fs∧o.G=o6.G:=⟨o6.cast (by rw [List.take_length];rfl),rfl,rfl⟩
 rw [← h5f,← h6f]
 refine Sy.heap (H':=p5.G++(p6.G++(bd0,.deferred (some []))::(b2,cel 206 [.slice aa (b.dsk.alive n).length ca])::(b1,cel 137 [.pointer (some ⟨bd,0,none⟩)])::(m,Zz true kv)::H)) (fun w h=>by rw [h5g,h6g];exact h) ?_
 clear h5f h5g h6f h6g
 obtain ⟨ad,cd,he,hf⟩:=p5.freeze
 rw [he,Z0p]
 refine Sy.heap (fun w h=>hf h) ?_
 clear he hf
 refine Z7 (Z9 (Z9 (Zk (Z0 (sqt 3 rfl (pur 1 rfl (sp rfl (PE.lenSl ZaP rfl) rfl (pur 1 rfl ?_))))))))
 refine Z2 rfl ?_ ?_<;>intro hc2<;>try simp only [cS] at hc2
 have hfix:=b.dsk.alive_same (n:=n) (by omega)
 refine Z4 ?_
 refine Sy.heap (fun w h=>(St.drop (G:=p6.G) ((h.del b2).del b1)).ftail.ftail.ftail) ?_
 exact ZO [bd0] idH rfl .nil rfl ⟨n,kv,by omega,hfix,hkv,rfl,rfl⟩ idH
 have hls:=b.dsk.alive_less (n:=n) (by omega)
 have hdl:((b.dsk.alive n).filter fun s=>!b.dsk.helped (b.dsk.alive n) s).length≤14641:=Nat.le_trans (List.length_filter_le _ _) (by omega)
 refine Z1 (Z0 (sqt 3 rfl (pur 1 rfl (sp rfl (PE.lenSl ZaP rfl) rfl (pur 1 rfl (Z3 ?_))))))
 refine Zd (ι:={x:Nat×KV // x.1≤((b.dsk.alive n).filter fun s=>!b.dsk.helped (b.dsk.alive n) s).length∧(∀ e∈x.2,e.1.length=4)∧∀ s∈b.dsk.sts,x.2.get s=some (.int .i64 (bif (((b.dsk.alive n).filter fun s=>!b.dsk.helped (b.dsk.alive n) s).take x.1).contains s then (n:Int) else b.dsk.lvl n s))}) (fun x=>⟨[(1,.pointer (some ⟨b1,0,none⟩)),(2,.pointer (some ⟨b2,0,none⟩)),(4,.int .i64 n),(6,p6.fs),(46,.slice ad ((b.dsk.alive n).filter fun s=>!b.dsk.helped (b.dsk.alive n) s).length cd),(47,.int .i64 ((b.dsk.alive n).filter fun s=>!b.dsk.helped (b.dsk.alive n) s).length),(48,.int .i64 x.1.1)],p6.G++(bd0,.deferred (some []))::(b2,cel 206 [.slice aa (b.dsk.alive n).length ca])::(b1,cel 137 [.pointer (some ⟨bd,0,none⟩)])::(m,Zz true x.1.2)::H,RowsA ad 4 (Z04 ((b.dsk.alive n).filter fun s=>!b.dsk.helped (b.dsk.alive n) s))::RowsA aa 4 (Z04 (b.dsk.alive n))::RowsA (some ⟨xb,0,none⟩) 1 [[.pointer (some ⟨bd,0,none⟩)]]::R⟩) (fun x=>((b.dsk.alive n).filter fun s=>!b.dsk.helped (b.dsk.alive n) s).length-x.1.1) ⟨(0,kv),Nat.zero_le _,hkv.len,fun s hs=>by rw [hkv.get s hs];rfl⟩ ?_ (fun x=>?_)
 exact Zj idH
 obtain ⟨⟨k,kv2⟩,hk,hkl,hkg⟩:=x
 dsimp only at hk hkl hkg ⊢
 refine sqt 1 rfl (pur 1 rfl (Z0 ?_))
 refine Z2 rfl ?_ ?_<;>intro hc3<;>try simp only [cS] at hc3
 obtain ⟨s,hsk⟩:∃ s,((b.dsk.alive n).filter fun s=>!b.dsk.helped (b.dsk.alive n) s)[k]?=some s:=⟨_,List.getElem?_eq_getElem (by omega)⟩
 have hmem:=b.dsk.alive_sts (List.mem_filter.1 (List.mem_of_getElem? hsk)).1
 have hsi:=(b.dsk.mem_sts hdk s).1 hmem
 obtain ⟨s0,s1,s2,s3,rfl⟩:=Z36 hsi.len
 refine Zi (a:=ad) (sz:=4) (rows:=Z04 ((b.dsk.alive n).filter fun s=>!b.dsk.helped (b.dsk.alive n) s)) (ne0 (by rw [Z0p];omega)) (fun ba oa he=>?_)
 subst he
 refine Z1 (Z0 (Z3 (sqt 4 rfl (sp rfl (PE.indexAddr ZhT rfl rfl (by omega) (by omega)) rfl (spL rfl rfl (lfA ZM (row:=[.int .i64 s0,.int .i64 s1,.int .i64 s2,.int .i64 s3]) (Z51 hsk) rfl) rfl (alc rfl Z1k rfl (fun b10=>?_)))))))
 refine sto rfl rfl rfl Z1p rfl rfl rfl rfl ?_
 refine Zb [0,1,3,7,0,0,63] (.ld 0 (.tk 1 (.tk 2 (.ld 3 (.ld 4 (.tk 5 (.big 6 .done))))))) Zo (by kernel_rfl) ?_
 refine ld rfl rfl (lh Z0Q rfl rfl) rfl (tk rfl (PE.nilCheck rfl) rfl (tk rfl (PE.fA Z5r rfl) rfl (ld rfl rfl (lfB (sz:=18) Zbw (Z3Z hl4 hm4)) rfl (ld rfl rfl (lhA [_,_,_,_] ZM rfl rfl rfl) rfl (Zl 1 rfl ?_)))))
 refine mpu kv2 [s0,s1,s2,s3] rfl Z8D (KeyT.of Z1w Z1C) rfl rfl rfl rfl hkl ?_
 refine bgT (sqr 2 rfl (sp rfl (PE.add rfl rfl (by omega)) rfl (pur 1 rfl ?_)))
 exact Zx ⟨(k+1,kv2.put [s0,s1,s2,s3] (.int .i64 n)),by dsimp only;omega,KV.put_len rfl hkl,fun s hs=>by
   dsimp only
   rw [KV.get_put,Z0u hsk,Z5h]
   by_cases h:[s0,s1,s2,s3]=s
   · rw [dT h,Bool.or_true];rfl
   · rw [dF h,Bool.or_false,cond_false];exact hkg s hs⟩ (by dsimp only;omega) sbA (fun w h=>h.del b10)
 obtain rfl:k=((b.dsk.alive n).filter fun s=>!b.dsk.helped (b.dsk.alive n) s).length:=by omega
 rw [List.take_length] at hkg
 have hkv2:KvOk b.dsk (n+1) kv2:=⟨hkl,fun s hs=>by rw [hkg s hs,b.dsk.lvl_step hs hn5]⟩
 refine Z7 (Z9 (Z9 (Zk (sqr 2 rfl (pur 1 rfl ?_)))))
 refine ZH (l':=[p6.fs]) rfl rfl rfl ZhJ rfl (by rw [p6.cells.1];first | done | rfl) (by rw [p6.cells.1];simp [p6.cells.2]) (by rw [p6.cells.1];first | done | rfl) (by rw [p6.cells.1];first | done | exact Nat.le_refl _) ?_
 refine sqr 3 rfl (pur 1 rfl (sp rfl (PE.add rfl rfl (by omega)) rfl (pur 1 rfl ?_)))
 exact Zc ⟨⟨(n+1,kv2),by dsimp only;omega,hkv2⟩,p6⟩ (fun w h=>(h.perm (ZC p6.G [_,_,_] _)).ftail.ftail)
theorem ZeP:cal Tryz.prog 12=true:=by kernel_rfl
theorem Zhv:cal Tryz.prog 42=true:=by kernel_rfl
theorem Zjx:cal Tryz.prog 43=true:=by kernel_rfl
theorem Barn.state_inS {b:Barn} (hb:b.ok):b.dsk.inS b.state where
 len:=(b.state_sml hb).len
 at_ k hk:=by
   obtain ⟨x,hx⟩:∃ x,b.bins[k]?=some x:=⟨_,List.getElem?_eq_getElem hk⟩
   have hm:=List.mem_of_getElem? hx
   have h1:na b.state k=_:=Z2f (b.map_get hb _ hx)
   have h2:na b.most k=_:=Z2f (b.map_get hb _ hx)
   have h3:na b.lasts k=_:=Z2f (b.map_get hb _ hx)
   have h4:=((b.dsk_ok hb).ever k hk)
   have r1:=b.days_range hb hm (hb.bins x hm).2.1.1
   have r2:=b.days_range hb hm hb.cool.1
   show (na b.most k=1000000∧na b.state k=1000000)∨(na b.most k≠1000000∧0≤na b.state k∧na b.state k≤na b.most k)
   have h5:na b.lasts k=1000000↔na b.most k=1000000:=h4.2.2
   have z:∀ w,0≤w→(b.days x w=1000000↔b.worst x=0):=fun w hw=>by
     constructor
     · intro h
       rcases Classical.em (b.worst x=0) with h0 | h0
       · exact h0
       · have h9:=b.worst_range hb hm
         have h8:=(hb.bins x hm).1
         unfold Barn.days Z0c at h
         rw [decide_eq_false h0,cond_false] at h
         by_cases h3:x.mark<w
         · rw [decide_eq_true h3,cond_true] at h;omega
         · rw [decide_eq_false h3,cond_false] at h
           have:(x.mark-w) / b.worst x<11:=Int.ediv_lt_of_lt_mul (by omega) (by omega)
           omega
     · intro h;unfold Barn.days Z0c;rw [h];rfl
   have z1:=z _ (hb.bins x hm).2.1.1
   have z2:=z _ hb.cool.1
   rw [h1,h2]
   rw [h3,h2] at h5
   by_cases h0:b.worst x=0
   · have:=z1.2 h0;have:=z2.2 h0;omega
   · have:¬ b.days x x.warm=1000000:=fun h=>h0 (z1.1 h)
     have:¬ b.days x b.cool=1000000:=fun h=>h0 (z2.1 h)
     omega
 out k hk hk':=by
   have:(pad (b.bins.map fun x=>b.days x x.warm))[k]?=some 0:=Z8H (by rw [List.length_map];exact hk') hk
   exact Z2f this
theorem Barn.state_sts {b:Barn} (hb:b.ok):b.state∈b.dsk.sts:=(b.dsk.mem_sts (b.dsk_ok hb) _).2 (b.state_inS hb)
def Zj6 (b:Barn):Value→Prop:=fun v=>(b.check≠0∧v = .tuple #[.int .i64 0,.int .i64 b.check])∨(b.check=0∧∃ w,Kpt b.dsk b.state w∧v = .tuple #[.int .i64 w,.int .i64 0])
def Zgc (b:Barn):Value→Prop:=fun v=>(b.check≠0∧v = .tuple #[.int .i64 0,.int .i64 b.check])∨(b.check=0∧∃ w,Kpt b.dsk b.state w∧v = .tuple #[.int .i64 (bif decide (w=1000000) then 0 else w),.int .i64 (bif decide (w=1000000) then 6 else 0)])
def Barn.withG (b:Barn) (g:Int):Barn:={ b with gangs:=g }
def Barn.ends (b:Barn) (g:Nat):Prop:=∃ w,w≠1000000∧Kpt (b.withG g).dsk b.state w
def Zgd (b:Barn):Value→Prop:=fun v=>(b.check≠0∧v = .tuple #[.int .i64 0,.int .i64 b.check])∨(b.check=0∧((∃ g:Nat,g≤b.bins.length∧(∀ j<g,b.ends j)∧Kpt (b.withG g).dsk b.state 1000000∧v = .tuple #[.int .i64 g,.int .i64 0])∨((∀ j,j≤b.bins.length→b.ends j)∧v = .tuple #[.int .i64 0,.int .i64 6])))
theorem Z69 (b:Barn) (ab:Option Addr) (cb:Nat) (hl:b.bins.length≤9223372036854775807) (hr:b.rise.length=6) (H:Z8) (R:Z5) [hB:MemRows ab 4 (brows b.bins) R] :
    Fn Tryz.prog 12 [b.v (b.sl ab cb)] H R (fun v H' R'=>Zj6 b v∧H'=H∧R'=R):=by
 refine Ze Tryz.func12 rfl Tryz.ntmps12 rfl ?_
 refine sqt 3 rfl (bx rfl rfl rfl (fun b1=>pur 2 rfl (sqt 7 rfl (spL rfl rfl (lhA (btl b (b.sl ab cb)) Z1r rfl rfl rfl) rfl ?_))))
 refine cl rfl Zhv rfl rfl (Z2r b ab cb hl hr _ _) ?_
 rintro _ _ _ (⟨hck,rfl,rfl,rfl⟩ | ⟨hck,bd,m,rfl,rfl,rfl⟩)
 refine pur 5 rfl (Z0 (sqt 2 rfl (pur 2 rfl ?_)))
 refine Zt (congrArg (fun b=>some (Value.bool b)) (dT hck)) ?_
 refine sqt 3 rfl (pur 3 rfl (Z4 ?_))
 exact rtB rfl rfl rfl rfl ⟨.inl ⟨hck,rfl⟩,rfl,rfl⟩ drp
 have hok:=Barn.ok_of hr hck
 have hdk:=b.dsk_ok hok
 have hl4:=hdk.lasts.len
 have hm4:=hdk.most.len
 refine pur 5 rfl (Z0 (sqt 2 rfl (pur 2 rfl ?_)))
 refine Zq (rfl) ?_
 refine Z1 (sqt 2 rfl (pur 1 rfl ?_))
 refine cl rfl Zjx rfl rfl (Zgz b hok ab cb bd m _ _) ?_
 rintro v _ _ ⟨n,kv,hn,hfx,hkv,rfl,rfl⟩
 have hks:=Zi6 (b.state_sts hok) hn hfx
 have hkg:=hkv.get _ (b.state_sts hok)
 refine Z0 ?_
 refine Zb [0,1,3,7,0,16,63,127,255] (tks 0 3 (.ld 3 (.ld 4 (.big 5 (.ld 6 (.tk 7 (.tk 8 .done))))))) Zo (by kernel_rfl) ?_
 refine Zl 1 rfl (tk rfl (PE.nilCheck rfl) rfl (tk rfl (PE.fA Z5r rfl) rfl (ld rfl rfl (lfB (sz:=18) Zbw (Z3Z hl4 hm4)) rfl (ld rfl rfl (lhA (btl b (b.sl ab cb)) Z1r rfl rfl rfl) rfl ?_))))
 refine clV rfl Zcr rfl rfl (Z5a b ab cb hok _ _) ?_
 refine bg (fun w hs=>⟨trivial,(lfB (sz:=18) Zbw (Z3Z hl4 hm4)) w hs,trivial⟩) ?_
 refine ldK rfl rfl rfl ((Z0L (b:=true) kv b.state Z8D (KeyT.of Z1w Z1C) (ZZ zv3) (b.state_sml hok).len hkv.len false)) rfl ?_
 rw [hkg]
 refine Zl 2 rfl (Z4 ?_)
 exact rtB rfl rfl rfl rfl ⟨.inr ⟨hck,_,hks,rfl⟩,rfl,rfl⟩ (fun w h=>((h.del b1).del m).ftail)
theorem c_First (b:Barn) (ab:Option Addr) (cb:Nat) (hl:b.bins.length≤9223372036854775807) (hr:b.rise.length=6) (H:Z8) (R:Z5) [hB:MemRows ab 4 (brows b.bins) R] :
    Fn Tryz.prog 31 [b.v (b.sl ab cb)] H R (fun v H' R'=>Zgc b v∧H'=H∧R'=R):=by
 refine Ze Tryz.func31 rfl Tryz.ntmps31 rfl ?_
 refine sqt 3 rfl (bx rfl rfl rfl (fun b1=>pur 2 rfl (sqt 7 rfl (spL rfl rfl (lhA (btl b (b.sl ab cb)) Z1r rfl rfl rfl) rfl ?_))))
 refine cl rfl ZeP rfl rfl (Z69 b ab cb hl hr _ _) ?_
 rintro _ _ _ ⟨(⟨hck,rfl⟩ | ⟨hck,w,hw,rfl⟩),rfl,rfl⟩
 refine pur 5 rfl (Z0 (Z3 (sqt 3 rfl (pur 3 rfl ?_))))
 refine Zt (congrArg (fun b=>some (Value.bool b)) (dT hck)) ?_
 refine sqt 3 rfl (pur 3 rfl (Z4 ?_))
 exact rtB rfl rfl rfl rfl ⟨.inl ⟨hck,rfl⟩,rfl,rfl⟩ drp
 refine pur 5 rfl (Z0 (Z3 (sqt 3 rfl (pur 3 rfl ?_))))
 refine Zq (rfl) ?_
 refine sqt 3 rfl (pur 3 rfl ?_)
 refine Z2 rfl ?_ ?_<;>intro hc1<;>try simp only [cS] at hc1
 refine sqt 2 rfl (pur 2 rfl (Z4 ?_))
 exact rtB rfl rfl rfl rfl ⟨.inr ⟨hck,w,hw,by rw [dT hc1];rfl⟩,rfl,rfl⟩ drp
 refine Z1 (sqt 3 rfl (pur 3 rfl (Z4 ?_)))
 exact rtB rfl rfl rfl rfl ⟨.inr ⟨hck,w,hw,by rw [dF hc1];rfl⟩,rfl,rfl⟩ drp
theorem ZgT:cal Tryz.prog 162=true:=by kernel_rfl
theorem ZeQ:cal Tryz.prog 45=true:=by kernel_rfl
theorem ZcB:elN Tryz.prog 44=some 1:=by kernel_rfl
theorem Z4a:Z2y Tryz.prog 44=true:=by kernel_rfl
theorem Z26:Z0h Tryz.prog 23=true:=by kernel_rfl
structure PL where
 a:Option Addr
 c:Nat
 l:List Int
def plrow (x:PL):List Value:=[.slice x.a x.l.length x.c]
def plrows (l:List PL):List (List Value):=l.map plrow
def Inn (l:List PL) (w:World):Prop:=∀ x∈l,RowsA x.a 1 (irows x.l) w
def lls (l:List PL):List (List Int):=l.map (·.l)
theorem plrows_len (l:List PL):(plrows l).length=l.length:=List.length_map _
theorem pl_get {l:List PL} {k:Nat} {x:PL} (h:l[k]?=some x):(plrows l)[k]?=some (plrow x):=by simp [plrows,h]
theorem lls_get {l:List PL} {k:Nat} {x:PL} (h:l[k]?=some x):(lls l)[k]?=some x.l:=by simp [lls,h]
theorem lls_len (l:List PL):(lls l).length=l.length:=List.length_map _
theorem St.inn {H:Z8} {R:Z5} {w:World} {l:List PL} {x:PL} [m:MemF (Inn l) R] (h:St H R w) (hx:x∈l):St H (RowsA x.a 1 (irows x.l)::R) w :=
 h.also fun _ hw=>hw _ m.mem x hx
theorem ir_get {l:List Int} {k:Nat} {x:Int} (h:l[k]?=some x):(irows l)[k]?=some [.int .i64 x]:=by simp [h]
theorem Zu (l:List Int):(irows l).length=l.length:=List.length_map _
def sinc:List Int→Bool
 | x::y::l=>decide (x<y)&&sinc (y::l)
 | _=>true
def dayErr (n g:Int) (l:List Int):Int:=bif !(l.all fun k=>inB k 0 (n-1)) then 1 else bif !(sinc l) then 4 else bif decide (g<(l.length:Int)) then 9 else 0
def daysErr (n g:Int):List (List Int)→Int
 | []=>0
 | l::p=>bif decide (dayErr n g l=0) then daysErr n g p else dayErr n g l
def planErr (n g:Int) (p:List (List Int)):Int:=bif decide (20000<p.length) then 2 else daysErr n g p
theorem Z6j {n g:Int} {p:List (List Int)} {k:Nat} {l:List Int} (h:p[k]?=some l):daysErr n g (p.drop k)=bif decide (dayErr n g l=0) then daysErr n g (p.drop (k+1)) else dayErr n g l:=by
 rw [show p.drop k=l::p.drop (k+1) by rw [List.drop_eq_getElem_cons (List.getElem?_eq_some_iff.1 h).1,(List.getElem?_eq_some_iff.1 h).2]]
 rfl
theorem Zbz:∀ {l:List Int} {k:Nat} {x y:Int},l[k]?=some x→l[k+1]?=some y→y≤x→sinc l=false
 | a::b::l,0,x,y,hx,hy,h=>by
   simp only [List.getElem?_cons_zero,Option.some.injEq,Nat.zero_add,List.getElem?_cons_succ] at hx hy
   subst hx;subst hy
   unfold sinc;rw [decide_eq_false (by omega)];rfl
 | a::b::l,k+1,x,y,hx,hy,h=>by
   unfold sinc
   rw [Zbz (l:=b::l) (k:=k) (by simpa using hx) (by simpa using hy) h,Bool.and_false]
 | [a],0,x,y,hx,hy,h=>by simp at hy
 | [a],k+1,x,y,hx,hy,h=>by simp at hx
 | [],k,x,y,hx,hy,h=>by simp at hx
theorem sinc_yes:∀ {l:List Int},(∀ i x y,l[i]?=some x→l[i+1]?=some y→x<y)→sinc l=true
 | [],_=>rfl
 | [a],_=>rfl
 | a::b::l,h=>by
   unfold sinc
   rw [decide_eq_true (h 0 a b rfl rfl),Bool.true_and]
   exact sinc_yes fun i x y hx hy=>h (i+1) x y (by simpa using hx) (by simpa using hy)
theorem Z2c (xs:List Int) (a:Option Addr) (c:Nat) (v:Int) (hl:xs.length≤9223372036854775807) (H:Z8) (R:Z5) [hR:MemRows a 1 (irows xs) R] :
    FnV Tryz.prog 45 [.slice a xs.length c,.int .i64 v] H R (.int .i64 (match xs.findIdx? (fun x=>decide (v=x)) with | some k=>(k:Int) | none => -1)):=by
 refine Ze Tryz.func45 rfl Tryz.ntmps45 rfl ?_
 refine sqt 1 rfl (pur 1 rfl (Z0 (sqt 3 rfl (pur 1 rfl (sp rfl (PE.lenSl ZD rfl) rfl (pur 1 rfl (Z3 ?_)))))))
 refine Zd (ι:={k:Nat // k≤xs.length∧∀ x∈xs.take k,decide (v=x)=false}) (fun k=>⟨[(0,.slice a xs.length c),(1,.int .i64 v),(7,.int .i64 xs.length),(8,.int .i64 k.1)],H,R⟩) (fun k=>xs.length-k.1) ⟨0,by simp⟩ ?_ (fun k=>?_)
 exact Zj idH
 obtain ⟨k,hk,hn⟩:=k
 dsimp only
 refine sqt 1 rfl (pur 1 rfl (Z0 ?_))
 refine Z2 rfl ?_ ?_<;>intro hc0<;>try simp only [cS] at hc0
 obtain ⟨x,hx⟩:∃ x,xs[k]?=some x:=⟨_,List.getElem?_eq_getElem (by omega)⟩
 refine Zi (a:=a) (sz:=1) (rows:=irows xs) (by cases xs<;>simp_all) (fun b off he=>?_)
 subst he
 refine Z1 (Z0 (Z3 (sqt 2 rfl (pur 2 rfl (sqt 6 rfl (pur 3 rfl (sp rfl (PE.indexAddr Z1q rfl rfl (by omega) (by omega)) rfl (spL rfl rfl (lf0 sc3 (ir_get hx) rfl) rfl (pur 1 rfl ?_)))))))))
 refine Z2 rfl ?_ ?_<;>intro hc1
 refine sqt 2 rfl (pur 2 rfl (Z4 ?_))
 first | (exact rtA rfl rfl rfl ⟨by rw [Zy hx hn hc1];rfl,rfl,rfl⟩ idH) | (exact rtA rfl rfl rfl ⟨by rw [Zs (by simpa using hn)];rfl,rfl,rfl⟩ idH)
 refine Z1 (sqr 2 rfl (sp rfl (PE.add rfl rfl (by omega)) rfl (pur 1 rfl ?_)))
 exact Zc ⟨k+1,by omega,ZT hx hn hc1⟩ idH
 obtain rfl:k=xs.length:=by omega
 refine Z7 (Z9 (Z9 (Zk (sqt 1 rfl (pur 1 rfl (Z4 ?_))))))
 first | (exact rtA rfl rfl rfl ⟨by rw [Zy hx hn hc1];rfl,rfl,rfl⟩ idH) | (exact rtA rfl rfl rfl ⟨by rw [Zs (by simpa using hn)];rfl,rfl,rfl⟩ idH)
theorem c_contains_int (xs:List Int) (a:Option Addr) (c:Nat) (v:Int) (hl:xs.length≤9223372036854775807) (H:Z8) (R:Z5) [hR:MemRows a 1 (irows xs) R] :
    FnV Tryz.prog 13 [.slice a xs.length c,.int .i64 v] H R (.bool (xs.any fun x=>decide (v=x))):=by
 refine Ze Tryz.func13 rfl Tryz.ntmps13 rfl ?_
 refine sqt 1 rfl (pur 1 rfl (sqt 5 rfl (pur 2 rfl ?_)))
 refine clV rfl ZeQ rfl rfl (Z2c xs a c v hl _ _) ?_
 refine pur 2 rfl (Z4 ?_)
 exact rtA rfl rfl rfl ⟨by simp only [ZR];exact Z0v _ _,rfl,rfl⟩ drp
theorem Z7Y (b:Barn) (ab:Option Addr) (cb:Nat) (hl:b.bins.length≤9223372036854775807) (pl:List PL) (ap:Option Addr) (cp:Nat) (hpl:pl.length≤9223372036854775807) (hpi:∀ x∈pl,x.l.length≤9223372036854775807) (H:Z8) (R:Z5) [hP:MemRows ap 1 (plrows pl) R] [hI:MemF (Inn pl) R] :
    FnV Tryz.prog 93 [b.v (b.sl ab cb),.slice ap pl.length cp] H R (.int .i64 (planErr ((b.bins.length:Int)) b.gangs (lls pl))):=by
 refine Ze Tryz.func93 rfl Tryz.ntmps93 rfl ?_
 refine sqt 2 rfl (bx rfl rfl rfl (fun b2=>pur 1 rfl (Z0 (sqt 3 rfl (pur 1 rfl (sp rfl (PE.lenSl Z4a rfl) rfl (pur 1 rfl ?_)))))))
 refine Z2 rfl ?_ ?_<;>intro hc0<;>try simp only [cS] at hc0
 have e:planErr ((b.bins.length:Int)) b.gangs (lls pl)=2:=by unfold planErr;rw [lls_len,dT (by omega)];rfl
 refine sqt 1 rfl (pur 1 rfl (Z4 ?_))
 exact rtA rfl rfl rfl ⟨by first | (rw [e,e2];rfl) | (rw [e];rfl),rfl,rfl⟩ (fun w h=>by first | exact St.sub (h.del b2) | skip)
 have e:planErr ((b.bins.length:Int)) b.gangs (lls pl)=daysErr ((b.bins.length:Int)) b.gangs (lls pl):=by unfold planErr;rw [lls_len,dF (by omega)];rfl
 refine Z1 (Z0 (sqt 3 rfl (pur 1 rfl (sp rfl (PE.lenSl Z4a rfl) rfl (pur 1 rfl (Z3 ?_))))))
 refine Zd (ι:={k:Nat // k≤pl.length∧daysErr ((b.bins.length:Int)) b.gangs (lls pl)=daysErr ((b.bins.length:Int)) b.gangs ((lls pl).drop k)}) (fun k=>⟨[(2,.pointer (some ⟨b2,0,none⟩)),(11,.slice ap pl.length cp),(12,.int .i64 pl.length),(13,.int .i64 k.1)],(b2,cel 33 (btl b (b.sl ab cb)))::H,R⟩) (fun k=>pl.length-k.1) ⟨0,Nat.zero_le _,rfl⟩ ?_ (fun k=>?_)
 exact Zj idH
 obtain ⟨k,hk,hke⟩:=k
 dsimp only at hk hke ⊢
 refine sqt 1 rfl (pur 1 rfl (Z0 ?_))
 refine Z2 rfl ?_ ?_<;>intro hc1<;>try simp only [cS] at hc1
 obtain ⟨x,hx⟩:∃ x,pl[k]?=some x:=⟨_,List.getElem?_eq_getElem (by omega)⟩
 have hxm:=List.mem_of_getElem? hx
 have hxl:=hpi x hxm
 rw [Z6j (lls_get hx)] at hke
 refine Zi (a:=ap) (sz:=1) (rows:=plrows pl) (ne0 (by rw [plrows_len];omega)) (fun ba oa he=>?_)
 subst he
 refine Sy.heap (fun w h=>St.inn (x:=x) h hxm) ?_
 refine Z1 (Z0 (Z3 (sqt 3 rfl (sp rfl (PE.indexAddr ZcB rfl rfl (by omega) (by omega)) rfl (spL rfl rfl (lf0 Z26 (pl_get hx) rfl) rfl (pur 1 rfl (Z0 (sqt 5 rfl (pur 1 rfl (spL rfl rfl (lhA (btl b (b.sl ab cb)) Z1r rfl rfl rfl) rfl (sp rfl (PE.makeFunc rfl rfl) rfl ?_)))))))))))
 refine clV rfl Zdt rfl rfl (Z0l x.l x.a x.c 162 [b.v (b.sl ab cb)] [] (fun k=>inB k 0 (((b.bins.length:Int))-1)) ZgT hxl _ _ (fun _ y _=>Z58 b ab cb y hl _ _)) ?_
 refine pur 1 rfl ?_
 refine Z2 rfl ?_ ?_<;>intro hc2
 have ed:dayErr ((b.bins.length:Int)) b.gangs x.l=1:=by unfold dayErr;rw [hc2];rfl
 rw [ed] at hke
 have e2:daysErr ((b.bins.length:Int)) b.gangs (lls pl)=1:=hke
 refine sqt 1 rfl (pur 1 rfl (Z4 ?_))
 exact rtA rfl rfl rfl ⟨by first | (rw [e,e2];rfl) | (rw [e];rfl),rfl,rfl⟩ (fun w h=>by first | exact St.sub (h.del b2) | skip)
 refine Z1 (Z0 (sqt 1 rfl (pur 1 rfl (Z3 ?_))))
 refine Zd (ι:={i:Nat // 1≤i∧i≤x.l.length+1∧∀ j u v,j+1<i→x.l[j]?=some u→x.l[j+1]?=some v→u<v}) (fun i=>⟨[(2,.pointer (some ⟨b2,0,none⟩)),(11,.slice (some ⟨ba,oa,none⟩) pl.length cp),(12,.int .i64 pl.length),(13,.int .i64 k),(6,.slice x.a x.l.length x.c),(7,.int .i64 i.1)],(b2,cel 33 (btl b (b.sl ab cb)))::H,RowsA x.a 1 (irows x.l)::R⟩) (fun i=>x.l.length+1-i.1) ⟨1,Nat.le_refl _,by omega,fun j u v hj=>by omega⟩ ?_ (fun i=>?_)
 exact Zj idH
 obtain ⟨i,hi1,hi2,his⟩:=i
 dsimp only at hi1 hi2 his ⊢
 refine Z0 (sqt 4 rfl (pur 2 rfl (sp rfl (PE.lenSl ZD rfl) rfl (pur 1 rfl ?_))))
 refine Z2 rfl ?_ ?_<;>intro hc3<;>try simp only [cS] at hc3
 obtain ⟨u,hu⟩:∃ u,x.l[i-1]?=some u:=⟨_,List.getElem?_eq_getElem (by omega)⟩
 obtain ⟨v,hv⟩:∃ v,x.l[i]?=some v:=⟨_,List.getElem?_eq_getElem (by omega)⟩
 have hv':x.l[i-1+1]?=some v:=by rw [Nat.sub_add_cancel hi1];exact hv
 refine Zi (a:=x.a) (sz:=1) (rows:=irows x.l) (ne0 (by rw [Zu];omega)) (fun bx ox he=>?_)
 rw [he]
 refine Z1 (Z0 (Z3 (Z0 ?_)))
 refine Zb [0,0,3,7,0,0,32,112,240,511] (tks 0 3 (.ld 3 (tks 4 4 (.ld 8 (.tk 9 .done))))) Zo (by kernel_rfl) ?_
 refine Zl 2 rfl (tk rfl (PE.indexAddr Z1q rfl rfl (by omega) (by omega)) rfl (ld rfl rfl (lf0 sc3 (ir_get hv) rfl) rfl (Zl 2 rfl (tk rfl (PE.sub rfl rfl (by omega)) rfl (tk rfl (PE.indexAddr Z1q rfl rfl (by omega) (by omega)) rfl (ld rfl rfl (lf0 (row:=[.int .i64 u]) sc3 (by rw [show ((i:Int)-1).toNat=i-1 by omega];exact ir_get hu) rfl) rfl (Zl 1 rfl ?_)))))))
 refine Z2 rfl ?_ ?_<;>intro hc4<;>try simp only [cS] at hc4
 have ed:dayErr ((b.bins.length:Int)) b.gangs x.l=4:=by unfold dayErr;rw [hc2,Zbz hu hv' hc4];rfl
 rw [ed] at hke
 have e2:daysErr ((b.bins.length:Int)) b.gangs (lls pl)=4:=hke
 refine sqt 1 rfl (pur 1 rfl (Z4 ?_))
 exact rtA rfl rfl rfl ⟨by first | (rw [e,e2];rfl) | (rw [e];rfl),rfl,rfl⟩ (fun w h=>by first | exact St.sub (h.del b2) | skip)
 refine Z1 (sqr 3 rfl (pur 1 rfl (sp rfl (PE.add rfl rfl (by omega)) rfl (pur 1 rfl ?_))))
 exact Zx ⟨i+1,by omega,by omega,fun j u' v' hj hu' hv2=>by
   rcases Nat.lt_or_ge (j+1) i with h1 | h1
   · exact his j u' v' h1 hu' hv2
   · obtain rfl:j=i-1:=by omega
     rw [hu] at hu';rw [hv'] at hv2;cases hu';cases hv2;exact hc4⟩ (by dsimp only;omega) sbA idH
 have hsi:sinc x.l=true:=sinc_yes fun j u v hu hv=>his j u v (by have:=(List.getElem?_eq_some_iff.1 hv).1;omega) hu hv
 refine Z7 (Z9 (Z9 (Zk (sqt 5 rfl (pur 1 rfl (sp rfl (PE.lenSl ZD rfl) rfl (sp rfl (PE.fA Z46 rfl) rfl (spL rfl rfl (lh sc3 rfl rfl) rfl (pur 1 rfl ?_)))))))))
 refine Z2 rfl ?_ ?_<;>intro hc5<;>try simp only [cS] at hc5
 have ed:dayErr ((b.bins.length:Int)) b.gangs x.l=9:=by unfold dayErr;rw [hc2,hsi,dT hc5];rfl
 rw [ed] at hke
 have e2:daysErr ((b.bins.length:Int)) b.gangs (lls pl)=9:=hke
 refine sqt 1 rfl (pur 1 rfl (Z4 ?_))
 exact rtA rfl rfl rfl ⟨by first | (rw [e,e2];rfl) | (rw [e];rfl),rfl,rfl⟩ (fun w h=>by first | exact St.sub (h.del b2) | skip)
 have ed:dayErr ((b.bins.length:Int)) b.gangs x.l=0:=by unfold dayErr;rw [hc2,hsi,dF (by omega)];rfl
 rw [ed] at hke
 refine Z1 (sqr 2 rfl (sp rfl (PE.add rfl rfl (by omega)) rfl (pur 1 rfl ?_)))
 exact Zc ⟨k+1,by omega,hke⟩ (fun w h=>h.ftail)
 obtain rfl:k=pl.length:=by omega
 rw [show (lls pl).drop pl.length=[] by rw [List.drop_eq_nil_iff,lls_len];exact Nat.le_refl _] at hke
 have e2:daysErr ((b.bins.length:Int)) b.gangs (lls pl)=0:=hke
 refine Z7 (Z9 (Z9 (Zk (sqt 1 rfl (pur 1 rfl (Z4 ?_))))))
 exact rtA rfl rfl rfl ⟨by first | (rw [e,e2];rfl) | (rw [e];rfl),rfl,rfl⟩ (fun w h=>by first | exact St.sub (h.del b2) | skip)
theorem Z7d:cal Tryz.prog 13=true:=by kernel_rfl
theorem Zjv:cal Tryz.prog 40=true:=by kernel_rfl
theorem Zjw:cal Tryz.prog 41=true:=by kernel_rfl
theorem ZjI:cal Tryz.prog 93=true:=by kernel_rfl
theorem ZjJ:cal Tryz.prog 94=true:=by kernel_rfl
def Barn.wd (b:Barn) (x:HBin) (w:Int) (t:Bool):Int:=(bif t then min w b.cool else w)+b.worst x
def hasI (l:List Int) (k:Int):Bool:=l.any fun y=>decide (k=y)
def hb0:HBin:=⟨0,0,0,0⟩
def Barn.wdAt (b:Barn) (ws l:List Int) (k:Nat):Int:=b.wd (b.bins.getD k hb0) (na ws k) (hasI l k)
def Barn.hotAt (b:Barn) (ws l:List Int) (k:Nat):Bool:=decide ((b.bins.getD k hb0).mark<b.wdAt ws l k)
def Barn.dayW (b:Barn) (ws l:List Int):List Int:=(List.range b.bins.length).map (b.wdAt ws l)
def Barn.burnsF (b:Barn):List Int→List (List Int)→Nat→Option (Nat×Nat)×List Int
 | ws,[],_=>(none,ws)
 | ws,l::p,d=>match (List.range b.bins.length).find? (b.hotAt ws l) with
   | some k=>(some (d,k),ws)
   | none=>b.burnsF (b.dayW ws l) p (d+1)
def Barn.warms (b:Barn):List Int:=b.bins.map (·.warm)
structure Cool (b:Barn) (ws:List Int):Prop where
 len:ws.length=b.bins.length
 at_:∀ k x,b.bins[k]?=some x→0≤na ws k∧na ws k≤x.mark
theorem Barn.dayW_len (b:Barn) (ws l:List Int):(b.dayW ws l).length=b.bins.length:=by simp [Barn.dayW]
theorem Barn.dayW_at {b:Barn} {ws l:List Int} {k:Nat} (hk:k<b.bins.length):(b.dayW ws l)[k]?=some (b.wdAt ws l k):=by unfold Barn.dayW;rw [List.getElem?_map,List.getElem?_range hk];rfl
theorem Z01 {b:Barn} {k:Nat} {x:HBin} (hx:b.bins[k]?=some x):b.bins.getD k hb0=x:=by rw [List.getD_eq_getElem?_getD,hx];rfl
theorem Barn.wdAt_of {b:Barn} {ws l:List Int} {k:Nat} {x:HBin} (hx:b.bins[k]?=some x):b.wdAt ws l k=b.wd x (na ws k) (hasI l k):=by unfold Barn.wdAt;rw [Z01 hx]
theorem Cool.start {b:Barn} (hb:b.ok):Cool b b.warms where
 len:=List.length_map _
 at_ k x hx:=by
   have h:=(hb.bins x (List.mem_of_getElem? hx)).2.1
   have e:na b.warms k=x.warm:=by unfold na Barn.warms;rw [List.getD_eq_getElem?_getD,List.getElem?_map,hx];rfl
   rw [e];exact h
theorem Barn.find_no {b:Barn} {ws l:List Int} (h:∀ k<b.bins.length,b.hotAt ws l k=false):(List.range b.bins.length).find? (b.hotAt ws l)=none:=by
 rw [List.find?_eq_none];intro k hk;simp [h k (List.mem_range.1 hk)]
theorem Z95 {n k:Nat} {p:Nat→Bool} (hk:k<n) (hp:p k=true) (hn:∀ j<k,p j=false):(List.range n).find? p=some k:=by
 rw [List.find?_range_eq_some]
 exact ⟨hp,List.mem_range.2 hk,fun j hj=>by simp [hn j hj]⟩
theorem Cool.next {b:Barn} (hb:b.ok) {ws l:List Int} (h:Cool b ws) (hn:∀ k<b.bins.length,b.hotAt ws l k=false):Cool b (b.dayW ws l) where
 len:=b.dayW_len _ _
 at_ k x hx:=by
   have hk:=(List.getElem?_eq_some_iff.1 hx).1
   have e:na (b.dayW ws l) k=b.wdAt ws l k:=Z2f (b.dayW_at hk)
   have h1:=of_decide_eq_false (hn k hk)
   rw [Z01 hx] at h1
   have h2:=h.at_ k x hx
   have h3:=b.worst_range hb (List.mem_of_getElem? hx)
   have h4:=hb.cool
   rw [e]
   refine ⟨?_,by omega⟩
   rw [b.wdAt_of hx]
   unfold Barn.wd
   cases hasI l k<;>simp only [cond_true,cond_false]<;>omega
theorem Barn.burns_drop {b:Barn} {ws:List Int} {p:List (List Int)} {d:Nat} {l:List Int} (h:p[d]?=some l):b.burnsF ws (p.drop d) d=match (List.range b.bins.length).find? (b.hotAt ws l) with
   | some k=>(some (d,k),ws)
   | none=>b.burnsF (b.dayW ws l) (p.drop (d+1)) (d+1):=by
 rw [show p.drop d=l::p.drop (d+1) by rw [List.drop_eq_getElem_cons (List.getElem?_eq_some_iff.1 h).1,(List.getElem?_eq_some_iff.1 h).2]]
 rfl
theorem Zde {l:List Int} {junk:List Value} {k i:Nat} {v:Int} (hk:k<l.length) (e:i=k):spl (Za l++junk) i [.int .i64 v]=Za (l.set k v)++junk:=by
 subst e
 rw [Z4q (by rw [List.length_append,Z6];omega),List.set_append_left _ _ (by rw [Z6];exact hk),Z2x]
theorem Z5t {l:List Int} {junk:List Value} {k i:Nat} {v:Int} (h:l[k]?=some v) (e:i=k):(Za l++junk)[i]?=some (.int .i64 v):=by
 subst e
 rw [List.getElem?_append_left (by rw [Z6];exact (List.getElem?_eq_some_iff.1 h).1)]
 exact Z0z h
def Zgb (b:Barn) (p:List (List Int)) (H:Z8) (R:Z5):Value→Z8→Z5→Prop:=fun v H' R'=>R'=R ∧
 ((∃ ws,∃ o:OSl 3 1 (irows ws),b.burnsF b.warms p 0=(none,ws)∧Cool b ws∧v = .tuple #[.int .i64 0,.int .i64 0,o.fs,.bool false]∧H'=o.G++H) ∨
  (∃ (d k:Nat) (ws:List Int) (ws2:List Int) (o:OSl 3 1 (irows ws2)),b.burnsF b.warms p 0=(some (d,k),ws)∧d<p.length∧k<b.bins.length∧v = .tuple #[.int .i64 d,.int .i64 k,o.fs,.bool true]∧H'=o.G++H))
def Barn.planned (b:Barn) (p:List (List Int)):Int:=bif decide (b.check=0) then planErr b.bins.length b.gangs p else b.check
theorem Z3V (b:Barn) (ab:Option Addr) (cb:Nat) (hl:b.bins.length≤9223372036854775807) (hr:b.rise.length=6) (pl:List PL) (ap:Option Addr) (cp:Nat) (hpl:pl.length≤9223372036854775807) (hpi:∀ x∈pl,x.l.length≤9223372036854775807) (H:Z8) (R:Z5) [hB:MemRows ab 4 (brows b.bins) R] [hP:MemRows ap 1 (plrows pl) R] [hI:MemF (Inn pl) R] :
    FnV Tryz.prog 40 [b.v (b.sl ab cb),.slice ap pl.length cp] H R (.int .i64 (b.planned (lls pl))):=by
 refine Ze Tryz.func40 rfl Tryz.ntmps40 rfl ?_
 refine sqt 2 rfl (bx rfl rfl rfl (fun b2=>pur 1 rfl (Z0 (sqt 3 rfl (spL rfl rfl (lhA (btl b (b.sl ab cb)) Z1r rfl rfl rfl) rfl ?_)))))
 refine clV rfl ZhC rfl rfl (Z2Z b ab cb hl hr _ _) ?_
 refine pur 1 rfl (sqt 2 rfl (pur 2 rfl ?_))
 refine Z2 rfl ?_ ?_<;>intro hc0<;>try simp only [cS] at hc0
 refine sqt 2 rfl (pur 2 rfl (Z4 ?_))
 exact rtA rfl rfl rfl ⟨by unfold Barn.planned;rw [dF hc0];rfl,rfl,rfl⟩ drp
 have hck:b.check=0:=by omega
 refine Z1 (sqt 4 rfl (spL rfl rfl (lhA (btl b (b.sl ab cb)) Z1r rfl rfl rfl) rfl (pur 1 rfl ?_)))
 refine clV rfl ZjI rfl rfl (Z7Y b ab cb hl pl ap cp hpl hpi _ _) ?_
 refine pur 1 rfl (Z4 ?_)
 exact rtA rfl rfl rfl ⟨by unfold Barn.planned;rw [dT hck];rfl,rfl,rfl⟩ drp
theorem ZeK (b:Barn) (ab:Option Addr) (cb:Nat) (hok:b.ok) (pl:List PL) (ap:Option Addr) (cp:Nat) (hpl:pl.length≤9223372036854775807) (hpi:∀ x∈pl,x.l.length≤9223372036854775807) (H:Z8) (R:Z5) [hB:MemRows ab 4 (brows b.bins) R] [hP:MemRows ap 1 (plrows pl) R] [hI:MemF (Inn pl) R] :
    Fn Tryz.prog 41 [b.v (b.sl ab cb),.slice ap pl.length cp] H R (Zgb b (lls pl) H R):=by
 have hmn:=hok.many
 refine Ze Tryz.func41 rfl Tryz.ntmps41 rfl ?_
 refine sqt 5 rfl (bx rfl rfl rfl (fun b2=>pur 4 rfl (Z5S (Z0 (sqt 4 rfl (sp rfl (PE.fA ZJ rfl) rfl (spL rfl rfl (lh Z2X rfl rfl) rfl (sp rfl (PE.lenSl Z1a rfl) rfl (pur 1 rfl (Z3 ?_))))))))))
 refine Zd (ι:=(k:{k:Nat // k≤b.bins.length})×OSl 3 1 (irows ((b.bins.take k.1).map (·.warm)))) (fun x=>⟨[(1,.slice ap pl.length cp),(2,.pointer (some ⟨b2,0,none⟩)),(4,.int .i64 0),(5,.int .i64 0),(6,x.2.fs),(7,.bool false),(16,b.sl ab cb),(17,.int .i64 b.bins.length),(18,.int .i64 x.1.1)],x.2.G++(b2,cel 33 (btl b (b.sl ab cb)))::H,R⟩) (fun x=>b.bins.length-x.1.1) ⟨⟨0,by omega⟩,OSl.nil _ _⟩ ?_ (fun x=>?_)
 exact Zj idH
 obtain ⟨⟨k,hk⟩,o⟩:=x
 dsimp only at hk o ⊢
 refine sqt 1 rfl (pur 1 rfl (Z0 ?_))
 refine Z2 rfl ?_ ?_<;>intro hc0<;>try simp only [cS] at hc0
 obtain ⟨x,hx⟩:∃ x,b.bins[k]?=some x:=⟨_,List.getElem?_eq_getElem (by omega)⟩
 refine Zi (a:=ab) (sz:=4) (rows:=brows b.bins) (by intro h0;simp [brows] at h0;simp [h0] at hx) (fun ba oa he=>?_)
 subst he
 refine Z1 (Z0 (Z3 (sqt 4 rfl (sp rfl (PE.indexAddr ZbZ rfl rfl (by omega) (by omega)) rfl (spL rfl rfl (lfA Zc5 (row:=brow x) (br_get hx) rfl) rfl (alc rfl Z9q rfl (fun b9=>?_)))))))
 refine sto rfl rfl rfl Zg6 rfl rfl rfl rfl ?_
 refine sqr 6 rfl (pur 1 rfl (sp rfl (PE.fA Z4Q rfl) rfl (spL rfl rfl (lh sc3 rfl rfl) rfl ?_)))
 refine bsl (out:=[_]) rfl Z18 zl3 rfl rfl rfl rfl rfl rfl (fun b25=>?_)
 refine apO (o) rfl Z62 rfl rfl (Z0B (row:=[.int .i64 x.warm]) rfl) rfl rfl ((by rw [Zu,List.length_map,List.length_take];simp only [List.length_singleton];omega)) rfl (fun o26=>?_)
 refine pur 1 rfl (sqr 2 rfl (sp rfl (PE.add rfl rfl (by omega)) rfl (pur 1 rfl ?_)))
 exact Zc ⟨⟨k+1,by omega⟩,o26.cast (by rw [Z0u hx,List.map_append];simp [irows])⟩ (fun w h=>(h.del b25).del b9)
 obtain rfl:k=b.bins.length:=by omega
 obtain ⟨p,hpf,hpg⟩:∃ o':OSl 3 1 (irows b.warms),o'.fs=o.fs∧o'.G=o.G:=⟨o.cast (by rw [List.take_length];rfl),rfl,rfl⟩
 have hwm:b.warms.length=b.bins.length:=List.length_map _
 obtain ⟨bw,cap,junk,hfs,hGG,hjk,hcap,hmx⟩:=p.is.resolve_left (fun h=>by have:=congrArg List.length h.1;rw [Zu] at this;simp only [List.length_nil] at this;omega)
 rw [Zu,hwm] at hfs hjk hcap
 rw [Z02] at hGG
 rw [← hpf,hfs]
 refine Sy.heap (H':=(bw,cel 3 (Za b.warms++junk))::(b2,cel 33 (btl b (b.sl ab cb)))::H) (fun w h=>by rw [← hpg,hGG] at h;exact h) ?_
 clear hfs hGG hpf hpg
 refine Z7 (Z9 (Z9 (Zk (Z0 (Z5R (Z0 (sqt 3 rfl (pur 1 rfl (sp rfl (PE.lenSl Z4a rfl) rfl (pur 1 rfl (Z3 ?_)))))))))))
 refine Zd (ι:={x:Nat×List Int // x.1≤pl.length∧Cool b x.2∧b.burnsF b.warms (lls pl) 0=b.burnsF x.2 ((lls pl).drop x.1) x.1}) (fun x=>⟨[(1,.slice ap pl.length cp),(2,.pointer (some ⟨b2,0,none⟩)),(4,.int .i64 0),(5,.int .i64 0),(6,.slice (some ⟨bw,0,none⟩) b.bins.length cap),(7,.bool false),(28,.slice ap pl.length cp),(29,.int .i64 pl.length),(30,.int .i64 x.1.1)],(bw,cel 3 (Za x.1.2++junk))::(b2,cel 33 (btl b (b.sl ab cb)))::H,R⟩) (fun x=>pl.length-x.1.1) ⟨(0,b.warms),Nat.zero_le _,Cool.start hok,rfl⟩ ?_ (fun x=>?_)
 exact Zj idH
 obtain ⟨⟨d,ws⟩,hd,hcw,hbe⟩:=x
 dsimp only at hd hcw hbe ⊢
 have hwl:=hcw.len
 refine sqt 1 rfl (pur 1 rfl (Z0 ?_))
 refine Z2 rfl ?_ ?_<;>intro hc1<;>try simp only [cS] at hc1
 obtain ⟨x,hx⟩:∃ x,pl[d]?=some x:=⟨_,List.getElem?_eq_getElem (by omega)⟩
 have hxm:=List.mem_of_getElem? hx
 have hxl:=hpi x hxm
 rw [b.burns_drop (lls_get hx)] at hbe
 refine Zi (a:=ap) (sz:=1) (rows:=plrows pl) (ne0 (by rw [plrows_len];omega)) (fun bp op he=>?_)
 subst he
 refine Sy.heap (fun w h=>St.inn (x:=x) h hxm) ?_
 have hdl:=b.dayW_len ws x.l
 refine Z1 (Z0 (Z3 (sqt 5 rfl (pur 1 rfl (sp rfl (PE.indexAddr ZcB rfl rfl (by omega) (by omega)) rfl (spL rfl rfl (lf0 Z26 (pl_get hx) rfl) rfl (pur 2 rfl (sqt 4 rfl (sp rfl (PE.fA ZJ rfl) rfl (spL rfl rfl (lh Z2X rfl rfl) rfl (sp rfl (PE.lenSl Z1a rfl) rfl (pur 1 rfl (Z3 ?_)))))))))))))
 refine Zd (ι:={k:Nat // k≤b.bins.length∧∀ j<k,b.hotAt ws x.l j=false}) (fun k=>⟨[(1,.slice (some ⟨bp,op,none⟩) pl.length cp),(2,.pointer (some ⟨b2,0,none⟩)),(4,.int .i64 0),(5,.int .i64 0),(6,.slice (some ⟨bw,0,none⟩) b.bins.length cap),(7,.bool false),(28,.slice (some ⟨bp,op,none⟩) pl.length cp),(29,.int .i64 pl.length),(30,.int .i64 d),(10,.int .i64 d),(11,.slice x.a x.l.length x.c),(36,b.sl ab cb),(37,.int .i64 b.bins.length),(38,.int .i64 k.1)],(bw,cel 3 (Za ((b.dayW ws x.l).take k.1++ws.drop k.1)++junk))::(b2,cel 33 (btl b (b.sl ab cb)))::H,RowsA x.a 1 (irows x.l)::R⟩) (fun k=>b.bins.length-k.1) ⟨0,by omega,by omega⟩ ?_ (fun k=>?_)
 exact Zj idH
 obtain ⟨k,hk,hno⟩:=k
 dsimp only at hk hno ⊢
 have hml:((b.dayW ws x.l).take k++ws.drop k).length=b.bins.length:=by rw [Z8S (by omega) (by omega)];exact hwl
 refine sqt 1 rfl (pur 1 rfl (Z0 ?_))
 refine Z2 rfl ?_ ?_<;>intro hc2<;>try simp only [cS] at hc2
 obtain ⟨y,hy⟩:∃ y,b.bins[k]?=some y:=⟨_,List.getElem?_eq_getElem (by omega)⟩
 have hym:=List.mem_of_getElem? hy
 have hyb:=hok.bins y hym
 have hyw:=b.worst_range hok hym
 have hyc:=hcw.at_ k y hy
 have hcl:=hok.cool
 have hmg:((b.dayW ws x.l).take k++ws.drop k)[k]?=some (na ws k):=ZiA (by omega) (na_get (by omega))
 have hwa:=b.wdAt_of (ws:=ws) (l:=x.l) hy
 refine Zi (a:=ab) (sz:=4) (rows:=brows b.bins) (by intro h0;simp [brows] at h0;simp [h0] at hy) (fun ba oa he=>?_)
 subst he
 refine Z1 (Z0 (Z3 (sqt 6 rfl (pur 1 rfl (sp rfl (PE.indexAddr ZbZ rfl rfl (by omega) (by omega)) rfl (spL rfl rfl (lfA Zc5 (row:=brow y) (br_get hy) rfl) rfl (alc rfl Z9q rfl (fun b13=>pur 1 rfl ?_))))))))
 refine sto rfl rfl rfl Zg6 rfl rfl rfl rfl ?_
 refine Z0 ?_
 refine Zb [0,0,0,6,14,0,0,96,0,0,992,2047,4095] (.ld 0 (tks 1 3 (.ld 4 (.ld 5 (.tk 6 (.tk 8 (.tk 9 (.big 7 (.big 10 (.big 11 (.tk 12 .done))))))))))) Zo (by kernel_rfl) ?_
 refine ld rfl rfl (lhA (btl b (b.sl (some ⟨ba,oa,none⟩) cb)) Z1r rfl rfl rfl) rfl (Zl 2 rfl (tk rfl (PE.indexAddr Z1q rfl rfl (by omega) (by omega)) rfl (ld rfl rfl (lh sc3 rfl (Z5t hmg (by show 0+((k:Nat):Int).toNat*1=_;omega))) rfl (ld rfl rfl (lhA (btl b (b.sl (some ⟨ba,oa,none⟩) cb)) Z1r rfl rfl rfl) rfl (Zl 3 rfl ?_)))))
 refine clV rfl ZeS rfl rfl (Z7c b (some ⟨ba,oa,none⟩) cb k y hy hyb.2.2.2 _ _) ?_
 refine bg (fun w hs=>⟨trivial,(lh sc3 rfl (Z5t hmg (by show 0+((k:Nat):Int).toNat*1=_;omega))) w hs,(lhA (btl b (b.sl (some ⟨ba,oa,none⟩) cb)) Z1r rfl rfl rfl) w hs,trivial⟩) ?_
 refine clV rfl Z7d rfl rfl (c_contains_int x.l x.a x.c k hxl _ _) ?_
 refine bg (fun w hs=>⟨(lh sc3 rfl (Z5t hmg (by show 0+((k:Nat):Int).toNat*1=_;omega))) w hs,(lhA (btl b (b.sl (some ⟨ba,oa,none⟩) cb)) Z1r rfl rfl rfl) w hs,trivial⟩) ?_
 refine clV rfl ZjJ rfl rfl (Zcp b (some ⟨ba,oa,none⟩) cb (na ws k) (b.worst y) (hasI x.l k) (by omega) (by omega) (by omega) _ _) ?_
 refine bgT (Zl 1 rfl (Z0 (sqt 4 rfl ?_)))
 rw [show ((bif hasI x.l k then min (na ws k) b.cool else na ws k)+b.worst y)=b.wdAt ws x.l k from hwa.symm]
 refine pur 1 rfl (sp rfl (PE.fA Z3l rfl) rfl (spL rfl rfl (lh sc3 rfl rfl) rfl (pur 1 rfl ?_)))
 refine Z2 rfl ?_ ?_<;>intro hc3<;>try simp only [cS] at hc3
 have hh:b.hotAt ws x.l k=true:=by unfold Barn.hotAt;rw [Z01 hy];exact dT hc3
 rw [Z95 (by omega) hh hno] at hbe
 refine sqt 5 rfl (pur 5 rfl (Z7 (Z9 (ZX (by decide) (Z9 (Z9 (ZX (by decide) (ZX (by decide) (Z9 (Z9 (Zk (sqt 8 rfl (pur 8 rfl (Z4 ?_))))))))))))))
 first
   | exact Zg (vs:=[_,_,_,_]) rfl (.cons (RV.tmp rfl) (.cons (RV.tmp rfl) (.cons (RV.tmp rfl) (.cons (RV.tmp rfl) .nil)))) rfl ⟨rfl,.inl ⟨ws,(⟨.slice (some ⟨bw,0,none⟩) b.bins.length cap,[(bw,cel 3 (Za ws++junk))],by intro r hr;simp only [List.mem_map] at hr;obtain ⟨z,_,rfl⟩:=hr;rfl,.inr ⟨bw,cap,junk,by rw [Zu,hwl],by rw [Z02],by rw [Zu,hwl];exact hjk,by rw [Zu,hwl];exact hcap,hmx⟩⟩:OSl 3 1 (irows ws)),e2,hcw,rfl,rfl⟩⟩ (fun w h=>h.del b2)
   | exact Zg (vs:=[_,_,_,_]) rfl (.cons (RV.tmp rfl) (.cons (RV.tmp rfl) (.cons (RV.tmp rfl) (.cons (RV.tmp rfl) .nil)))) rfl ⟨rfl,.inr ⟨d,k,ws,((b.dayW ws x.l).take k++ws.drop k),(⟨.slice (some ⟨bw,0,none⟩) b.bins.length cap,[(bw,cel 3 (Za ((b.dayW ws x.l).take k++ws.drop k)++junk))],by intro r hr;simp only [List.mem_map] at hr;obtain ⟨z,_,rfl⟩:=hr;rfl,.inr ⟨bw,cap,junk,by rw [Zu,hml],by rw [Z02],by rw [Zu,hml];exact hjk,by rw [Zu,hml];exact hcap,hmx⟩⟩:OSl 3 1 (irows ((b.dayW ws x.l).take k++ws.drop k))),hbe,by rw [lls_len];omega,by omega,rfl,rfl⟩⟩ (fun w h=>((h.del b13).del b2).ftail)
 have hh:b.hotAt ws x.l k=false:=by unfold Barn.hotAt;rw [Z01 hy];exact dF (by omega)
 refine Z1 (sqr 5 rfl (pur 3 rfl (sp rfl (PE.indexAddr Z1q rfl rfl (by omega) (by omega)) rfl ?_)))
 refine ZH (l':=Za ((b.dayW ws x.l).take (k+1)++ws.drop (k+1))++junk) rfl rfl rfl cn3 rfl rfl rfl ((Zde (k:=k) (by omega) (by show 0+((k:Nat):Int).toNat*1=_;omega)).trans (by rw [Z5K (by omega) (b.dayW_at (by omega))])) (by rw [List.length_append,Z6,hml];show 0+((k:Nat):Int).toNat*1+1≤_;omega) ?_
 refine sqr 2 rfl (sp rfl (PE.add rfl rfl (by omega)) rfl (pur 1 rfl ?_))
 exact Zx ⟨k+1,by omega,fun j hj=>by
   rcases Nat.lt_or_ge j k with h1 | h1
   · exact hno j h1
   · obtain rfl:j=k:=by omega
     exact hh⟩ (by dsimp only;omega) sbA (fun w h=>h.del b13)
 obtain rfl:k=b.bins.length:=by omega
 rw [show ((b.dayW ws x.l).take b.bins.length++ws.drop b.bins.length)=b.dayW ws x.l by rw [List.drop_eq_nil_of_le (by omega),List.append_nil,List.take_of_length_le (by omega)]]
 rw [b.find_no hno] at hbe
 have hcn:=hcw.next hok hno
 refine Z7 (Z9 (Z9 (Zk (sqr 2 rfl (sp rfl (PE.add rfl rfl (by omega)) rfl (pur 1 rfl ?_))))))
 exact Zc ⟨(d+1,b.dayW ws x.l),by dsimp only;omega,hcn,hbe⟩ (fun w h=>h.ftail)
 obtain rfl:d=pl.length:=by omega
 rw [show (lls pl).drop pl.length=[] by rw [List.drop_eq_nil_iff,lls_len];exact Nat.le_refl _] at hbe
 have e2:b.burnsF b.warms (lls pl) 0=(none,ws):=hbe
 refine Z7 (Z9 (Z9 (Zk (sqt 8 rfl (pur 8 rfl (Z4 ?_))))))
 first
   | exact Zg (vs:=[_,_,_,_]) rfl (.cons (RV.tmp rfl) (.cons (RV.tmp rfl) (.cons (RV.tmp rfl) (.cons (RV.tmp rfl) .nil)))) rfl ⟨rfl,.inl ⟨ws,(⟨.slice (some ⟨bw,0,none⟩) b.bins.length cap,[(bw,cel 3 (Za ws++junk))],by intro r hr;simp only [List.mem_map] at hr;obtain ⟨z,_,rfl⟩:=hr;rfl,.inr ⟨bw,cap,junk,by rw [Zu,hwl],by rw [Z02],by rw [Zu,hwl];exact hjk,by rw [Zu,hwl];exact hcap,hmx⟩⟩:OSl 3 1 (irows ws)),e2,hcw,rfl,rfl⟩⟩ (fun w h=>h.del b2)
   | exact Zg (vs:=[_,_,_,_]) rfl (.cons (RV.tmp rfl) (.cons (RV.tmp rfl) (.cons (RV.tmp rfl) (.cons (RV.tmp rfl) .nil)))) rfl ⟨rfl,.inr ⟨d,k,ws,((b.dayW ws x.l).take k++ws.drop k),(⟨.slice (some ⟨bw,0,none⟩) b.bins.length cap,[(bw,cel 3 (Za ((b.dayW ws x.l).take k++ws.drop k)++junk))],by intro r hr;simp only [List.mem_map] at hr;obtain ⟨z,_,rfl⟩:=hr;rfl,.inr ⟨bw,cap,junk,by rw [Zu,hml],by rw [Z02],by rw [Zu,hml];exact hjk,by rw [Zu,hml];exact hcap,hmx⟩⟩:OSl 3 1 (irows ((b.dayW ws x.l).take k++ws.drop k))),hbe,by rw [lls_len];omega,by omega,rfl,rfl⟩⟩ (fun w h=>((h.del b13).del b2).ftail)
def Barn.keepsV (b:Barn) (p:List (List Int)):Value:=bif decide (b.planned p=0) then .tuple #[.bool (b.burnsF b.warms p 0).1.isNone,.int .i64 0] else .tuple #[.bool false,.int .i64 (b.planned p)]
theorem Z9c {b:Barn} (hr:b.rise.length=6) {p:List (List Int)} (h:b.planned p=0):b.check=0∧b.ok∧planErr b.bins.length b.gangs p=0:=by
 unfold Barn.planned at h
 by_cases h1:b.check=0
 · rw [decide_eq_true h1,cond_true] at h;exact ⟨h1,Barn.ok_of hr h1,h⟩
 · rw [decide_eq_false h1,cond_false] at h;exact absurd h h1
theorem ZeH (b:Barn) (ab:Option Addr) (cb:Nat) (hl:b.bins.length≤9223372036854775807) (hr:b.rise.length=6) (pl:List PL) (ap:Option Addr) (cp:Nat) (hpl:pl.length≤9223372036854775807) (hpi:∀ x∈pl,x.l.length≤9223372036854775807) (H:Z8) (R:Z5) [hB:MemRows ab 4 (brows b.bins) R] [hP:MemRows ap 1 (plrows pl) R] [hI:MemF (Inn pl) R] :
    FnV Tryz.prog 11 [b.v (b.sl ab cb),.slice ap pl.length cp] H R (b.keepsV (lls pl)):=by
 refine Ze Tryz.func11 rfl Tryz.ntmps11 rfl ?_
 refine sqt 3 rfl (bx rfl rfl rfl (fun b2=>pur 2 rfl (Z0 (sqt 4 rfl (spL rfl rfl (lhA (btl b (b.sl ab cb)) Z1r rfl rfl rfl) rfl (pur 1 rfl ?_))))))
 refine clV rfl Zjv rfl rfl (Z3V b ab cb hl hr pl ap cp hpl hpi _ _) ?_
 refine pur 1 rfl (sqt 2 rfl (pur 2 rfl ?_))
 refine Z2 rfl ?_ ?_<;>intro hc0<;>try simp only [cS] at hc0
 refine sqt 3 rfl (pur 3 rfl (Z4 ?_))
 exact rtB rfl rfl rfl rfl ⟨by unfold Barn.keepsV;rw [dF hc0];rfl,rfl,rfl⟩ drp
 have hpz:b.planned (lls pl)=0:=by omega
 obtain ⟨hck,hok,hpe⟩:=Z9c hr hpz
 refine Z1 (sqt 12 rfl (spL rfl rfl (lhA (btl b (b.sl ab cb)) Z1r rfl rfl rfl) rfl (pur 1 rfl ?_)))
 refine cl rfl Zjw rfl rfl (ZeK b ab cb hok pl ap cp hpl hpi _ _) ?_
 rintro _ _ _ ⟨rfl,(⟨ws,o,hbu,hcw,rfl,rfl⟩ | ⟨d,k,ws,ws2,o,hbu,hd,hk,rfl,rfl⟩)⟩
 refine pur 9 rfl (sqt 4 rfl (pur 4 rfl (Z4 ?_)))
 exact rtB rfl rfl rfl rfl ⟨by unfold Barn.keepsV;rw [dT hpz,hbu];rfl,rfl,rfl⟩ (fun w h=>(St.drop h).del b2)
 refine pur 9 rfl (sqt 4 rfl (pur 4 rfl (Z4 ?_)))
 exact rtB rfl rfl rfl rfl ⟨by unfold Barn.keepsV;rw [dT hpz,hbu];rfl,rfl,rfl⟩ (fun w h=>(St.drop h).del b2)
theorem Z9J (l:List HBin):(brows l).length=l.length:=List.length_map _
theorem ZeF (l:List HBin):∀ q∈brows l,q.length=4:=fun q hq=>by obtain ⟨x,_,rfl⟩:=List.mem_map.1 hq;rfl
theorem Z2O {p q s vs:List Value} (h:q.length=vs.length):spl (p++(q++s)) p.length vs=p++(vs++s):=by
 unfold spl
 rw [List.take_left,show p.length+vs.length=(p++q).length by simp [h],← List.append_assoc p q s,List.drop_left,List.append_assoc]
theorem Z87 {α:Type} {xs:List α} {i:Nat} (hi:i<xs.length):∃ A y B,xs=A++y::B∧i=A.length:=⟨xs.take i,xs[i],xs.drop (i+1),by rw [← List.drop_eq_getElem_cons hi,List.take_append_drop],by rw [List.length_take];omega⟩
theorem Z9I (A B:List HBin):brows (A++B)=brows A++brows B:=by simp [brows]
def ZiI:Barn:=⟨0,0,[0,0,0,0,0,0],[]⟩
def wst (c r k:Int):Int→List (List Int)→Int
 | w,[]=>w
 | w,l::p=>wst c r k ((bif hasI l k then min w c else w)+r) p
theorem ZbS (c r k:Int):∀ (p q:List (List Int)) (w:Int),wst c r k w (p++q)=wst c r k (wst c r k w p) q
 | [],_,_=>rfl
 | l::p,q,w=>ZbS c r k p q _
theorem Zdg (c r k w:Int) (p:List (List Int)) (l:List Int):wst c r k w (p++[l])=(bif hasI l k then min (wst c r k w p) c else wst c r k w p)+r:=by rw [ZbS];rfl
theorem wst_bd {c r k:Int} (hc:0≤c∧c≤60) (hr:0≤r∧r≤20):∀ (p:List (List Int)) (w:Int),0≤w→0≤wst c r k w p∧wst c r k w p≤w+20*p.length
 | [],w,h=>⟨h,by simp [wst]⟩
 | l::p,w,h=>by
   have h0:0≤(bif hasI l k then min w c else w)+r∧(bif hasI l k then min w c else w)+r≤w+20:=by
     cases hasI l k<;>simp only [cond_true,cond_false]<;>omega
   have:=wst_bd (k:=k) hc hr p _ h0.1
   unfold wst
   rw [List.length_cons]
   push_cast
   omega
theorem Barn.burns_cons {b:Barn} (l:List Int) (p:List (List Int)) (ws:List Int) (d:Nat):b.burnsF ws (l::p) d=match (List.range b.bins.length).find? (b.hotAt ws l) with
 | some k=>(some (d,k),ws)
 | none=>b.burnsF (b.dayW ws l) p (d+1):=rfl
theorem Barn.burns_app {b:Barn}:∀ (p q:List (List Int)) (ws:List Int) (d:Nat),b.burnsF ws (p++q) d=match b.burnsF ws p d with
   | (some x,w)=>(some x,w)
   | (none,w)=>b.burnsF w q (d+p.length)
 | [],q,ws,d=>rfl
 | l::p,q,ws,d=>by
   rw [List.cons_append,b.burns_cons,b.burns_cons]
   cases (List.range b.bins.length).find? (b.hotAt ws l) with
   | some k=>rfl
   | none =>
     dsimp only
     rw [burns_app p q _ (d+1),List.length_cons,show d+1+p.length=d+(p.length+1) by omega]
def rep (n:Nat) (p:List (List Int)):List (List Int):=(List.replicate n p).flatten
def Barn.goes (b:Barn) (p q:List (List Int)):Prop:=∀ n,(b.burnsF b.warms (p++rep n q) 0).1=none
def Z47 (b:Barn) (p q:List (List Int)):Int:=bif decide (b.planned p=0) then (bif decide (planErr b.bins.length b.gangs q=0) then (bif decide (q.length=0) then 6 else 0) else planErr b.bins.length b.gangs q) else b.planned p
def Zj5 (b:Barn) (p q:List (List Int)):Value→Prop:=fun v=>(Z47 b p q≠0∧v = .tuple #[.bool false,.int .i64 (Z47 b p q)])∨(Z47 b p q=0∧∃ is:Bool,(is=true↔b.goes p q)∧v = .tuple #[.bool is,.int .i64 0])
theorem Z83 {b:Barn} (hb:b.ok) (hg:b.gangs≤3):b.check=0:=by
 unfold Barn.check
 have h1:inB b.bins.length 1 4=true:=by have:=hb.many;simp [inB];omega
 have h2:inB b.cool 0 60=true:=by have:=hb.cool;simp [inB];omega
 have h3:inB b.gangs 0 3=true:=by have:=hb.gangs;simp [inB];omega
 have h4:b.rise.all Z24=true:=List.all_eq_true.2 fun n hn=>by have:=hb.rise n hn;simp [Z24,inB];omega
 have h5:b.bins.all HBin.ok=true:=List.all_eq_true.2 fun x hx=>by have:=hb.bins x hx;simp [HBin.ok,inB];omega
 have h6:(b.bins.all fun x=>decide (x.lo≤x.hi))=true:=List.all_eq_true.2 fun x hx=>by simpa using hb.ord x hx
 rw [h1,h2,h3,h4,h5,h6,hb.srt];rfl
theorem Z9K {b:Barn} {ws:List Int} {p q:List (List Int)} {d:Nat} (h:(b.burnsF ws (p++q) d).1=none):(b.burnsF ws p d).1=none:=by
 rw [b.burns_app] at h
 cases h1:b.burnsF ws p d with
 | mk x w=>cases x with
   | none=>rfl
   | some x=>rw [h1] at h;cases h
def Z0D (l:List Nat):Nat:=l.foldl (fun o k=>o|||(1*2 ^ k)) 0
theorem Zbx (l:List Nat) (k:Nat):Z0D (l++[k])=Z0D l|||(1*2 ^ k):=by unfold Z0D;rw [List.foldl_append];rfl
theorem Z8N:∀ (l:List Nat) (o j:Nat),(l.foldl (fun o k=>o|||(1*2 ^ k)) o).testBit j=(o.testBit j||decide (j∈l))
 | [],o,j=>by simp
 | k::l,o,j=>by
   rw [List.foldl_cons,Z8N l,Nat.testBit_or,Nat.one_mul,Nat.testBit_two_pow]
   by_cases h:k=j
   · subst h;simp
   · have h':¬ j=k:=fun e=>h e.symm
     simp [h,h']
theorem Z2N (l:List Nat) (j:Nat):(Z0D l).testBit j=decide (j∈l):=by unfold Z0D;rw [Z8N];simp
theorem Z5J {l:List Nat} {m:Nat} (h:∀ k∈l,k<m):Z0D l<2 ^ m:=by
 apply Nat.lt_pow_two_of_testBit
 intro i hi
 rw [Z2N]
 have:i∉l:=fun hm=>by have:=h i hm;omega
 simpa using this
theorem Z3L {s K:Nat} (h:s<2 ^ K):∀ j,ZL (K+j) s=ZL K s
 | 0=>rfl
 | j+1=>by
   rw [show K+(j+1)=(K+j)+1 from rfl,Z3M,Z3L h j,Nat.testBit_lt_two_pow (Nat.lt_of_lt_of_le h (Nat.pow_le_pow_right (by decide) (by omega)))]
   exact List.append_nil _
theorem Z67 {s K n:Nat} (h:s<2 ^ K) (h':s<2 ^ n):ZL K s=ZL n s:=by
 rcases Nat.le_total K n with h1 | h1
 · obtain ⟨j,rfl⟩:∃ j,n=K+j:=⟨n-K,by omega⟩
   exact (Z3L h j).symm
 · obtain ⟨j,rfl⟩:∃ j,K=n+j:=⟨K-n,by omega⟩
   exact Z3L h' j
theorem Z9G {n i:Nat}:ZL n (Z0D (ZL n i))=ZL n i:=by
 unfold ZL
 refine List.filter_congr fun k hk=>?_
 rw [Z2N]
 have hk:=List.mem_range.1 hk
 have:(k∈(List.range n).filter fun k=>i.testBit k)↔i.testBit k=true:=by rw [List.mem_filter,List.mem_range];simp [hk]
 by_cases h:i.testBit k=true
 · rw [h];simpa using this.2 h
 · have h2:i.testBit k=false:=by simpa using h
   rw [h2];simpa using fun hm=>h (this.1 hm)
theorem Za9 (l:List Nat) (hl:∀ k∈l,k<4) (hll:l.length≤1000000) (a:Option Addr) (c:Nat) (H:Z8) (R:Z5) [hL:MemRows a 1 (irows (il l)) R] :
    FnV Tryz.prog 167 [.slice a l.length c] H R (.int .i64 (Z0D l:Nat)):=by
 refine Ze Tryz.func167 rfl Tryz.ntmps167 rfl ?_
 refine sqt 1 rfl (pur 1 rfl (sqt 1 rfl (pur 1 rfl (Z0 (sqt 3 rfl (pur 1 rfl (sp rfl (PE.lenSl ZD rfl) rfl (pur 1 rfl (Z3 ?_)))))))))
 refine Zd (ι:={k:Nat // k≤l.length}) (fun k=>⟨[(3,.int .i64 (Z0D (l.take k.1):Nat)),(6,.slice a l.length c),(7,.int .i64 l.length),(8,.int .i64 k.1)],H,R⟩) (fun k=>l.length-k.1) ⟨0,Nat.zero_le _⟩ ?_ (fun k=>?_)
 exact Zj idH
 obtain ⟨k,hk⟩:=k
 dsimp only at hk ⊢
 refine sqt 1 rfl (pur 1 rfl (Z0 ?_))
 refine Z2 rfl ?_ ?_<;>intro hc0<;>try simp only [cS] at hc0
 obtain ⟨j,hj⟩:∃ j,l[k]?=some j:=⟨_,List.getElem?_eq_getElem (by omega)⟩
 have hj4:=hl j (List.mem_of_getElem? hj)
 have hlt:Z0D (l.take k)<2 ^ 4:=Z5J fun i hi=>hl i (List.mem_of_mem_take hi)
 have hj16:2 ^ j≤8:=Nat.le_trans (Nat.pow_le_pow_right (by decide) (show j≤3 by omega)) (by decide)
 refine Zi (a:=a) (sz:=1) (rows:=irows (il l)) (by intro h0;have:=congrArg List.length h0;rw [Zu,ZaO] at this;simp only [List.length_nil] at this;omega) (fun ba oa he=>?_)
 subst he
 refine Z1 (Z0 (Z3 (sqt 3 rfl (sp rfl (PE.indexAddr Z1q rfl rfl (by omega) (by omega)) rfl (spL rfl rfl (lf0 sc3 (ir_get (x:=(j:Int)) (by simp [il,hj])) rfl) rfl (pur 1 rfl (sqr 5 rfl (pur 2 rfl (sp rfl (PE.shlN (m:=1) (n:=j) rfl rfl rfl (by omega) (by omega)) rfl (sp rfl (PE.orN (m:=Z0D (l.take k)) (n:=1*2 ^ j) rfl rfl (by omega) (by omega)) rfl (pur 1 rfl (sqr 2 rfl (sp rfl (PE.add rfl rfl (by omega)) rfl (pur 1 rfl ?_))))))))))))))
 exact Zx ⟨k+1,by omega⟩ (by dsimp only;omega) (by rw [Z0u hj,Zbx];exact sbA) idH
 obtain rfl:k=l.length:=by omega
 rw [List.take_length]
 refine Z7 (Z9 (Z9 (Zk (sqt 2 rfl (pur 2 rfl (Z4 ?_))))))
 exact rtA rfl rfl rfl ⟨rfl,rfl,rfl⟩ idH
theorem Z7X (s:Nat) (hs:s<2 ^ 4) (H:Z8) (R:Z5) :
    Fn Tryz.prog 168 [.int .i64 s] H R (fun v H' R'=>∃ o:OSl 3 1 (irows (il (ZL 4 s))),v=o.fs∧H'=o.G++H∧R'=R):=by
 refine Ze Tryz.func168 rfl Tryz.ntmps168 rfl ?_
 refine sqt 1 rfl (pur 1 rfl (sqt 1 rfl (pur 1 rfl (Z0 (sqt 1 rfl (pur 1 rfl (Z3 ?_)))))))
 refine Zd (ι:=(k:{k:Nat // k≤4})×OSl 3 1 (irows (il (ZL k.1 s)))) (fun x=>⟨[(0,.int .i64 s),(3,x.2.fs),(4,.int .i64 x.1.1)],x.2.G++H,R⟩) (fun x=>4-x.1.1) ⟨⟨0,by omega⟩,OSl.nil _ _⟩ ?_ (fun x=>?_)
 exact Zj idH
 obtain ⟨⟨k,hk⟩,o⟩:=x
 dsimp only at hk o ⊢
 have eb:=Z3M k s
 refine Z0 (sqt 4 rfl (pur 2 rfl (sp rfl (PE.shrN (m:=s) (n:=k) rfl rfl (by omega)) rfl (pur 1 rfl ?_))))
 refine Z2 rfl ?_ ?_<;>intro hc0<;>try simp only [cS] at hc0
 have hk4:k<4:=by
   rcases Nat.lt_or_ge k 4 with h1 | h1
   · exact h1
   · obtain rfl:k=4:=by omega
     have:s>>>4=0:=by rw [Nat.shiftRight_eq_div_pow];exact Nat.div_eq_of_lt hs
     omega
 refine Z1 (Z0 (Z3 (sqt 5 rfl (pur 2 rfl (sp rfl (PE.shrN (m:=s) (n:=k) rfl rfl (by omega)) rfl (sp rfl (PE.andN (m:=s>>>k) (n:=1) rfl rfl rfl (Nat.le_trans (Nat.shiftRight_le _ _) (by omega)) (by decide)) rfl (pur 1 rfl ?_)))))))
 refine Z2 rfl ?_ ?_<;>intro hc1
 rw [Z0k] at hc1
 rw [hc1,cond_true] at eb
 refine sqr 5 rfl (pur 2 rfl ?_)
 refine bsl (out:=[_]) rfl Z18 zl3 rfl rfl rfl rfl rfl rfl (fun b18=>?_)
 refine apO (o) rfl Z62 rfl rfl (Z0B (row:=[.int .i64 k]) rfl) rfl rfl ((by have:=Z0R k s;simp only [irows,il,List.length_map,List.length_singleton];omega)) rfl (fun o19=>?_)
 refine pur 1 rfl (sqr 3 rfl (pur 1 rfl (sp rfl (PE.add rfl rfl (by omega)) rfl (pur 1 rfl ?_))))
 first
   | exact Zf ⟨⟨k+1,by omega⟩,o19.cast (by rw [eb];simp [irows,il])⟩ (by dsimp only;omega) (fun w h=>h.del b18)
   | exact Zf ⟨⟨k+1,by omega⟩,o.cast (by rw [eb])⟩ (by dsimp only;omega) idH
 rw [Z0k] at hc1
 rw [hc1,cond_false,List.append_nil] at eb
 refine Z1 (sqr 3 rfl (pur 1 rfl (sp rfl (PE.add rfl rfl (by omega)) rfl (pur 1 rfl ?_))))
 first
   | exact Zf ⟨⟨k+1,by omega⟩,o19.cast (by rw [eb];simp [irows,il])⟩ (by dsimp only;omega) (fun w h=>h.del b18)
   | exact Zf ⟨⟨k+1,by omega⟩,o.cast (by rw [eb])⟩ (by dsimp only;omega) idH
 have hz:s<2 ^ k:=by
   rcases Nat.lt_or_ge s (2 ^ k) with h1 | h1
   · exact h1
   · have:1≤s>>>k:=by rw [Nat.shiftRight_eq_div_pow];exact (Nat.one_le_div_iff (Nat.two_pow_pos k)).2 h1
     omega
 refine Z7 (Z9 (Z9 (Zk (sqt 2 rfl (pur 2 rfl (Z4 ?_))))))
 exact rtA rfl rfl rfl ⟨o.cast (by rw [Z67 hz hs]),rfl,rfl,rfl⟩ idH
theorem Z8X:Z2a Tryz.prog 284=some 6:=by kernel_rfl
theorem Zjb:apT Tryz.prog 286=some (285,1,8):=by kernel_rfl
theorem Zgj:apT Tryz.prog 44=some (23,1,24):=by kernel_rfl
theorem Zdz:cal Tryz.prog 167=true:=by kernel_rfl
theorem ZgU:cal Tryz.prog 168=true:=by kernel_rfl
theorem ZeW:ZF Tryz.prog 23=some 1:=by kernel_rfl
theorem Z7f:ZF Tryz.prog 284=some 6:=by kernel_rfl
theorem ZjQ:ZF Tryz.prog 285=some 1:=by kernel_rfl
theorem ZhL:ZF Tryz.prog 286=some 1:=by kernel_rfl
theorem Zf9:elN Tryz.prog 286=some 1:=by kernel_rfl
theorem ZdT:eqB Tryz.prog 10000 284=some (true,6):=by kernel_rfl
theorem ZdU:Tryz.prog.eqGuardType Tryz.prog.depth 284=false:=by kernel_rfl
theorem Zfh:ZY Tryz.prog 284 0=some 0:=by kernel_rfl
theorem Zfi:ZY Tryz.prog 284 1=some 4:=by kernel_rfl
theorem Z1z:ZY Tryz.prog 284 2=some 5:=by kernel_rfl
theorem Z4g:Z0A Tryz.prog 285=some (140,284):=by kernel_rfl
theorem Zbg:ZP Tryz.prog 284=some [(0,4),(4,1),(5,1)]:=by kernel_rfl
theorem Z3b:Z0h Tryz.prog 285=true:=by kernel_rfl
theorem Z7D:Z0h Tryz.prog 286=true:=by kernel_rfl
theorem Zix:slE Tryz.prog 286=some (285,1):=by kernel_rfl
theorem Zel:Zr Tryz.prog 23=some ([.slice none 0 0]):=by kernel_rfl
theorem Z3t:Zr Tryz.prog 284=some ([.int .i64 0,.int .i64 0,.int .i64 0,.int .i64 0,.int .i64 0,.int .i64 0]):=by kernel_rfl
theorem Zg2:Zr Tryz.prog 285=some ([.map none]):=by kernel_rfl
theorem Zko:Zr Tryz.prog 286=some ([.slice none 0 0]):=by kernel_rfl
theorem ZiK:zvl Tryz.prog 284=some (.agg #[.int .i64 0,.int .i64 0,.int .i64 0,.int .i64 0,.int .i64 0,.int .i64 0]):=by kernel_rfl
abbrev MW:=List (HSt×List Int)
def zw:List Int:=[0,0,0,0,0,0]
def wvl (w:List Int):Value:=.agg (Za w).toArray
def Z0e (m:MW) (s:HSt):Option (List Int):=(m.find? fun e=>decide (e.1=s)).map (·.2)
def Z8E:MW→HSt→List Int→MW
 | [],k,v=>[(k,v)]
 | (k',v')::l,k,v=>bif decide (k'=k) then (k,v)::l else (k',v')::Z8E l k v
def kvw (m:MW):KV:=m.map fun p=>(p.1,wvl p.2)
theorem Z7m:∀ (m:MW) (s:HSt),(kvw m).get s=(Z0e m s).map wvl
 | [],s=>rfl
 | (k,v)::m,s=>by
   have ih:=Z7m m s
   unfold KV.get Z0e at ih ⊢
   show (((k,wvl v)::kvw m).find? fun e=>decide (e.1=s)).map (·.2)=_
   rw [List.find?_cons,List.find?_cons]
   dsimp only
   cases decide (k=s) with
   | true=>rfl
   | false=>exact ih
theorem Z4b:∀ (m:MW) (k:HSt) (v:List Int),(kvw m).put k (wvl v)=kvw (Z8E m k v)
 | [],k,v=>rfl
 | (k',v')::m,k,v=>by
   have ih:=Z4b m k v
   show KV.put ((k',wvl v')::kvw m) k (wvl v)=kvw (bif decide (k'=k) then (k,v)::m else (k',v')::Z8E m k v)
   unfold KV.put
   cases decide (k'=k) with
   | true=>rfl
   | false =>
     rw [cond_false,cond_false]
     show (k',wvl v')::(kvw m).put k (wvl v)=_
     rw [ih];rfl
theorem Z4e:∀ (m:MW) (k:HSt) (v:List Int) (s:HSt),Z0e (Z8E m k v) s=bif decide (k=s) then some v else Z0e m s
 | [],k,v,s=>by
   unfold Z8E Z0e
   rw [List.find?_cons]
   dsimp only
   cases decide (k=s)<;>rfl
 | (k',v')::m,k,v,s=>by
   have ih:=Z4e m k v s
   unfold Z8E
   by_cases h:k'=k
   · subst h
     rw [decide_eq_true rfl,cond_true]
     unfold Z0e
     rw [List.find?_cons,List.find?_cons]
     dsimp only
     cases decide (k'=s)<;>rfl
   · rw [decide_eq_false h,cond_false]
     unfold Z0e at ih ⊢
     rw [List.find?_cons,List.find?_cons]
     dsimp only
     by_cases h2:k'=s
     · subst h2
       rw [decide_eq_true rfl,decide_eq_false (fun e=>h e.symm)];rfl
     · rw [decide_eq_false h2];exact ih
structure WOk (B:Int) (e:HSt×List Int):Prop where
 k:e.1.length=4
 v:e.2.length=6
 t:0≤na e.2 4∧na e.2 4<16
 a:0≤na e.2 5∧na e.2 5≤B
def Z61 (B:Int) (m:MW):Prop:=∀ e∈m,WOk B e
theorem Zb0 {B:Int}:∀ {m:MW} {k:HSt} {v:List Int},Z61 B m→WOk B (k,v)→Z61 B (Z8E m k v)
 | [],k,v,_,h=>fun e he=>by rw [List.mem_singleton.1 he];exact h
 | (k',v')::m,k,v,hm,h=>fun e he=>by
   unfold Z8E at he
   cases hd:decide (k'=k) with
   | true =>
     rw [hd,cond_true] at he
     rcases List.mem_cons.1 he with rfl | h1
     · exact h
     · exact hm e (by simp [h1])
   | false =>
     rw [hd,cond_false] at he
     rcases List.mem_cons.1 he with rfl | h1
     · exact hm _ (by simp)
     · exact Zb0 (m:=m) (fun e he=>hm e (by simp [he])) h e h1
theorem Z7q {B:Int} {m:MW} (hm:Z61 B m) {s:HSt} {w:List Int} (h:Z0e m s=some w):w.length=6∧(0≤na w 4∧na w 4<16)∧0≤na w 5∧na w 5≤B:=by
 unfold Z0e at h
 rw [Option.map_eq_some_iff] at h
 obtain ⟨e,he,rfl⟩:=h
 have:=hm e (List.mem_of_find?_eq_some he)
 exact ⟨this.v,this.t,this.a⟩
theorem zw_ok:(0≤na zw 4∧na zw 4<16)∧0≤na zw 5∧na zw 5≤0:=by decide
theorem Z35 {B:Int} {m:MW} (hm:Z61 B m):∀ e∈kvw m,e.1.length=4:=fun e he=>by
 obtain ⟨p,hp,rfl⟩:=List.mem_map.1 he
 exact (hm p hp).k
theorem wor {o:Option (List Int)}:(o.map wvl).getD (wvl zw)=wvl (o.getD zw):=by cases o<;>rfl
theorem Zdf {o:Option (List Int)}:(o.map wvl).isSome=o.isSome:=by cases o<;>rfl
theorem Z6D {l:List Int} (h:l.length=6):∃ a b c d e f,l=[a,b,c,d,e,f]:=by
 match l,h with
 | [a,b,c,d,e,f],_=>exact ⟨a,b,c,d,e,f,rfl⟩
def Z29 (m:MW) (e:HSt×List Int):MW:=bif decide ((Z0e m e.1).getD zw=zw)||decide (na e.2 5<na ((Z0e m e.1).getD zw) 5) then Z8E m e.1 e.2 else m
theorem ZfV {B:Int} {m:MW} {e:HSt×List Int} (hm:Z61 B m) (he:WOk B e):Z61 B (Z29 m e):=by
 unfold Z29
 cases (decide ((Z0e m e.1).getD zw=zw)||decide (na e.2 5<na ((Z0e m e.1).getD zw) 5)) with
 | true=>exact Zb0 hm he
 | false=>exact hm
def ZhX (d:Dsk) (s:HSt) (c:Int) (l:List Nat):Option (HSt×List Int):=(d.next s l).map fun t=>(t,s++[(Z0D l:Int),c+(l.length:Int)])
def Z63 (d:Dsk) (m:MW) (s:HSt) (j:Nat):List (HSt×List Int):=match Z0e m s with
 | none=>[]
 | some w=>((d.trs false).take j).filterMap (ZhX d s (na w 5))
def evW (d:Dsk) (m:MW) (s:HSt):List (HSt×List Int):=Z63 d m s (d.trs false).length
def Z6J (d:Dsk) (m:MW) (k:Nat):MW:=((d.sts.take k).flatMap (evW d m)).foldl Z29 []
def Z03 (d:Dsk) (s0:HSt):Nat→MW
 | 0=>[(s0,zw)]
 | i+1=>Z6J d (Z03 d s0 i) d.nst
theorem Zb8 {d:Dsk} {m:MW} {k:Nat} {s:HSt} (h:d.sts[k]?=some s):Z6J d m (k+1)=(evW d m s).foldl Z29 (Z6J d m k):=by
 unfold Z6J
 rw [Z0u h,List.flatMap_append,List.foldl_append,List.flatMap_singleton]
theorem Zaq {d:Dsk} {m:MW} {s:HSt} (h:Z0e m s=none) (j:Nat):Z63 d m s j=[]:=by unfold Z63;rw [h]
theorem Zat (d:Dsk) (m:MW) (s:HSt):Z63 d m s 0=[]:=by unfold Z63;cases Z0e m s<;>simp
theorem Zas {d:Dsk} {m:MW} {s:HSt} {w:List Int} (h:Z0e m s=some w) {j:Nat} {l:List Nat} (hl:(d.trs false)[j]?=some l):Z63 d m s (j+1)=Z63 d m s j++(match d.next s l with | none=>[] | some t=>[(t,s++[(Z0D l:Int),na w 5+(l.length:Int)])]):=by
 unfold Z63
 rw [h]
 dsimp only
 rw [Z0u hl,List.filterMap_append]
 congr 1
 unfold ZhX
 cases hn:d.next s l with
 | none=>simp [hn]
 | some t=>simp [hn]
theorem Z5U {d:Dsk} (hd:d.ok) {full:Bool} {l:List Nat} (h:l∈d.trs full):l.length≤4:=by
 obtain ⟨i,_,rfl⟩:=List.mem_map.1 (List.mem_filter.1 h).1
 have:=Z0R d.n i
 have:=hd.n
 omega
theorem ZjY {d:Dsk} (hd:d.ok) {s t:HSt} {B c:Int} (hs:d.inS s) (hc:0≤c∧c≤B) {l:List Nat} (hl:l∈d.trs false) (hn:d.next s l=some t):WOk (B+4) (t,s++[(Z0D l:Int),c+(l.length:Int)]):=by
 have h1:=d.trs_lt hl
 have h2:=Z5U hd hl
 have h3:=Z5J (l:=l) (m:=4) (fun k hk=>by have:=h1 k hk;have:=hd.n;omega)
 obtain ⟨s0,s1,s2,s3,rfl⟩:=Z36 hs.len
 refine ⟨(d.next_inS hd hs h1 hn).len,rfl,?_,?_⟩
 · show 0≤(Z0D l:Int)∧(Z0D l:Int)<16;omega
 · show 0≤c+(l.length:Int)∧c+(l.length:Int)≤B+4;omega
theorem Z7k {B:Int}:∀ {es:List (HSt×List Int)} {m:MW},Z61 B m→(∀ e∈es,WOk B e)→Z61 B (es.foldl Z29 m)
 | [],_,hm,_=>hm
 | e::es,m,hm,he=>Z7k (m:=Z29 m e) (ZfV hm (he e (by simp))) (fun f hf=>he f (by simp [hf]))
theorem Zar {d:Dsk} (hd:d.ok) {m:MW} {B:Int} (hm:Z61 B m) {s:HSt} (hs:s∈d.sts) (j:Nat):∀ e∈Z63 d m s j,WOk (B+4) e:=fun e he=>by
 unfold Z63 at he
 cases h:Z0e m s with
 | none=>rw [h] at he;cases he
 | some w =>
   rw [h] at he
   obtain ⟨l,hl,hle⟩:=List.mem_filterMap.1 he
   unfold ZhX at hle
   rw [Option.map_eq_some_iff] at hle
   obtain ⟨t,ht,rfl⟩:=hle
   exact ZjY hd ((d.mem_sts hd s).1 hs) (Z7q hm h).2.2 (List.mem_of_mem_take hl) ht
theorem Zb7 {d:Dsk} (hd:d.ok) {m:MW} {B:Int} (hm:Z61 B m) (k:Nat):Z61 (B+4) (Z6J d m k):=by
 refine Z7k (fun e he=>by cases he) fun e he=>?_
 obtain ⟨s,hs,hes⟩:=List.mem_flatMap.1 he
 exact Zar hd hm (List.mem_of_mem_take hs) _ e hes
theorem Z7p {d:Dsk} (hd:d.ok) {s0:HSt} (hs:s0.length=4):∀ (i:Nat),Z61 (4*i) (Z03 d s0 i)
 | 0=>fun e he=>by rw [List.mem_singleton.1 he];exact ⟨hs,rfl,zw_ok.1,⟨zw_ok.2.1,zw_ok.2.2⟩⟩
 | i+1=>by
   have:=Zb7 hd (Z7p hd hs i) d.nst
   have e:(4*((i+1:Nat):Int))=4*(i:Int)+4:=by push_cast;omega
   rw [e];exact this
def Z3K (m:MW) (acc:Option (HSt×Int)) (s:HSt):Option (HSt×Int):=match Z0e m s with
 | none=>acc
 | some w=>match acc with
   | none=>some (s,na w 5)
   | some (t,n)=>bif decide (na w 5<n) then some (s,na w 5) else some (t,n)
def Z0j (d:Dsk) (m:MW) (k:Nat):Option (HSt×Int):=(d.sts.take k).foldl (Z3K m) none
theorem Z90 {d:Dsk} {m:MW} {k:Nat} {s:HSt} (h:d.sts[k]?=some s):Z0j d m (k+1)=Z3K m (Z0j d m k) s:=by
 unfold Z0j;rw [Z0u h,List.foldl_append];rfl
def Z0Z (d:Dsk) (s0:HSt):Nat→HSt→List (List Nat)
 | 0,_=>[]
 | j+1,s=>Z0Z d s0 j (((Z0e (Z03 d s0 (j+1)) s).getD zw).take 4)++[ZL 4 (na ((Z0e (Z03 d s0 (j+1)) s).getD zw) 4).toNat]
def Z2n (ms:List (Nat×MW)) (w:World):Prop:=∀ p∈ms,w.heap[p.1]?=some (Zz true (kvw p.2))
def Z2G (ms:List (Nat×MW)):List (List Value):=ms.map fun p=>[.map (some p.1)]
def Z1m (ms:List (Nat×MW)):List Value:=ms.map fun p=>.map (some p.1)
theorem Z37 (ms:List (Nat×MW)):(Z2G ms).length=ms.length:=List.length_map _
theorem Z99 (ms:List (Nat×MW)):(Z1m ms).length=ms.length:=List.length_map _
theorem Z4h:∀ (ms:List (Nat×MW)),(Z2G ms).flatten=Z1m ms
 | []=>rfl
 | p::ms=>by show [Value.map (some p.1)]++(Z2G ms).flatten=_;rw [Z4h ms];rfl
theorem Z4T {ms:List (Nat×MW)} {junk:List Value} {d i:Nat} {p:Nat×MW} (h:ms[d]?=some p) (e:i=d):(Z1m ms++junk)[i]?=some (.map (some p.1)):=by
 subst e
 rw [List.getElem?_append_left (by rw [Z99];exact (List.getElem?_eq_some_iff.1 h).1)]
 simp [Z1m,h]
theorem Z1U {ms:List (Nat×MW)} {H:Z8} {R:Z5} [m:MemF (Z2n ms) R] {p:Nat×MW} (hp:p∈ms):∀ w,St H R w→w.heap[p.1]?=some (Zz true (kvw p.2)):=fun w hs=>hs.now m.mem p hp
theorem St.maps {ms:List (Nat×MW)} {x:Nat} {m:MW} {H:Z8} {R:Z5} {w:World} [mf:MemF (Z2n ms) R] (h:St ((x,Zz true (kvw m))::H) R w):St H (Z2n (ms++[(x,m)])::R) w:=by
 have h1:=(St.freeze h).also (f:=Z2n (ms++[(x,m)])) (fun w' hw p hp=>by
   rcases List.mem_append.1 hp with h2 | h2
   · exact hw _ (List.mem_cons_of_mem _ mf.mem) p h2
   · rw [List.mem_singleton.1 h2];exact hw (fun w=>w.heap[x]?=some (Zz true (kvw m))) (by simp))
 exact h1.facts (fun g hg=>by rcases List.mem_cons.1 hg with h2 | h2<;>simp [h2])
theorem St.maps1 {x:Nat} {m:MW} {H:Z8} {R:Z5} {w:World} (h:St ((x,Zz true (kvw m))::H) R w):St H (Z2n [(x,m)]::R) w:=by
 have h1:=(St.freeze h).also (f:=Z2n [(x,m)]) (fun w' hw p hp=>by
   rw [List.mem_singleton.1 hp];exact hw (fun w=>w.heap[x]?=some (Zz true (kvw m))) (by simp))
 exact h1.facts (fun g hg=>by rcases List.mem_cons.1 hg with h2 | h2<;>simp [h2])
def MsOk (d:Dsk) (s0:HSt) (ms:List (Nat×MW)) (n:Nat):Prop:=ms.length=n∧∀ j<n,∃ x,ms[j]?=some (x,Z03 d s0 j)
theorem Zi9 {H:Z8} {R:Z5} {m:MW} {B:Int} (hm:Z61 B m) {x:Nat} (hx:∀ w,St H R w→w.heap[x]?=some (Zz true (kvw m))) (s:HSt) (hs:s.length=4) :
   ∀ w,St H R w→Lkp Tryz.prog 285 (.map (some x)) (mkv true s) true (.tuple #[wvl ((Z0e m s).getD zw),.bool (Z0e m s).isSome]) w:=fun w hw=>by
 have h:=Z7n (b:=true) (kvw m) s Z4g (KeyT.of Z1w Z1C) (ZZ ZiK) hs (Z35 hm) hx true w hw
 rw [Z7m] at h
 rw [← wor,← Zdf]
 exact h
theorem Z7o {H:Z8} {R:Z5} {m:MW} {B:Int} (hm:Z61 B m) {x:Nat} (hx:∀ w,St H R w→w.heap[x]?=some (Zz true (kvw m))) (s:HSt) (hs:s.length=4) :
   ∀ w,St H R w→Lkp Tryz.prog 285 (.map (some x)) (mkv true s) false (wvl ((Z0e m s).getD zw)) w:=fun w hw=>by
 have h:=Z7n (b:=true) (kvw m) s Z4g (KeyT.of Z1w Z1C) (ZZ ZiK) hs (Z35 hm) hx false w hw
 rw [Z7m] at h
 rw [← wor]
 exact h
theorem Zi1 {H:Z8} {R:Z5} {x:Nat} {o:Obj} [mm:Mem1 x o H]:∀ w,St H R w→w.heap[x]?=some o:=fun w hs=>hs.held _ mm.mem
theorem Z6Z {B:Int} {m:MW} (hm:Z61 B m) (s:HSt):((Z0e m s).getD zw).length=6∧(0≤na ((Z0e m s).getD zw) 4∧na ((Z0e m s).getD zw) 4<16)∧0≤na ((Z0e m s).getD zw) 5:=by
 cases h:Z0e m s with
 | none=>exact ⟨rfl,by decide,by decide⟩
 | some w=>have:=Z7q hm h;exact ⟨this.1,this.2.1,this.2.2.1⟩
theorem Z5w {H:Z8} {R:Z5} {m:MW} {B:Int} (hm:Z61 B m) {x:Nat} (hx:∀ w,St H R w→w.heap[x]?=some (Zz true (kvw m))) (s:HSt) (hs:s.length=4) {wo:Option (List Int)} (hwo:Z0e m s=wo) :
 ∀ w,St H R w→Lkp Tryz.prog 285 (.map (some x)) (mkv true s) true (.tuple #[wvl (wo.getD zw),.bool wo.isSome]) w:=by subst hwo;exact Zi9 hm hx s hs
theorem Z8w {H:Z8} {R:Z5} {m:MW} {B:Int} (hm:Z61 B m) {x:Nat} (hx:∀ w,St H R w→w.heap[x]?=some (Zz true (kvw m))) (s:HSt) (hs:s.length=4) {wo:List Int} (hwo:(Z0e m s).getD zw=wo) :
 ∀ w,St H R w→Lkp Tryz.prog 285 (.map (some x)) (mkv true s) false (wvl wo) w:=by subst hwo;exact Z7o hm hx s hs
def bN (a:Option (HSt×Int)):Int:=match a with
 | none=>0
 | some p=>p.2
def bS (a:Option (HSt×Int)):HSt:=match a with
 | none=>[0,0,0,0]
 | some p=>p.1
def Zj4 (d:Dsk) (s0:HSt) (days:Nat) (H:Z8) (R:Z5):Value→Z8→Z5→Prop:=fun v H' R'=>H'=H ∧
 ((Z0j d (Z03 d s0 days) d.nst=none∧v = .tuple #[.slice none 0 0,.int .i64 0,.bool false]∧R'=R) ∨
  (∃ (s:HSt) (n:Int) (pl:List PL) (bp:Nat),Z0j d (Z03 d s0 days) d.nst=some (s,n)∧lls pl=(Z0Z d s0 days s).map il∧v = .tuple #[.slice (some ⟨bp,0,none⟩) days days,.int .i64 n,.bool true]∧R'=RowsA (some ⟨bp,0,none⟩) 1 (plrows pl)::Inn pl::R))
theorem Z7r (ms:List (Nat×MW)) (x:Nat) (m:MW):Z2G (ms++[(x,m)])=Z2G ms++[[.map (some x)]]:=by simp [Z2G]
theorem MsOk.start (d:Dsk) (s0:HSt) (x:Nat):MsOk d s0 [(x,[(s0,zw)])] 1:=⟨rfl,fun j hj=>by
 obtain rfl:j=0:=by omega
 exact ⟨x,rfl⟩⟩
theorem MsOk.snoc {d:Dsk} {s0:HSt} {ms:List (Nat×MW)} {n:Nat} (h:MsOk d s0 ms (n+1)) (x:Nat):MsOk d s0 (ms++[(x,Z6J d (Z03 d s0 n) d.nst)]) (n+1+1):=by
 obtain ⟨h1,h2⟩:=h
 refine ⟨by rw [List.length_append,h1];rfl,fun j hj=>?_⟩
 rcases Nat.lt_or_ge j (n+1) with h3 | h3
 · obtain ⟨y,hy⟩:=h2 j h3
   exact ⟨y,by rw [List.getElem?_append_left (by omega)];exact hy⟩
 · obtain rfl:j=n+1:=by omega
   exact ⟨x,by rw [List.getElem?_append_right (by omega),h1,Nat.sub_self];rfl⟩
theorem Zdd {j i:Nat} {v z:Value} {cs:List Value} (e:i=j):spl (List.replicate (j+1) z++cs) i [v]=List.replicate j z++v::cs:=by
 subst e
 rw [List.replicate_succ',List.append_assoc]
 have:=Z2O (p:=List.replicate i z) (q:=[z]) (s:=cs) (vs:=[v]) rfl
 rw [List.length_replicate] at this
 exact this
theorem St.innCons {a:Option Addr} {c:Nat} {l0:List Int} {l:List PL} {H:Z8} {R:Z5} {w:World} [m1:MemF (Inn l) R] [m2:MemRows a 1 (irows l0) R] (h:St H R w):St H (Inn (⟨a,c,l0⟩::l)::R) w :=
 h.also fun _ hw y hy=>by
   rcases List.mem_cons.1 hy with rfl | hy
   · exact hw _ m2.mem
   · exact hw _ m1.mem y hy
theorem Z66 {d:Dsk} (hd:d.ok) (m:MW):∀ k,(bS (Z0j d m k)).length=4:=by
 have key:∀ (l:List HSt) (acc:Option (HSt×Int)),(∀ s∈l,s.length=4)→(bS acc).length=4→(bS (l.foldl (Z3K m) acc)).length=4:=by
   intro l
   induction l with
   | nil=>intro acc _ h;exact h
   | cons s l ih =>
     intro acc hl h
     refine ih _ (fun t ht=>hl t (by simp [ht])) ?_
     have hs:=hl s (by simp)
     unfold Z3K
     cases Z0e m s with
     | none=>exact h
     | some w =>
       cases acc with
       | none=>exact hs
       | some p =>
         obtain ⟨t,n⟩:=p
         dsimp only
         cases decide (na w 5<n) with
         | true=>exact hs
         | false=>exact h
 exact fun k=>key _ none (fun s hs=>((d.mem_sts hd s).1 (List.mem_of_mem_take hs)).len) rfl
set_option maxHeartbeats 4000000 in
theorem Zcj (b:Barn) (hok:b.ok) (ab:Option Addr) (cb bd m:Nat) (days:Nat) (hdy:days≤20) (H:Z8) (R:Z5) [hD:MemRows (some ⟨bd,0,none⟩) 18 [dcs b (b.sl ab cb) b.lasts b.most m] R] [hB:MemRows ab 4 (brows b.bins) R] :
    Fn Tryz.prog 101 [.pointer (some ⟨bd,0,none⟩),.int .i64 days] H R (Zj4 b.dsk b.state days H R):=by
 have hdk:=b.dsk_ok hok
 have hl4:=hdk.lasts.len
 have hm4:=hdk.most.len
 refine Z4O Tryz.func101 rfl Tryz.ntmps101 rfl ?_
 refine sqt 5 rfl (bx rfl rfl rfl (fun b2=>bx rfl rfl rfl (fun b3=>pur 3 rfl (sqt 12 rfl ?_))))
 refine mkm rfl rfl true (fun m27=>?_)
 refine spL rfl rfl (lh Z0Q rfl rfl) rfl (sp rfl (PE.nilCheck rfl) rfl (sp rfl (PE.fA Z0W rfl) rfl (spL rfl rfl (ZaS (sz:=18) (btl b (b.sl ab cb)) Z1r rfl rfl) rfl ?_)))
 refine clV rfl Zcr rfl rfl (Z5a b ab cb hok _ _) ?_
 refine sp rfl (PE.build (out:=[_,_,_,_,_,_]) Zbg Z3t rfl rfl) rfl ?_
 refine mpi [] b.state rfl Z4g (KeyT.of Z1w Z1C) rfl rfl rfl (b.state_sml hok).len (by simp) ?_
 refine pur 1 rfl ?_
 refine bsl (out:=[_]) rfl Zix Zg2 rfl rfl rfl rfl rfl rfl (fun b35=>?_)
 refine alc rfl Zko rfl (fun b7=>?_)
 refine sto rfl rfl rfl ZhL rfl rfl rfl rfl ?_
 refine Z0 (sqt 2 rfl (spL rfl rfl (lh sc3 rfl rfl) rfl (pur 1 rfl (Z3 ?_))))
 refine Sy.heap (fun w h=>St.maps1 (x:=m27) (m:=[(b.state,zw)]) (h.pull m27)) ?_
 obtain ⟨o0,h0f,h0g⟩:∃ o:OSl 285 1 (Z2G [(m27,[(b.state,zw)])]),o.fs = .slice (some ⟨b35,0,none⟩) 1 1∧o.G=[(b35,cel 285 [.map (some m27)])]:=⟨⟨.slice (some ⟨b35,0,none⟩) 1 1,[(b35,cel 285 [.map (some m27)])],by intro r hr;simp only [Z2G,List.map_cons,List.map_nil,List.mem_singleton] at hr;subst hr;rfl,.inr ⟨b35,1,[],rfl,rfl,rfl,Nat.le_refl _,by decide⟩⟩,rfl,rfl⟩
 refine Sy.heap (H':=(b7,cel 286 [o0.fs])::(b3,cel 3 [.int .i64 days])::(b2,cel 137 [.pointer (some ⟨bd,0,none⟩)])::(o0.G++(mkh []++H))) (fun w h=>by rw [h0f,h0g];exact (((h.pull b35).pull b2).pull b3).pull b7) ?_
 have hs0:b.state.length=4:=(b.state_sml hok).len
 refine Z1f (ι:=(x:{x:Nat×List (Nat×MW)×List Nat // x.1≤days∧MsOk b.dsk b.state x.2.1 (x.1+1)})×OSl 285 1 (Z2G x.1.2.1)) (fun x=>⟨[(2,.pointer (some ⟨b2,0,none⟩)),(3,.pointer (some ⟨b3,0,none⟩)),(7,.pointer (some ⟨b7,0,none⟩)),(36,.int .i64 days),(37,.int .i64 x.1.1.1)],mks x.1.1.2.2,(b7,cel 286 [x.2.fs])::(b3,cel 3 [.int .i64 days])::(b2,cel 137 [.pointer (some ⟨bd,0,none⟩)])::(x.2.G++(mkh x.1.1.2.2++H)),Z2n x.1.1.2.1::R⟩) (fun x=>days-x.1.1.1) ⟨⟨(0,[(m27,[(b.state,zw)])],[]),Nat.zero_le _,MsOk.start _ _ _⟩,o0⟩ ?_ (fun x=>?_)
 exact Z4t sbA rfl idH
 ·
  obtain ⟨⟨⟨d,ms,mk⟩,hd,hms⟩,o⟩:=x
  dsimp only at hd hms o ⊢
  obtain ⟨hml,hmg⟩:=hms
  obtain ⟨br,cr,jr,hrf,hrG,hrj,hrc,hrx⟩:=o.is.resolve_left (fun h=>by have:=congrArg List.length h.1;rw [Z37] at this;simp only [List.length_nil] at this;omega)
  rw [Z37] at hrf hrj hrc
  rw [Z4h] at hrG
  rw [hrf]
  refine Sy.heap (H':=(b7,cel 286 [.slice (some ⟨br,0,none⟩) ms.length cr])::(b3,cel 3 [.int .i64 days])::(b2,cel 137 [.pointer (some ⟨bd,0,none⟩)])::(br,cel 285 (Z1m ms++jr))::(mkh mk++H)) (fun w h=>by rw [hrG] at h;exact h) ?_
  obtain ⟨mj,hmj⟩:=hmg d (by omega)
  have hmok:=Z7p hdk hs0 d
  refine sqt 1 rfl (pur 1 rfl (Z0 ?_))
  refine Z2 rfl ?_ ?_<;>intro hc0<;>try simp only [cS] at hc0
  ·
   refine Z1 (Z0 (Z3 (sqt 3 rfl (pur 1 rfl (alc rfl zl3 rfl (fun b8=>?_))))))
   refine sto rfl rfl rfl cn3 rfl rfl rfl rfl ?_
   refine sqt 3 rfl ?_
   refine mkm rfl rfl true (fun m40=>?_)
   refine alc rfl Zg2 rfl (fun b9=>?_)
   refine sto rfl rfl rfl ZjQ rfl rfl rfl rfl ?_
   refine Z0 (sqt 2 rfl (spL rfl rfl (lh Z0Q rfl rfl) rfl ?_))
   refine cl rfl ZeT rfl rfl (Z5b bd _ _) ?_
   rintro _ _ _ ⟨xb,rfl,rfl,rfl⟩
   refine Z3 ?_
   refine Z1g rfl Zac (fun c0 bl0 bd0 hcp0 hca0 hcb0 hck0=>?_)
   refine ⟨fun st pend T R'=>st = .ready∧pend=none∧T=(bd0,.deferred (some []))::(b9,cel 285 [.map (some m40)])::(m40,Zz true (kvw (Z6J b.dsk (Z03 b.dsk b.state d) b.dsk.nst)))::(b8,cel 3 [.int .i64 d])::(b7,cel 286 [.slice (some ⟨br,0,none⟩) ms.length cr])::(b3,cel 3 [.int .i64 days])::(b2,cel 137 [.pointer (some ⟨bd,0,none⟩)])::(br,cel 285 (Z1m ms++jr))::(mkh mk++H)∧R'=RowsA (some ⟨xb,0,none⟩) 1 [[.pointer (some ⟨bd,0,none⟩)]]::Z2n ms::R,
     Fn.mono (Z3W b hok ab cb bd m xb bl0 (fun k H' R'=>H'=(bl0,lob c0 .ready none)::(bd0,.deferred (some []))::(b9,cel 285 [.map (some m40)])::(m40,Zz true (kvw (Z6J b.dsk (Z03 b.dsk b.state d) k)))::(b8,cel 3 [.int .i64 d])::(b7,cel 286 [.slice (some ⟨br,0,none⟩) ms.length cr])::(b3,cel 3 [.int .i64 days])::(b2,cel 137 [.pointer (some ⟨bd,0,none⟩)])::(br,cel 285 (Z1m ms++jr))::(mkh mk++H)∧R'=RowsA (some ⟨xb,0,none⟩) 1 [[.pointer (some ⟨bd,0,none⟩)]]::Z2n ms::R) (fun _ _=>False)
       (fun k H' R' h=>by obtain ⟨_,rfl⟩:=h;exact ⟨by simp,List.mem_cons_of_mem _ (List.mem_cons_of_mem _ hD.mem)⟩) (fun k s q oo H' R' hk hI=>?_) _ _ ⟨rfl,rfl⟩) (fun v H' R' h=>?_),?_⟩
   rotate_left
   · rcases h with ⟨rfl,rfl⟩ | h
     · exact ⟨.ready,none,_,by simp,.refl _,rfl,rfl,rfl,rfl⟩
     · exact h.elim
   rotate_left
   ·
    have hmem:=List.mem_of_getElem? hk
    have hsi:=(b.dsk.mem_sts hdk s).1 hmem
    obtain ⟨s0,s1,s2,s3,rfl⟩:=Z36 hsi.len
    have hnk:=Zb8 (m:=(Z03 b.dsk b.state d)) hk
    obtain ⟨hw6,hw4,hw5⟩:=Z6Z hmok [s0,s1,s2,s3]
    obtain ⟨wo,hwo⟩:∃ wo,Z0e (Z03 b.dsk b.state d) [s0,s1,s2,s3]=wo:=⟨_,rfl⟩
    rw [hwo] at hw6 hw4 hw5
    obtain ⟨rfl,rfl⟩:=hI
    refine Z7Q hcp0 hca0 hcb0 hck0 rfl ?_
    refine sqr 2 rfl (alc rfl Z1k rfl (fun b10=>?_))
    refine sto rfl rfl rfl Z1p rfl rfl rfl rfl ?_
    refine ZK ?_
    refine Z3 (Z0 ?_)
    refine Zb [0,0,3,7,0,31,63,127,127,0,767,2047] (.ld 0 (.ld 1 (.tk 2 (.ld 3 (.ld 4 (.ld 5 (tks 6 3 (.big 9 (.big 10 (.tk 11 .done)))))))))) Zo (by kernel_rfl) ?_
    refine ld rfl rfl (lh Z7D rfl rfl) rfl (ld rfl rfl (lh sc3 rfl rfl) rfl (tk rfl (PE.indexAddr Zf9 rfl rfl (by omega) (by omega)) rfl (ld rfl rfl (lh Z3b rfl (Z4T hmj (by show 0+((d:Nat):Int).toNat*1=d;omega))) rfl (ld rfl rfl (lhA [_,_,_,_] ZM rfl rfl rfl) rfl ?_))))
    refine ldK rfl rfl rfl (Z5w hmok (Z1U (List.mem_of_getElem? hmj)) [s0,s1,s2,s3] rfl hwo) rfl ?_
    refine Zl 3 rfl (alc rfl Z3t rfl (fun b11=>?_))
    refine bg (fun w hs=>⟨(Z5w hmok (Z1U (List.mem_of_getElem? hmj)) [s0,s1,s2,s3] rfl hwo) w hs,(lhA [_,_,_,_] ZM rfl rfl rfl) w hs,(lh Z3b rfl (Z4T hmj (by show 0+((d:Nat):Int).toNat*1=d;omega))) w hs,(lh sc3 rfl rfl) w hs,(lh Z7D rfl rfl) w hs,trivial⟩) ?_
    refine Z4z (vs:=Za (wo.getD zw)) rfl rfl rfl Z7f rfl (by rw [Z6];exact hw6) rfl (ZA _) ?_
    refine bgT (Zl 1 rfl (Z0 (sqt 2 rfl (pur 2 rfl ?_))))
    refine Z2 rfl ?_ ?_<;>intro hc1
    have hwn:wo=none:=by cases wo with
      | none=>rfl
      | some w=>cases hc1
    have hev:evW b.dsk (Z03 b.dsk b.state d) [s0,s1,s2,s3]=[]:=Zaq (hwo.trans hwn) _
    refine Z7 (Z9 (Zk ?_))
    exact Zn (.inl ⟨rfl,_,rfl,rfl,rfl⟩) (fun w h=>by rw [hnk,hev];exact (h.del b11).del b10)
    ·
     obtain ⟨w,rfl⟩:∃ w,wo=some w:=by cases wo with
       | none=>cases hc1
       | some w=>exact ⟨w,rfl⟩
     obtain ⟨w0,w1,w2,w3,w4,w5,rfl⟩:=Z6D (show w.length=6 from hw6)
     have hwb:0≤w5∧w5≤4*(d:Int):=(Z7q hmok hwo).2.2
     refine Z1 (sqt 2 rfl (spL rfl rfl (lh Z0Q rfl rfl) rfl ?_))
     refine cl rfl Zdx rfl rfl (Z1R bd false _ _) ?_
     rintro _ _ _ ⟨xt,xf,rfl,rfl,rfl⟩
     refine Z3 ?_
     refine ZbK rfl ZdE (fun c1 bl1 hcp1 hca1 hcb1 hck1=>?_)
     refine ⟨fun st pend T R'=>st = .ready∧pend=none∧T=(b11,cel 284 [.int .i64 w0,.int .i64 w1,.int .i64 w2,.int .i64 w3,.int .i64 w4,.int .i64 w5])::(b10,cel 140 [.int .i64 s0,.int .i64 s1,.int .i64 s2,.int .i64 s3])::(q,oo)::(bl0,lob c0 .busy none)::(bd0,.deferred (some []))::(b9,cel 285 [.map (some m40)])::(m40,Zz true (kvw ((Z63 b.dsk (Z03 b.dsk b.state d) [s0,s1,s2,s3] (b.dsk.trs false).length).foldl Z29 (Z6J b.dsk (Z03 b.dsk b.state d) k))))::(b8,cel 3 [.int .i64 d])::(b7,cel 286 [.slice (some ⟨br,0,none⟩) ms.length cr])::(b3,cel 3 [.int .i64 days])::(b2,cel 137 [.pointer (some ⟨bd,0,none⟩)])::(br,cel 285 (Z1m ms++jr))::(mkh mk++H)∧R'=RowsA (some ⟨xf,0,none⟩) 1 [[.bool false]]::RowsA (some ⟨xt,0,none⟩) 1 [[.pointer (some ⟨bd,0,none⟩)]]::RowsA (some ⟨xb,0,none⟩) 1 [[.pointer (some ⟨bd,0,none⟩)]]::Z2n ms::R,
       Fn.mono (Z3X b hok ab cb bd m false xt xf bl1 (fun j H' R'=>H'=(bl1,lob c1 .ready none)::(b11,cel 284 [.int .i64 w0,.int .i64 w1,.int .i64 w2,.int .i64 w3,.int .i64 w4,.int .i64 w5])::(b10,cel 140 [.int .i64 s0,.int .i64 s1,.int .i64 s2,.int .i64 s3])::(q,oo)::(bl0,lob c0 .busy none)::(bd0,.deferred (some []))::(b9,cel 285 [.map (some m40)])::(m40,Zz true (kvw ((Z63 b.dsk (Z03 b.dsk b.state d) [s0,s1,s2,s3] j).foldl Z29 (Z6J b.dsk (Z03 b.dsk b.state d) k))))::(b8,cel 3 [.int .i64 d])::(b7,cel 286 [.slice (some ⟨br,0,none⟩) ms.length cr])::(b3,cel 3 [.int .i64 days])::(b2,cel 137 [.pointer (some ⟨bd,0,none⟩)])::(br,cel 285 (Z1m ms++jr))::(mkh mk++H)∧R'=RowsA (some ⟨xf,0,none⟩) 1 [[.bool false]]::RowsA (some ⟨xt,0,none⟩) 1 [[.pointer (some ⟨bd,0,none⟩)]]::RowsA (some ⟨xb,0,none⟩) 1 [[.pointer (some ⟨bd,0,none⟩)]]::Z2n ms::R) (fun _ _=>False)
         (fun k H' R' h=>by obtain ⟨_,rfl⟩:=h;exact ⟨by simp,by simp,List.mem_cons_of_mem _ (List.mem_cons_of_mem _ (List.mem_cons_of_mem _ (List.mem_cons_of_mem _ hD.mem)))⟩) (fun j l a c H' R' hj hI=>?_) _ _ ⟨by rw [Zat];rfl,rfl⟩) (fun v H' R' h=>?_),?_⟩
     rotate_left
     · rcases h with ⟨rfl,rfl⟩ | h
       · exact ⟨.ready,none,_,by simp,.refl _,rfl,rfl,rfl,rfl⟩
       · exact h.elim
     rotate_left
     have hlm:=List.mem_of_getElem? hj
     have hlt:=b.dsk.trs_lt hlm
     have hl4':=Z5U hdk hlm
     have hll:l.length≤1000000:=by omega
     have hcm:Z61 (4*(d:Int)+4) ((Z63 b.dsk (Z03 b.dsk b.state d) [s0,s1,s2,s3] j).foldl Z29 (Z6J b.dsk (Z03 b.dsk b.state d) k)):=Z7k (Zb7 hdk hmok k) (Zar hdk hmok hmem j)
     have hes:=Zas hwo hj
     obtain ⟨cu,hcu⟩:∃ cu,((Z63 b.dsk (Z03 b.dsk b.state d) [s0,s1,s2,s3] j).foldl Z29 (Z6J b.dsk (Z03 b.dsk b.state d) k))=cu:=⟨_,rfl⟩
     have hcs:((Z63 b.dsk (Z03 b.dsk b.state d) [s0,s1,s2,s3] (j+1)).foldl Z29 (Z6J b.dsk (Z03 b.dsk b.state d) k))=(match b.dsk.next [s0,s1,s2,s3] l with | none=>cu | some t=>Z29 cu (t,[s0,s1,s2,s3,(Z0D l:Int),w5+(l.length:Int)])):=by
       rw [hes,List.foldl_append,hcu];cases b.dsk.next [s0,s1,s2,s3] l<;>rfl
     obtain ⟨rfl,rfl⟩:=hI
     rw [hcu] at hcm ⊢
     refine Z7Q hcp1 hca1 hcb1 hck1 rfl ?_
     refine sqr 1 rfl (pur 1 rfl ?_)
     refine ZK ?_
     refine Z3 (sqt 10 rfl (spL rfl rfl (lh Z0Q rfl rfl) rfl (spL rfl rfl (lhA [_,_,_,_] ZM rfl rfl rfl) rfl (pur 1 rfl ?_))))
     refine cl rfl Zdy rfl rfl (Zdq b hok ab cb bd m [s0,s1,s2,s3] (b.dsk.inS_sml hdk hsi) l hlt hll a c _ _) ?_
     rintro _ _ _ ⟨rfl,rfl,rfl⟩
     rcases hnx:b.dsk.next [s0,s1,s2,s3] l with _ | t
     have hcs2:((Z63 b.dsk (Z03 b.dsk b.state d) [s0,s1,s2,s3] (j+1)).foldl Z29 (Z6J b.dsk (Z03 b.dsk b.state d) k))=cu:=by rw [hcs,hnx]
     refine pur 3 rfl (alc rfl Z1k rfl (fun b14=>?_))
     refine sto rfl rfl rfl Z1p rfl rfl rfl rfl ?_
     refine pur 1 rfl (Z0 (sqt 2 rfl (pur 2 rfl ?_)))
     refine Zt rfl ?_
     refine Z7 (Z9 (Zk ?_))
     exact Zn (.inl ⟨rfl,rfl,rfl⟩) (fun w h=>by rw [hcs2];exact (h.del b14).ftail)
     have hts:=b.dsk.next_inS hdk hsi hlt hnx
     obtain ⟨t0,t1,t2,t3,rfl⟩:=Z36 hts.len
     have hcs2:((Z63 b.dsk (Z03 b.dsk b.state d) [s0,s1,s2,s3] (j+1)).foldl Z29 (Z6J b.dsk (Z03 b.dsk b.state d) k))=Z29 cu ([t0,t1,t2,t3],[s0,s1,s2,s3,(Z0D l:Int),w5+(l.length:Int)]):=by rw [hcs,hnx]
     refine pur 3 rfl (alc rfl Z1k rfl (fun b14=>?_))
     refine sto rfl rfl rfl Z1p rfl rfl rfl rfl ?_
     refine pur 1 rfl (Z0 (sqt 2 rfl (pur 2 rfl ?_)))
     refine Zq rfl ?_
     refine Z1 (Z0 ?_)
     refine Zb [0,0,2,0,8,0,32,120,255,0,1023] (.ld 0 (.tk 1 (.tk 3 (.ld 4 (tks 5 3 (.any (.alt 2 (.tk 8 (.big 9 (.big 10 .done))) (.alt 9 (.big 2 (.tk 8 (.big 10 .done))) .stop)))))))) Zo (by kernel_rfl) ?_
     refine ld rfl rfl (lhA [_,_,_,_] ZM rfl rfl rfl) rfl (Zl 1 rfl (tk rfl (PE.fA Z1z rfl) rfl (ld rfl rfl (lh sc3 rfl rfl) rfl (Zl 1 rfl (tk rfl (PE.lenSl ZD rfl) rfl (tk rfl (PE.add rfl rfl (by omega)) rfl ?_))))))
     refine Z1o ?_ ?_
     refine clV rfl Zdz rfl rfl (Za9 l (fun k hk=>by have h1:=hlt k hk;have h2:b.dsk.n≤4:=hdk.n.2;omega) hll a c _ _) ?_
     refine bg (fun w hs=>⟨(lh sc3 rfl rfl) w hs,(lhA [_,_,_,_] ZM rfl rfl rfl) w hs,trivial⟩) ?_
     refine tk rfl (PE.build (out:=[_,_,_,_,_,_]) Zbg Z3t rfl rfl) rfl (alc rfl Z3t rfl (fun b16=>?_))
     refine bg (fun w hs=>⟨(lh sc3 rfl rfl) w hs,(lhA [_,_,_,_] ZM rfl rfl rfl) w hs,trivial⟩) ?_
     refine sto rfl rfl rfl Z7f rfl rfl rfl rfl ?_
     refine bgT (sqt 5 rfl (spL rfl rfl (lh Z3b rfl rfl) rfl (spL rfl rfl (lhA [_,_,_,_] ZM rfl rfl rfl) rfl ?_)))
     refine spK rfl rfl rfl (Z7o hcm (Zi1 (x:=m40)) [t0,t1,t2,t3] rfl) rfl ?_
     have hl6:=(Z6Z hcm [t0,t1,t2,t3]).1
     obtain ⟨ol,hol⟩:∃ ol,(Z0e cu [t0,t1,t2,t3]).getD zw=ol:=⟨_,rfl⟩
     rw [hol] at hl6 ⊢
     obtain ⟨o0,o1,o2,o3,o4,o5,rfl⟩:=Z6D hl6
     refine alc rfl Z3t rfl (fun b17=>?_)
     refine sto rfl rfl rfl Z7f rfl rfl rfl rfl ?_
     refine sqt 10 rfl (spL rfl rfl (lhA [_,_,_,_,_,_] Z8X rfl rfl rfl) rfl (sp rfl (PE.build (out:=[_,_,_,_,_,_]) Zbg Z3t rfl rfl) rfl (sp rfl (PE.eqlAgg [o0,o1,o2,o3,o4,o5] [0,0,0,0,0,0] (Z1v 10000 284 true 6 ZdT) ZdU rfl rfl rfl rfl) rfl (pur 1 rfl ?_))))
     refine Zv 82 rfl ?_ ?_<;>intro g82
     have hu:Z29 cu ([t0,t1,t2,t3],[s0,s1,s2,s3,(Z0D l:Int),w5+(l.length:Int)])=Z8E cu [t0,t1,t2,t3] [s0,s1,s2,s3,(Z0D l:Int),w5+(l.length:Int)]:=by unfold Z29;dsimp only;rw [hol,show decide ([o0,o1,o2,o3,o4,o5]=zw)=true from g82];rfl
     refine pur 6 rfl ?_
     refine Zt rfl ?_
     refine sqr 4 rfl (spL rfl rfl (lh Z3b rfl rfl) rfl (spL rfl rfl (lhA [_,_,_,_] ZM rfl rfl rfl) rfl (spL rfl rfl (lhA [_,_,_,_,_,_] Z8X rfl rfl rfl) rfl ?_)))
     refine mpu (kvw cu) [t0,t1,t2,t3] (v:=wvl [s0,s1,s2,s3,(Z0D l:Int),w5+(l.length:Int)]) rfl Z4g (KeyT.of Z1w Z1C) rfl rfl rfl rfl (Z35 hcm) ?_
     rw [Z4b]
     exact Zn (.inl ⟨rfl,rfl,rfl⟩) (fun w h=>by rw [hcs2,hu];exact (((h.del b17).del b16).del b14).ftail)
     refine spG rfl rfl rfl rfl (PE.fA Z1z rfl) rfl ?_
     refine Z0E rfl rfl rfl rfl rfl (lh sc3 rfl rfl) rfl ?_
     refine spG rfl rfl rfl rfl (PE.fA Z1z rfl) rfl ?_
     refine Z0E rfl rfl rfl rfl rfl (lh sc3 rfl rfl) rfl (pur 2 rfl ?_)
     refine Z2 rfl ?_ ?_<;>intro hc3
     have hu:Z29 cu ([t0,t1,t2,t3],[s0,s1,s2,s3,(Z0D l:Int),w5+(l.length:Int)])=Z8E cu [t0,t1,t2,t3] [s0,s1,s2,s3,(Z0D l:Int),w5+(l.length:Int)]:=by unfold Z29;dsimp only;rw [hol,show decide ([o0,o1,o2,o3,o4,o5]=zw)=false from g82,show decide (na [s0,s1,s2,s3,(Z0D l:Int),w5+(l.length:Int)] 5<na [o0,o1,o2,o3,o4,o5] 5)=true from hc3];rfl
     refine sqr 4 rfl (spL rfl rfl (lh Z3b rfl rfl) rfl (spL rfl rfl (lhA [_,_,_,_] ZM rfl rfl rfl) rfl (spL rfl rfl (lhA [_,_,_,_,_,_] Z8X rfl rfl rfl) rfl ?_)))
     refine mpu (kvw cu) [t0,t1,t2,t3] (v:=wvl [s0,s1,s2,s3,(Z0D l:Int),w5+(l.length:Int)]) rfl Z4g (KeyT.of Z1w Z1C) rfl rfl rfl rfl (Z35 hcm) ?_
     rw [Z4b]
     exact Zn (.inl ⟨rfl,rfl,rfl⟩) (fun w h=>by rw [hcs2,hu];exact (((h.del b17).del b16).del b14).ftail)
     have hu:Z29 cu ([t0,t1,t2,t3],[s0,s1,s2,s3,(Z0D l:Int),w5+(l.length:Int)])=cu:=by unfold Z29;dsimp only;rw [hol,show decide ([o0,o1,o2,o3,o4,o5]=zw)=false from g82,show decide (na [s0,s1,s2,s3,(Z0D l:Int),w5+(l.length:Int)] 5<na [o0,o1,o2,o3,o4,o5] 5)=false from hc3];rfl
     refine Z1 ?_
     exact Zn (.inl ⟨rfl,rfl,rfl⟩) (fun w h=>by rw [hcs2,hu];exact (((h.del b17).del b16).del b14).ftail)
     refine Z1o ?_ ?_
     refine alc rfl Z3t rfl (fun b16=>?_)
     refine bg (fun w hs=>⟨(lh sc3 rfl rfl) w hs,(lhA [_,_,_,_] ZM rfl rfl rfl) w hs,trivial⟩) ?_
     refine clV rfl Zdz rfl rfl (Za9 l (fun k hk=>by have h1:=hlt k hk;have h2:b.dsk.n≤4:=hdk.n.2;omega) hll a c _ _) ?_
     refine bg (fun w hs=>⟨(lh sc3 rfl rfl) w hs,(lhA [_,_,_,_] ZM rfl rfl rfl) w hs,trivial⟩) ?_
     refine tk rfl (PE.build (out:=[_,_,_,_,_,_]) Zbg Z3t rfl rfl) rfl ?_
     refine sto rfl rfl rfl Z7f rfl rfl rfl rfl ?_
     refine bgT (sqt 5 rfl (spL rfl rfl (lh Z3b rfl rfl) rfl (spL rfl rfl (lhA [_,_,_,_] ZM rfl rfl rfl) rfl ?_)))
     refine spK rfl rfl rfl (Z7o hcm (Zi1 (x:=m40)) [t0,t1,t2,t3] rfl) rfl ?_
     have hl6:=(Z6Z hcm [t0,t1,t2,t3]).1
     obtain ⟨ol,hol⟩:∃ ol,(Z0e cu [t0,t1,t2,t3]).getD zw=ol:=⟨_,rfl⟩
     rw [hol] at hl6 ⊢
     obtain ⟨o0,o1,o2,o3,o4,o5,rfl⟩:=Z6D hl6
     refine alc rfl Z3t rfl (fun b17=>?_)
     refine sto rfl rfl rfl Z7f rfl rfl rfl rfl ?_
     refine sqt 10 rfl (spL rfl rfl (lhA [_,_,_,_,_,_] Z8X rfl rfl rfl) rfl (sp rfl (PE.build (out:=[_,_,_,_,_,_]) Zbg Z3t rfl rfl) rfl (sp rfl (PE.eqlAgg [o0,o1,o2,o3,o4,o5] [0,0,0,0,0,0] (Z1v 10000 284 true 6 ZdT) ZdU rfl rfl rfl rfl) rfl (pur 1 rfl ?_))))
     refine Zv 82 rfl ?_ ?_<;>intro g82
     have hu:Z29 cu ([t0,t1,t2,t3],[s0,s1,s2,s3,(Z0D l:Int),w5+(l.length:Int)])=Z8E cu [t0,t1,t2,t3] [s0,s1,s2,s3,(Z0D l:Int),w5+(l.length:Int)]:=by unfold Z29;dsimp only;rw [hol,show decide ([o0,o1,o2,o3,o4,o5]=zw)=true from g82];rfl
     refine pur 6 rfl ?_
     refine Zt rfl ?_
     refine sqr 4 rfl (spL rfl rfl (lh Z3b rfl rfl) rfl (spL rfl rfl (lhA [_,_,_,_] ZM rfl rfl rfl) rfl (spL rfl rfl (lhA [_,_,_,_,_,_] Z8X rfl rfl rfl) rfl ?_)))
     refine mpu (kvw cu) [t0,t1,t2,t3] (v:=wvl [s0,s1,s2,s3,(Z0D l:Int),w5+(l.length:Int)]) rfl Z4g (KeyT.of Z1w Z1C) rfl rfl rfl rfl (Z35 hcm) ?_
     rw [Z4b]
     exact Zn (.inl ⟨rfl,rfl,rfl⟩) (fun w h=>by rw [hcs2,hu];exact (((h.del b17).del b16).del b14).ftail)
     refine spG rfl rfl rfl rfl (PE.fA Z1z rfl) rfl ?_
     refine Z0E rfl rfl rfl rfl rfl (lh sc3 rfl rfl) rfl ?_
     refine spG rfl rfl rfl rfl (PE.fA Z1z rfl) rfl ?_
     refine Z0E rfl rfl rfl rfl rfl (lh sc3 rfl rfl) rfl (pur 2 rfl ?_)
     refine Z2 rfl ?_ ?_<;>intro hc3
     have hu:Z29 cu ([t0,t1,t2,t3],[s0,s1,s2,s3,(Z0D l:Int),w5+(l.length:Int)])=Z8E cu [t0,t1,t2,t3] [s0,s1,s2,s3,(Z0D l:Int),w5+(l.length:Int)]:=by unfold Z29;dsimp only;rw [hol,show decide ([o0,o1,o2,o3,o4,o5]=zw)=false from g82,show decide (na [s0,s1,s2,s3,(Z0D l:Int),w5+(l.length:Int)] 5<na [o0,o1,o2,o3,o4,o5] 5)=true from hc3];rfl
     refine sqr 4 rfl (spL rfl rfl (lh Z3b rfl rfl) rfl (spL rfl rfl (lhA [_,_,_,_] ZM rfl rfl rfl) rfl (spL rfl rfl (lhA [_,_,_,_,_,_] Z8X rfl rfl rfl) rfl ?_)))
     refine mpu (kvw cu) [t0,t1,t2,t3] (v:=wvl [s0,s1,s2,s3,(Z0D l:Int),w5+(l.length:Int)]) rfl Z4g (KeyT.of Z1w Z1C) rfl rfl rfl rfl (Z35 hcm) ?_
     rw [Z4b]
     exact Zn (.inl ⟨rfl,rfl,rfl⟩) (fun w h=>by rw [hcs2,hu];exact (((h.del b17).del b16).del b14).ftail)
     have hu:Z29 cu ([t0,t1,t2,t3],[s0,s1,s2,s3,(Z0D l:Int),w5+(l.length:Int)])=cu:=by unfold Z29;dsimp only;rw [hol,show decide ([o0,o1,o2,o3,o4,o5]=zw)=false from g82,show decide (na [s0,s1,s2,s3,(Z0D l:Int),w5+(l.length:Int)] 5<na [o0,o1,o2,o3,o4,o5] 5)=false from hc3];rfl
     refine Z1 ?_
     exact Zn (.inl ⟨rfl,rfl,rfl⟩) (fun w h=>by rw [hcs2,hu];exact (((h.del b17).del b16).del b14).ftail)
     exact Z3f
     rintro _ _ _ _ ⟨rfl,rfl,rfl,rfl⟩
     refine Z6U ?_
     exact Zn (.inl ⟨rfl,_,rfl,rfl,rfl⟩) (fun w h=>by rw [hnk];exact ((h.del b11).del b10).ftail.ftail)
   rintro _ _ _ _ ⟨rfl,rfl,rfl,rfl⟩
   refine Z6U ?_
   refine sqr 5 rfl (spL rfl rfl (lh Z7D rfl rfl) rfl (spL rfl rfl (lh Z3b rfl rfl) rfl ?_))
   refine bsl (out:=[_]) rfl Zix Zg2 rfl rfl rfl rfl rfl rfl (fun b94=>?_)
   rw [← hrf]
   refine Sy.heap (H':=(b94,cel 285 [.map (some m40)])::(bd0,.deferred (some []))::(b9,cel 285 [.map (some m40)])::(m40,Zz true (kvw (Z6J b.dsk (Z03 b.dsk b.state d) b.dsk.nst)))::(b8,cel 3 [.int .i64 d])::(b7,cel 286 [o.fs])::(b3,cel 3 [.int .i64 days])::(b2,cel 137 [.pointer (some ⟨bd,0,none⟩)])::(o.G++(mkh mk++H))) (fun w h=>by rw [hrG];exact h) ?_
   refine apO (o) rfl Zjb rfl rfl (Z0B (row:=[.map (some m40)]) rfl) rfl rfl ((by rw [Z37];simp only [List.length_singleton];omega)) rfl (fun o95=>?_)
   refine ZH (l':=[o95.fs]) rfl rfl rfl ZhL rfl (by rw [o95.cells.1];first | done | rfl) (by rw [o95.cells.1];simp [o95.cells.2]) (by rw [o95.cells.1];first | done | rfl) (by rw [o95.cells.1];first | done | exact Nat.le_refl _) ?_
   refine sqr 2 rfl (sp rfl (PE.add rfl rfl (by omega)) rfl (pur 1 rfl ?_))
   exact Z1Z ⟨⟨(d+1,ms++[(m40,(Z6J b.dsk (Z03 b.dsk b.state d) b.dsk.nst))],bd0::mk),by dsimp only;omega,MsOk.snoc ⟨hml,hmg⟩ m40⟩,o95.cast (Z7r ms m40 _).symm⟩ (by dsimp only;omega) sbA rfl (fun w h=>St.sub ((St.maps (ms:=ms) ((((h.del b94).del b9).del b8).pull m40)).perm (ZC [_] ([_,_,_]++o95.G) _)))
  ·
   obtain rfl:days=d:=by omega
   refine Z7 (Z9 (Z9 (Zk (sqt 1 rfl (alc rfl Z1k rfl (fun b18=>sqt 4 rfl (alc rfl zl3 rfl (fun b19=>alc rfl zl4 rfl (fun b20=>?_)))))))))
   refine sto rfl rfl rfl cn3 rfl rfl rfl rfl ?_
   refine sto rfl rfl rfl cn4 rfl rfl rfl rfl ?_
   refine Z0 (sqt 2 rfl (spL rfl rfl (lh Z0Q rfl rfl) rfl ?_))
   refine cl rfl ZeT rfl rfl (Z5b bd _ _) ?_
   rintro _ _ _ ⟨xb,rfl,rfl,rfl⟩
   refine Z3 ?_
   refine Z1g rfl Zac (fun c2 bl2 bd2 hcp2 hca2 hcb2 hck2=>?_)
   refine ⟨fun st pend T R'=>st = .ready∧pend=none∧T=(bd2,.deferred (some []))::(b20,cel 4 [.bool (Z0j b.dsk (Z03 b.dsk b.state days) b.dsk.nst).isSome])::(b19,cel 3 [.int .i64 (bN (Z0j b.dsk (Z03 b.dsk b.state days) b.dsk.nst))])::(b18,cel 140 (Za (bS (Z0j b.dsk (Z03 b.dsk b.state days) b.dsk.nst))))::(b7,cel 286 [.slice (some ⟨br,0,none⟩) ms.length cr])::(b3,cel 3 [.int .i64 days])::(b2,cel 137 [.pointer (some ⟨bd,0,none⟩)])::(br,cel 285 (Z1m ms++jr))::(mkh mk++H)∧R'=RowsA (some ⟨xb,0,none⟩) 1 [[.pointer (some ⟨bd,0,none⟩)]]::Z2n ms::R,
     Fn.mono (Z3W b hok ab cb bd m xb bl2 (fun k H' R'=>H'=(bl2,lob c2 .ready none)::(bd2,.deferred (some []))::(b20,cel 4 [.bool (Z0j b.dsk (Z03 b.dsk b.state days) k).isSome])::(b19,cel 3 [.int .i64 (bN (Z0j b.dsk (Z03 b.dsk b.state days) k))])::(b18,cel 140 (Za (bS (Z0j b.dsk (Z03 b.dsk b.state days) k))))::(b7,cel 286 [.slice (some ⟨br,0,none⟩) ms.length cr])::(b3,cel 3 [.int .i64 days])::(b2,cel 137 [.pointer (some ⟨bd,0,none⟩)])::(br,cel 285 (Z1m ms++jr))::(mkh mk++H)∧R'=RowsA (some ⟨xb,0,none⟩) 1 [[.pointer (some ⟨bd,0,none⟩)]]::Z2n ms::R) (fun _ _=>False)
       (fun k H' R' h=>by obtain ⟨_,rfl⟩:=h;exact ⟨by simp,List.mem_cons_of_mem _ (List.mem_cons_of_mem _ hD.mem)⟩) (fun k s q oo H' R' hk hI=>?_) _ _ ⟨rfl,rfl⟩) (fun v H' R' h=>?_),?_⟩
   rotate_left
   · rcases h with ⟨rfl,rfl⟩ | h
     · exact ⟨.ready,none,_,by simp,.refl _,rfl,rfl,rfl,rfl⟩
     · exact h.elim
   rotate_left
   have hmem:=List.mem_of_getElem? hk
   have hsi:=(b.dsk.mem_sts hdk s).1 hmem
   obtain ⟨s0,s1,s2,s3,rfl⟩:=Z36 hsi.len
   have hbs:=Z90 (m:=(Z03 b.dsk b.state days)) hk
   have hbl:=Z66 hdk (Z03 b.dsk b.state days) k
   obtain ⟨hw6,hw4,hw5⟩:=Z6Z hmok [s0,s1,s2,s3]
   obtain ⟨wo,hwo⟩:∃ wo,Z0e (Z03 b.dsk b.state days) [s0,s1,s2,s3]=wo:=⟨_,rfl⟩
   rw [hwo] at hw6 hw4 hw5
   obtain ⟨rfl,rfl⟩:=hI
   obtain ⟨acc,hacc⟩:∃ acc,(Z0j b.dsk (Z03 b.dsk b.state days) k)=acc:=⟨_,rfl⟩
   rw [hacc] at hbs hbl ⊢
   refine Z7Q hcp2 hca2 hcb2 hck2 rfl ?_
   refine sqr 2 rfl (alc rfl Z1k rfl (fun b21=>?_))
   refine sto rfl rfl rfl Z1p rfl rfl rfl rfl ?_
   refine ZK ?_
   refine Z3 (Z0 ?_)
   refine Zb [0,0,3,7,0,31,63,127,127,0,767,2047] (.ld 0 (.ld 1 (.tk 2 (.ld 3 (.ld 4 (.ld 5 (tks 6 3 (.big 9 (.big 10 (.tk 11 .done)))))))))) Zo (by kernel_rfl) ?_
   refine ld rfl rfl (lh Z7D rfl rfl) rfl (ld rfl rfl (lh sc3 rfl rfl) rfl (tk rfl (PE.indexAddr Zf9 rfl rfl (by omega) (by omega)) rfl (ld rfl rfl (lh Z3b rfl (Z4T hmj (by show 0+((days:Nat):Int).toNat*1=days;omega))) rfl (ld rfl rfl (lhA [_,_,_,_] ZM rfl rfl rfl) rfl ?_))))
   refine ldK rfl rfl rfl (Z5w hmok (Z1U (List.mem_of_getElem? hmj)) [s0,s1,s2,s3] rfl hwo) rfl ?_
   refine Zl 3 rfl (alc rfl Z3t rfl (fun b22=>?_))
   refine bg (fun w hs=>⟨(Z5w hmok (Z1U (List.mem_of_getElem? hmj)) [s0,s1,s2,s3] rfl hwo) w hs,(lhA [_,_,_,_] ZM rfl rfl rfl) w hs,(lh Z3b rfl (Z4T hmj (by show 0+((days:Nat):Int).toNat*1=days;omega))) w hs,(lh sc3 rfl rfl) w hs,(lh Z7D rfl rfl) w hs,trivial⟩) ?_
   refine Z4z (vs:=Za (wo.getD zw)) rfl rfl rfl Z7f rfl (by rw [Z6];exact hw6) rfl (ZA _) ?_
   refine bgT (Zl 1 rfl (sqt 11 rfl (pur 2 rfl ?_)))
   refine Zv 110 rfl ?_ ?_<;>intro g110
   obtain ⟨w,rfl⟩:∃ w,wo=some w:=Option.isSome_iff_exists.1 g110
   obtain ⟨w0,w1,w2,w3,w4,w5,rfl⟩:=Z6D (show w.length=6 from hw6)
   refine Z0E rfl rfl rfl rfl rfl (lh sc4 rfl rfl) rfl (pur 2 rfl ?_)
   refine Zv 113 rfl ?_ ?_<;>intro g113
   have han:acc=none:=by cases acc with
     | none=>rfl
     | some w=>cases g113
   subst han
   have hb2:(Z0j b.dsk (Z03 b.dsk b.state days) (k+1))=some ([s0,s1,s2,s3],w5):=by rw [hbs];unfold Z3K;rw [hwo];rfl
   refine pur 6 rfl ?_
   refine Zt rfl ?_
   refine Zb [0,0,2,1,15,31] (.ld 0 (.tk 1 (.ld 2 (.big 3 (.big 4 (.big 5 .done)))))) Zo (by kernel_rfl) ?_
   refine ld rfl rfl (lhA [_,_,_,_] ZM rfl rfl rfl) rfl (tk rfl (PE.fA Z1z rfl) rfl (ld rfl rfl (lh sc3 rfl rfl) rfl ?_))
   refine sto rfl rfl rfl Z1p rfl rfl rfl rfl ?_
   refine bg (fun w hs=>⟨(lh sc3 rfl rfl) w hs,trivial,trivial⟩) ?_
   refine sto rfl rfl rfl cn3 rfl rfl rfl rfl ?_
   refine bgT ?_
   refine sto rfl rfl rfl cn4 rfl rfl rfl rfl ?_
   refine bgT ?_
   exact Zn (.inl ⟨rfl,_,rfl,rfl,rfl⟩) (fun w h=>by rw [hb2];exact (h.del b22).del b21)
   obtain ⟨⟨ta,nn⟩,rfl⟩:∃ p,acc=some p:=by cases acc with
     | none=>cases g113
     | some p=>exact ⟨p,rfl⟩
   obtain ⟨a0,a1,a2,a3,rfl⟩:=Z36 (show ta.length=4 from hbl)
   refine spG rfl rfl rfl rfl (PE.fA Z1z rfl) rfl ?_
   refine Z0E rfl rfl rfl rfl rfl (lh sc3 rfl rfl) rfl (Z0E rfl rfl rfl rfl rfl (lh sc3 rfl rfl) rfl (pur 3 rfl ?_))
   refine Z2 rfl ?_ ?_<;>intro hc4
   have hb2:(Z0j b.dsk (Z03 b.dsk b.state days) (k+1))=some ([s0,s1,s2,s3],w5):=by rw [hbs];unfold Z3K;rw [hwo];dsimp only;rw [show decide (na [w0,w1,w2,w3,w4,w5] 5<nn)=true from hc4];rfl
   refine Zb [0,0,2,1,15,31] (.ld 0 (.tk 1 (.ld 2 (.big 3 (.big 4 (.big 5 .done)))))) Zo (by kernel_rfl) ?_
   refine ld rfl rfl (lhA [_,_,_,_] ZM rfl rfl rfl) rfl (tk rfl (PE.fA Z1z rfl) rfl (ld rfl rfl (lh sc3 rfl rfl) rfl ?_))
   refine sto rfl rfl rfl Z1p rfl rfl rfl rfl ?_
   refine bg (fun w hs=>⟨(lh sc3 rfl rfl) w hs,trivial,trivial⟩) ?_
   refine sto rfl rfl rfl cn3 rfl rfl rfl rfl ?_
   refine bgT ?_
   refine sto rfl rfl rfl cn4 rfl rfl rfl rfl ?_
   refine bgT ?_
   exact Zn (.inl ⟨rfl,_,rfl,rfl,rfl⟩) (fun w h=>by rw [hb2];exact (h.del b22).del b21)
   have hb2:(Z0j b.dsk (Z03 b.dsk b.state days) (k+1))=some ([a0,a1,a2,a3],nn):=by rw [hbs];unfold Z3K;rw [hwo];dsimp only;rw [show decide (na [w0,w1,w2,w3,w4,w5] 5<nn)=false from hc4];rfl
   refine Z1 ?_
   exact Zn (.inl ⟨rfl,_,rfl,rfl,rfl⟩) (fun w h=>by rw [hb2];exact (h.del b22).del b21)
   have hwn:wo=none:=by cases wo with
     | none=>rfl
     | some w=>cases g110
   have hb2:(Z0j b.dsk (Z03 b.dsk b.state days) (k+1))=acc:=by rw [hbs];unfold Z3K;rw [hwo.trans hwn]
   refine pur 3 rfl ?_
   repeat refine spU rfl rfl rfl rfl rfl rfl rfl ?_
   refine pur 2 rfl ?_
   refine Zq rfl ?_
   refine Z1 ?_
   exact Zn (.inl ⟨rfl,_,rfl,rfl,rfl⟩) (fun w h=>by rw [hb2];exact (h.del b22).del b21)
   rintro _ _ _ _ ⟨rfl,rfl,rfl,rfl⟩
   have hbl:=Z66 hdk (Z03 b.dsk b.state days) b.dsk.nst
   obtain ⟨acc,hacc⟩:∃ acc,(Z0j b.dsk (Z03 b.dsk b.state days) b.dsk.nst)=acc:=⟨_,rfl⟩
   rw [hacc] at hbl ⊢
   refine Z6U ?_
   refine Z0 (sqt 2 rfl (spL rfl rfl (lh sc4 rfl rfl) rfl (pur 1 rfl ?_)))
   refine Z2 rfl ?_ ?_<;>intro hc5
   have han:acc=none:=by cases acc with
     | none=>rfl
     | some w=>cases hc5
   subst han
   refine sqt 3 rfl (pur 3 rfl (Z4 ?_))
   refine Sy.heap (H':=mkh (bd2::mk)++H) (R':=R) (fun w h=>St.sub (((((((h.del b20).del b19).del b18).del b7).del b3).del b2).del br)) ?_
   exact ZO (bd2::mk) idH rfl (.cons (RV.tmp rfl) (.cons (RV.tmp rfl) (.cons (RV.tmp rfl) .nil))) rfl ⟨rfl,.inl ⟨hacc,rfl,rfl⟩⟩ idH
   obtain ⟨⟨sb,nb⟩,rfl⟩:∃ p,acc=some p:=by cases acc with
     | none=>cases hc5
     | some p=>exact ⟨p,rfl⟩
   have hsb:sb.length=4:=hbl
   refine Z1 (sqt 3 rfl (spL rfl rfl (lh sc3 rfl rfl) rfl ?_))
   refine mkS rfl Zgj Zel rfl rfl (Nat.le_refl _) ⟨by omega,by omega⟩ rfl (fun b126=>?_)
   rw [Zit]
   refine pur 1 rfl (Z0 (sqt 2 rfl (spL rfl rfl (lh sc3 rfl rfl) rfl (pur 1 rfl (Z3 ?_)))))
   refine Zd (ι:={x:Nat×HSt×List PL // x.1≤days∧x.2.1.length=4∧x.2.2.length+x.1=days∧(Z0Z b.dsk b.state days sb).map il=(Z0Z b.dsk b.state x.1 x.2.1).map il++lls x.2.2}) (fun x=>⟨[(7,.pointer (some ⟨b7,0,none⟩)),(18,.pointer (some ⟨b18,0,none⟩)),(19,.pointer (some ⟨b19,0,none⟩)),(24,.slice (some ⟨b126,0,none⟩) days days),(25,.int .i64 x.1.1)],(b126,cel 23 (List.replicate x.1.1 (.slice none 0 0)++(plrows x.1.2.2).flatten))::(bd2,.deferred (some []))::(b20,cel 4 [.bool true])::(b19,cel 3 [.int .i64 nb])::(b18,cel 140 (Za x.1.2.1))::(b7,cel 286 [.slice (some ⟨br,0,none⟩) ms.length cr])::(b3,cel 3 [.int .i64 days])::(b2,cel 137 [.pointer (some ⟨bd,0,none⟩)])::(br,cel 285 (Z1m ms++jr))::(mkh mk++H),Inn x.1.2.2::RowsA (some ⟨xb,0,none⟩) 1 [[.pointer (some ⟨bd,0,none⟩)]]::Z2n ms::R⟩) (fun x=>x.1.1) ⟨(days,sb,[]),Nat.le_refl _,hsb,by simp,by simp [lls]⟩ ?_ (fun x=>?_)
   exact Zj (fun w h=>by dsimp only;rw [show (plrows []).flatten=[] from rfl,List.append_nil];exact h.also fun _ _ y hy=>by cases hy)
   obtain ⟨⟨j,sj,pl⟩,hj,hjs,hjl,hjb⟩:=x
   dsimp only at hj hjs hjl hjb ⊢
   refine Z0 (sqt 2 rfl (pur 2 rfl ?_))
   refine Z2 rfl ?_ ?_<;>intro hc6<;>try simp only [cS] at hc6
   obtain ⟨i,rfl⟩:∃ i,j=i+1:=⟨j-1,by omega⟩
   obtain ⟨s0,s1,s2,s3,rfl⟩:=Z36 hjs
   obtain ⟨mi,hmi⟩:=hmg (i+1) (by omega)
   have hmo:=Z7p hdk hs0 (i+1)
   obtain ⟨hw6,hw4,_⟩:=Z6Z hmo [s0,s1,s2,s3]
   obtain ⟨wo,hwo⟩:∃ wo,(Z0e (Z03 b.dsk b.state (i+1)) [s0,s1,s2,s3]).getD zw=wo:=⟨_,rfl⟩
   rw [hwo] at hw6 hw4
   obtain ⟨w0,w1,w2,w3,w4,w5,rfl⟩:=Z6D hw6
   have hw4':0≤w4∧w4<16:=hw4
   obtain ⟨n4,rfl⟩:∃ n:Nat,w4=n:=⟨w4.toNat,by omega⟩
   have hback:Z0Z b.dsk b.state (i+1) [s0,s1,s2,s3]=Z0Z b.dsk b.state i [w0,w1,w2,w3]++[ZL 4 n4]:=by
     show Z0Z b.dsk b.state i (((Z0e (Z03 b.dsk b.state (i+1)) [s0,s1,s2,s3]).getD zw).take 4)++[ZL 4 (na ((Z0e (Z03 b.dsk b.state (i+1)) [s0,s1,s2,s3]).getD zw) 4).toNat]=_
     rw [hwo];rfl
   refine Z1 (Z0 (Z3 (Z0 ?_)))
   refine Zb [0,0,3,7,0,31,0,127] (.ld 0 (.tk 1 (.tk 2 (.ld 3 (.ld 4 (.ld 5 (.big 6 (.big 7 .done)))))))) Zo (by kernel_rfl) ?_
   refine ld rfl rfl (lh Z7D rfl rfl) rfl (Zl 1 rfl (tk rfl (PE.indexAddr Zf9 rfl rfl (by omega) (by omega)) rfl (ld rfl rfl (lh Z3b rfl (Z4T hmi (by show 0+((i+1:Nat):Int).toNat*1=i+1;omega))) rfl (ld rfl rfl (lhA [_,_,_,_] ZM rfl rfl rfl) rfl ?_))))
   refine ldK rfl rfl rfl (Z8w hmo (Z1U (List.mem_of_getElem? hmi)) [s0,s1,s2,s3] rfl hwo) rfl ?_
   refine alc rfl Z3t rfl (fun b26=>?_)
   refine bg (fun w hs=>⟨(Z8w hmo (Z1U (List.mem_of_getElem? hmi)) [s0,s1,s2,s3] rfl hwo) w hs,(lhA [_,_,_,_] ZM rfl rfl rfl) w hs,(lh Z3b rfl (Z4T hmi (by show 0+((i+1:Nat):Int).toNat*1=i+1;omega))) w hs,(lh Z7D rfl rfl) w hs,trivial⟩) ?_
   refine sto rfl rfl rfl Z7f rfl rfl rfl rfl ?_
   refine bgT ?_
   refine Zb [0,0,2,0,8,24,0,64,63,319,1023] (tks 0 4 (.ld 4 (.tk 6 (.ld 7 (.big 5 (.tk 8 (.big 9 (.big 10 .done)))))))) Zo (by kernel_rfl) ?_
   refine Zl 2 rfl (tk rfl (PE.sub rfl rfl (by omega)) rfl (tk rfl (PE.fA Zfi rfl) rfl (ld rfl rfl (lh sc3 rfl rfl) rfl (tk rfl (PE.fA Zfh rfl) rfl (ld rfl rfl (lhA [_,_,_,_] ZM rfl rfl rfl) rfl ?_)))))
   refine cl rfl ZgU rfl rfl (Z7X n4 (by omega) _ _) ?_
   rintro _ _ _ ⟨ol,rfl,rfl,rfl⟩
   refine bg (fun w hs=>⟨(lhA [_,_,_,_] ZM rfl rfl rfl) w hs,trivial,trivial⟩) ?_
   refine tk rfl (PE.indexAddr ZcB rfl rfl (by omega) (by omega)) rfl ?_
   refine ZH (l':=List.replicate i (.slice none 0 0)++(ol.fs::(plrows pl).flatten)) rfl rfl rfl ZeW rfl (by rw [ol.cells.1];first | done | rfl) (by rw [ol.cells.1];simp [ol.cells.2]) (by rw [ol.cells.1];exact Zdd (by show 0+(((i+1:Nat):Int)-1).toNat*1=i;omega)) (by rw [ol.cells.1,List.length_append,List.length_replicate];show 0+(((i+1:Nat):Int)-1).toNat*1+1≤_;omega) ?_
   refine bg (fun w hs=>⟨(lhA [_,_,_,_] ZM rfl rfl rfl) w hs,trivial⟩) ?_
   refine sto rfl rfl rfl Z1p rfl rfl rfl rfl ?_
   refine bgT (sqr 3 rfl ?_)
   obtain ⟨al,cl,he,hf⟩:=ol.freeze
   rw [he,Zu]
   refine Sy.heap (fun w h=>hf h) ?_
   clear he hf
   refine pur 1 rfl (sp rfl (PE.sub rfl rfl (by omega)) rfl (pur 1 rfl ?_))
   rw [show (((i+1:Nat):Int)-1)=(i:Int) by omega]
   exact Zc ⟨(i,[w0,w1,w2,w3],⟨al,cl,il (ZL 4 n4)⟩::pl),by dsimp only;omega,rfl,by simp only [List.length_cons];omega,by rw [hjb,hback];simp [lls]⟩ (fun w h=>St.sub (St.innCons (a:=al) (c:=cl) (l0:=il (ZL 4 n4)) (l:=pl) (h.del b26)))
   obtain rfl:j=0:=by omega
   refine Z7 (Z9 (Z9 (Zk (Z0 ?_))))
   refine Zb [0,0,1,7,15] (.tk 0 (.ld 1 (tks 2 3 .done))) Zo (by kernel_rfl) ?_
   refine Zl 1 rfl (ld rfl rfl (lh sc3 rfl rfl) rfl (Zl 3 rfl (Z4 ?_)))
   refine Sy.heap (H':=mkh (bd2::mk)++H) (R':=RowsA (some ⟨b126,0,none⟩) 1 (plrows pl)::Inn pl::R) (fun w h=>St.sub (St.rows (sz:=1) (rows:=plrows pl) (rest:=[]) (by rw [List.append_nil];exact (((((((h.del b20).del b19).del b18).del b7).del b3).del b2).del br)) (fun r hr=>by obtain ⟨x,_,rfl⟩:=List.mem_map.1 hr;rfl))) ?_
   exact ZO (bd2::mk) idH rfl (.cons (RV.tmp rfl) (.cons (RV.tmp rfl) (.cons (RV.tmp rfl) .nil))) rfl ⟨rfl,.inr ⟨sb,nb,pl,b126,hacc,by rw [hjb];rfl,rfl,rfl⟩⟩ idH
theorem ZgA:cal Tryz.prog 101=true:=by kernel_rfl
theorem Zjy:cal Tryz.prog 46=true:=by kernel_rfl
def Z15 (b:Barn) (days:Int):Int:=bif decide (b.check=0) then (bif !(inB days 0 20) then 3 else (bif (Z0j b.dsk (Z03 b.dsk b.state days.toNat) b.dsk.nst).isNone then 6 else 0)) else b.check
def Z28 (b:Barn) (days:Int):Int:=bif decide (Z15 b days=0) then bN (Z0j b.dsk (Z03 b.dsk b.state days.toNat) b.dsk.nst) else 0
def Z8J (b:Barn) (days:Int):List (List Int):=(Z0Z b.dsk b.state days.toNat (bS (Z0j b.dsk (Z03 b.dsk b.state days.toNat) b.dsk.nst))).map il
def ZkC (b:Barn) (days:Int) (H:Z8) (R:Z5):Value→Z8→Z5→Prop:=fun v H' R'=>H'=H ∧
 ((Z15 b days≠0∧v = .tuple #[.slice none 0 0,.int .i64 0,.int .i64 (Z15 b days)]∧R'=R) ∨
  (Z15 b days=0∧∃ (pl:List PL) (bp:Nat),lls pl=Z8J b days∧v = .tuple #[.slice (some ⟨bp,0,none⟩) days.toNat days.toNat,.int .i64 (Z28 b days),.int .i64 0]∧R'=RowsA (some ⟨bp,0,none⟩) 1 (plrows pl)::Inn pl::R))
theorem Z79 (b:Barn) (ab:Option Addr) (cb:Nat) (hl:b.bins.length≤9223372036854775807) (hr:b.rise.length=6) (days:Int) (H:Z8) (R:Z5) [hB:MemRows ab 4 (brows b.bins) R] :
    Fn Tryz.prog 46 [b.v (b.sl ab cb),.int .i64 days] H R (ZkC b days H R):=by
 refine Ze Tryz.func46 rfl Tryz.ntmps46 rfl ?_
 refine sqt 4 rfl (bx rfl rfl rfl (fun b2=>pur 3 rfl (sqt 7 rfl (spL rfl rfl (lhA (btl b (b.sl ab cb)) Z1r rfl rfl rfl) rfl ?_))))
 refine cl rfl Zhv rfl rfl (Z2r b ab cb hl hr _ _) ?_
 rintro _ _ _ (⟨hck,rfl,rfl,rfl⟩ | ⟨hck,bd,m,rfl,rfl,rfl⟩)
 refine pur 5 rfl (Z0 (Z3 (sqt 3 rfl (pur 3 rfl ?_))))
 refine Zt (congrArg (fun b=>some (Value.bool b)) (dT hck)) ?_
 refine sqt 4 rfl ?_
 have ese:Z15 b days=b.check:=by unfold Z15;rw [dF hck];rfl
 refine pur 4 rfl (Z4 ?_)
 exact rtC rfl rfl rfl rfl rfl ⟨rfl,.inl ⟨by rw [ese];exact hck,by rw [ese];rfl,rfl⟩⟩ drp
 have hok:=Barn.ok_of hr hck
 have hdk:=b.dsk_ok hok
 have hl4:=hdk.lasts.len
 have hm4:=hdk.most.len
 refine pur 5 rfl (Z0 (Z3 (sqt 3 rfl (pur 3 rfl ?_))))
 refine Zq (rfl) ?_
 refine sqt 4 rfl (pur 1 rfl ?_)
 refine clV rfl Z2s rfl rfl (Z71 _ _ _ _ _) ?_
 refine pur 2 rfl ?_
 refine Z2 rfl ?_ ?_<;>intro hc1
 have ese:Z15 b days=3:=by unfold Z15;rw [dT hck,hc1];rfl
 refine sqt 3 rfl (pur 3 rfl (Z4 ?_))
 exact rtC rfl rfl rfl rfl rfl ⟨rfl,.inl ⟨by rw [ese];decide,by rw [ese];rfl,rfl⟩⟩ (fun w h=>((h.del b2).del m).ftail)
 have hin:=hc1
 rw [Bool.not_eq_false'] at hin
 simp only [inB,Bool.and_eq_true,decide_eq_true_eq] at hin
 obtain ⟨n,rfl⟩:∃ n:Nat,days=n:=⟨days.toNat,by omega⟩
 refine Z1 (sqt 10 rfl (pur 2 rfl ?_))
 refine cl rfl ZgA rfl rfl (Zcj b hok ab cb bd m n (by omega) _ _) ?_
 rintro _ _ R1 ⟨rfl,hQ⟩
 rcases hQ with ⟨hbn,rfl,hR1⟩ | ⟨sb,nb,pl,bp,hbn,hpl,rfl,hR1⟩<;>obtain rfl:=hR1.symm
 refine pur 7 rfl (Z0 (sqt 2 rfl ?_))
 have ese:Z15 b (n:Int)=6:=by unfold Z15;rw [dT hck,hc1,Int.toNat_natCast,hbn];rfl
 refine pur 2 rfl ?_
 refine Zt rfl ?_
 refine sqt 3 rfl (pur 3 rfl (Z4 ?_))
 exact rtC rfl rfl rfl rfl rfl ⟨rfl,.inl ⟨by rw [ese];decide,by rw [ese];rfl,rfl⟩⟩ (fun w h=>((h.del b2).del m).ftail)
 refine pur 7 rfl (Z0 (sqt 2 rfl ?_))
 have ese:Z15 b (n:Int)=0:=by unfold Z15;rw [dT hck,hc1,Int.toNat_natCast,hbn];rfl
 have etv:Z28 b (n:Int)=nb:=by unfold Z28;rw [decide_eq_true ese,Int.toNat_natCast,hbn];rfl
 refine pur 2 rfl ?_
 refine Zq rfl ?_
 refine Z1 (sqt 5 rfl (pur 5 rfl (Z4 ?_)))
 exact rtC rfl rfl rfl rfl rfl ⟨rfl,.inr ⟨ese,pl,bp,by unfold Z8J;rw [Int.toNat_natCast,hbn];exact hpl,by rw [etv];rfl,rfl⟩⟩ (fun w h=>St.sub ((h.del b2).del m))
theorem c_Turnings (b:Barn) (ab:Option Addr) (cb:Nat) (hl:b.bins.length≤9223372036854775807) (hr:b.rise.length=6) (days:Int) (H:Z8) (R:Z5) [hB:MemRows ab 4 (brows b.bins) R] :
    FnV Tryz.prog 14 [b.v (b.sl ab cb),.int .i64 days] H R (.tuple #[.int .i64 (Z28 b days),.int .i64 (Z15 b days)]):=by
 refine Ze Tryz.func14 rfl Tryz.ntmps14 rfl ?_
 refine sqt 3 rfl (bx rfl rfl rfl (fun b2=>pur 2 rfl (sqt 10 rfl (spL rfl rfl (lhA (btl b (b.sl ab cb)) Z1r rfl rfl rfl) rfl (pur 1 rfl ?_)))))
 refine cl rfl Zjy rfl rfl (Z79 b ab cb hl hr days _ _) ?_
 rintro _ _ R1 ⟨rfl,hQ⟩
 rcases hQ with ⟨hpe,rfl,hR1⟩ | ⟨hpe,pl,bp,hpl,rfl,hR1⟩<;>obtain rfl:=hR1.symm
 refine pur 7 rfl (sqt 4 rfl (pur 4 rfl (Z4 ?_)))
 exact rtB rfl rfl rfl rfl ⟨by unfold Z28;rw [dF hpe];rfl,rfl,rfl⟩ drp
 refine pur 7 rfl (sqt 4 rfl (pur 4 rfl (Z4 ?_)))
 exact rtB rfl rfl rfl rfl ⟨by rw [hpe];rfl,rfl,rfl⟩ drp
theorem ZhM:ZF Tryz.prog 33=some 9:=by kernel_rfl
theorem Zkx:ZP Tryz.prog 33=some [(0,1),(1,1),(2,6),(8,1)]:=by kernel_rfl
theorem ZiW:ZP Tryz.prog 37=some [(0,1),(1,1)]:=by kernel_rfl
theorem ZiX:ZP Tryz.prog 39=some [(0,1),(1,1),(2,2)]:=by kernel_rfl
theorem Zg8:slE Tryz.prog 31=some (39,4):=by kernel_rfl
theorem ZkW:Zr Tryz.prog 30=some ([.int .i64 0,.int .i64 0,.int .i64 0,.int .i64 0,.int .i64 0,.int .i64 0]):=by kernel_rfl
theorem Zg3:Zr Tryz.prog 33=some ([.int .i64 0,.int .i64 0,.int .i64 0,.int .i64 0,.int .i64 0,.int .i64 0,.int .i64 0,.int .i64 0,.slice none 0 0]):=by kernel_rfl
theorem Zj0:Zr Tryz.prog 37=some ([.int .i64 0,.int .i64 0]):=by kernel_rfl
def thr (n:Nat):Barn:=⟨20,1,[0,0,6,8,10,20],[⟨20,40,3,4⟩,⟨30,50,2,3⟩,⟨30,40,4,4⟩].take n⟩
theorem ZfU {n:Nat} (h:n≤3):(thr n).bins.length=n:=by simp [thr];omega
theorem St.inn0 {H:Z8} {R:Z5} {w:World} (h:St H R w):St H (Inn []::R) w:=h.also fun _ _ y hy=>by cases hy
theorem ex_c:(thr 2).check=0∧(thr 3).check=0:=by decide +kernel
theorem ex_f:(thr 3).state∈(thr 3).dsk.alive 3∧(thr 3).state∉(thr 3).dsk.alive 4:=by decide +kernel
theorem c_Three (n:Nat) (hn:n≤3) (H:Z8) (R:Z5) :
    Fn Tryz.prog 32 [.int .i64 n] H R (fun v H' R'=>∃ ba,v=(thr n).v ((thr n).sl (some ⟨ba,0,none⟩) 3)∧H'=H∧R'=RowsA (some ⟨ba,0,none⟩) 4 (brows (thr n).bins)::R):=by
 refine Ze Tryz.func32 rfl Tryz.ntmps32 rfl ?_
 refine sqt 1 rfl (alc rfl Zg3 rfl (fun b2=>sqt 8 rfl (sp rfl (PE.build (out:=[_,_]) ZiW Zj0 rfl rfl) rfl (sp rfl (PE.build (out:=[_,_,_,_]) ZiX Z9q rfl rfl) rfl (sp rfl (PE.build (out:=[_,_]) ZiW Zj0 rfl rfl) rfl (sp rfl (PE.build (out:=[_,_,_,_]) ZiX Z9q rfl rfl) rfl (sp rfl (PE.build (out:=[_,_]) ZiW Zj0 rfl rfl) rfl (sp rfl (PE.build (out:=[_,_,_,_]) ZiX Z9q rfl rfl) rfl ?_))))))))
 refine bsl (out:=[_,_,_,_,_,_,_,_,_,_,_,_]) rfl Zg8 Z9q rfl rfl rfl rfl rfl rfl (fun b10=>?_)
 refine pur 1 rfl (sqt 10 rfl (sp rfl (PE.buildArr (out:=[_,_,_,_,_,_]) Zcb ZkW rfl rfl) rfl (pur 3 rfl (sp rfl (PE.lenSl Z1a rfl) rfl (sp rfl (PE.min rfl rfl) rfl (sp rfl (PE.max rfl rfl) rfl (sp rfl (PE.slHi (h:=n) Zg8 rfl (by rw [show (max (0:Int) (min (n:Int) ((3:Nat):Int)))=(n:Int) by omega];rfl) (by omega)) rfl (sp rfl (PE.build (out:=[_,_,_,_,_,_,_,_,_]) Zkx Zg3 rfl rfl) rfl ?_))))))))
 refine sto rfl rfl rfl ZhM rfl rfl rfl rfl ?_
 refine Z4 ?_
 refine Sy.heap (fun w h=>St.rows (sz:=4) (rows:=brows (thr 3).bins) (rest:=[]) (h.pull b10) (ZeF _)) ?_
 refine Sy.heap (R':=RowsA (some ⟨b10,0,none⟩) 4 (brows (thr n).bins)::R) (fun w h=>(h.rowsTake (a:=some ⟨b10,0,none⟩) (rows:=brows (thr 3).bins) n).facts (fun f hf=>by
   rcases List.mem_cons.1 hf with h1 | h1
   · rw [h1,show brows (thr n).bins=(brows (thr 3).bins).take n from by simp [brows,thr,List.map_take]];exact List.mem_cons_self
   · simp [h1])) ?_
 have hln:=ZfU hn
 exact Zg (vs:=[_]) rfl (.cons (RV.cell rfl (lhA [_,_,_,_,_,_,_,_,_] Z1r rfl rfl rfl)) .nil) rfl ⟨b10,by unfold Barn.sl;rw [hln];rfl,rfl,rfl⟩ (fun w h=>h.del b2)
def nin (n lo hi:Int):Bool:=decide (n<lo)||decide (hi<n)
theorem Zig (n lo hi:Int):nin n lo hi=!(inB n lo hi):=by
 unfold nin inB
 rw [Bool.not_and]
 congr 1
 · rw [← decide_not];exact decide_eq_decide.2 (by omega)
 · rw [← decide_not];exact decide_eq_decide.2 (by omega)
structure CkA (b:Barn):Prop where
 many:nin (b.bins.length:Int) 1 4=false
 cool:nin b.cool 0 60=false
 gangs:nin b.gangs 0 3=false
theorem CkA.rest {b:Barn} (h:CkA b) (hr:b.rise.all Z24=true) (hb:b.bins.all HBin.ok=true):b.check=bif !(srt b.rise)||!(b.bins.all fun x=>decide (x.lo≤x.hi)) then 4 else 0:=by
 have h1:=h.many;have h2:=h.cool;have h3:=h.gangs
 unfold Barn.check;rw [Zig] at h1 h2 h3;rw [h1,h2,h3,hr,hb];rfl
theorem Zeh {l:List Int} (h:srt l=true) {i:Nat}:∀ {j:Nat},i≤j→j<l.length→na l i≤na l j
 | 0, hij, hj => by obtain rfl : i = 0 := by omega
                    exact Int.le_refl _
 | j+1,hij,hj=>by
   rcases Nat.lt_or_ge j i with h1 | h1
   · obtain rfl:i=j+1:=by omega
     exact Int.le_refl _
   · have ih:=Zeh h (j:=j) h1 (by omega)
     have:¬ (na l (j+1)<na l j):=fun hlt=>by
       have:=Zb6 (na_get (by omega)) (na_get hj) hlt
       rw [h] at this;cases this
     omega
def Barn.binD (b:Barn) (k:Nat):HBin:=b.bins.getD k hb0
def ZiV (b:Barn) (p:List (List Int)) (k:Nat) (c:Int) (d:Nat):Prop:=(b.binD k).mark<wst b.cool (na b.rise c.toNat) k (b.binD k).warm (p.take (d+1))
structure Bst (S:Nat→Nat→Prop) (q:Nat×Nat×Bool):Prop where
 no:q.2.2=false→q.1=0∧q.2.1=0∧∀ k d,¬ S k d
 yes:q.2.2=true→S q.2.1 q.1∧∀ k d,S k d→q.1<d∨(q.1=d∧q.2.1≤k)
theorem Bst.iff {S S':Nat→Nat→Prop} {q:Nat×Nat×Bool} (h:Bst S q) (e:∀ k d,S' k d↔S k d):Bst S' q:=by
 have:S'=S:=by funext k d;exact propext (e k d)
 exact this▸h
theorem Bst.add {S S':Nat→Nat→Prop} {q:Nat×Nat×Bool} {k e:Nat} (h:Bst S q) (hS:∀ j d,S' j d↔S j d∨(j=k∧d=e)) (hq:q.2.2=false∨e<q.1):Bst S' (e,k,true) where
 no h:=by cases h
 yes _:=⟨(hS _ _).2 (.inr ⟨rfl,rfl⟩),fun j d hj=>by
   rcases (hS j d).1 hj with h1 | ⟨rfl,rfl⟩
   · cases hb:q.2.2 with
     | false=>exact absurd h1 ((h.no hb).2.2 j d)
     | true =>
       have:=(h.yes hb).2 j d h1
       rcases hq with hq | hq
       · rw [hb] at hq;cases hq
       · exact .inl (by show e<d;omega)
   · exact .inr ⟨rfl,Nat.le_refl _⟩⟩
theorem Bst.keep {S S':Nat→Nat→Prop} {q:Nat×Nat×Bool} {k e:Nat} (h:Bst S q) (hle:∀ j d,S j d→j≤k) (hS:∀ j d,S' j d↔S j d∨(j=k∧d=e)) (hq:q.2.2=true) (hq2:¬ e<q.1):Bst S' q where
 no h:=by rw [hq] at h;cases h
 yes _:=by
   obtain ⟨h1,h2⟩:=h.yes hq
   refine ⟨(hS _ _).2 (.inl h1),fun j d hj=>?_⟩
   rcases (hS j d).1 hj with h3 | ⟨rfl,rfl⟩
   · exact h2 j d h3
   · have:=hle _ _ h1
     omega
def hotW (b:Barn) (ws:List Int) (p:List (List Int)) (k d:Nat):Prop:=(b.binD k).mark<wst b.cool (b.worst (b.binD k)) k (na ws k) (p.take (d+1))
theorem Barn.burns_spec {b:Barn}:∀ (p:List (List Int)) (ws:List Int) (d0:Nat),((b.burnsF ws p d0).1=none∧∀ k<b.bins.length,∀ d<p.length,¬ hotW b ws p k d) ∨
   ∃ k e:Nat,(b.burnsF ws p d0).1=some (d0+e,k)∧k<b.bins.length∧e<p.length∧hotW b ws p k e∧∀ j<b.bins.length,∀ d<p.length,hotW b ws p j d→e<d∨(e=d∧k≤j)
 | [],ws,d0=>.inl ⟨rfl,fun k _ d hd=>absurd hd (Nat.not_lt_zero _)⟩
 | l::p,ws,d0=>by
   have h0:∀ k,hotW b ws (l::p) k 0↔b.hotAt ws l k=true:=fun k=>by
     unfold hotW Barn.hotAt
     rw [decide_eq_true_eq];exact Iff.rfl
   have h1:∀ k d,k<b.bins.length→(hotW b ws (l::p) k (d+1)↔hotW b (b.dayW ws l) p k d):=fun k d hk=>by
     unfold hotW
     rw [Z2f (b.dayW_at (ws:=ws) (l:=l) hk),List.take_succ_cons]
     exact Iff.rfl
   rw [b.burns_cons]
   cases hf:(List.range b.bins.length).find? (b.hotAt ws l) with
   | some k =>
     rw [List.find?_range_eq_some] at hf
     obtain ⟨f1,f2,f3⟩:=hf
     have f2:=List.mem_range.1 f2
     refine .inr ⟨k,0,rfl,f2,by simp,(h0 k).2 f1,fun j hj d hd hh=>?_⟩
     cases d with
     | succ d=>exact .inl (by omega)
     | zero =>
       refine .inr ⟨rfl,?_⟩
       rcases Nat.lt_or_ge j k with h4 | h4
       · have:=f3 j h4
         rw [(h0 j).1 hh] at this;cases this
       · exact h4
   | none =>
     dsimp only
     have hn:∀ k<b.bins.length,¬ hotW b ws (l::p) k 0:=fun k hk hh=>by
       have:=List.find?_eq_none.1 hf k (List.mem_range.2 hk)
       exact this ((h0 k).1 hh)
     rcases burns_spec p (b.dayW ws l) (d0+1) with ⟨i1,i2⟩ | ⟨k,e,i1,i2,i3,i4,i5⟩
     · refine .inl ⟨i1,fun k hk d hd hh=>?_⟩
       cases d with
       | zero=>exact hn k hk hh
       | succ d=>exact i2 k hk d (by simpa using hd) ((h1 k d hk).1 hh)
     · refine .inr ⟨k,e+1,by rw [i1];congr 2;omega,i2,by simpa using i3,(h1 k e i2).2 i4,fun j hj d hd hh=>?_⟩
       cases d with
       | zero=>exact absurd hh (hn j hj)
       | succ d =>
         have:=i5 j hj d (by simpa using hd) ((h1 j d hj).1 hh)
         omega
def brnQ (b:Barn) (p:List (List Int)):Nat×Nat×Bool:=match (b.burnsF b.warms p 0).1 with
 | none=>(0,0,false)
 | some (d,k)=>(d,k,true)
def SA (b:Barn) (p:List (List Int)) (k:Nat):Nat→Nat→Prop:=fun j d=>j<k∧d<p.length∧∃ c,(b.binD j).lo≤c∧c≤(b.binD j).hi∧ZiV b p j c d
def SB (b:Barn) (p:List (List Int)) (k:Nat) (c:Int):Nat→Nat→Prop:=fun j d=>SA b p k j d∨(j=k∧d<p.length∧∃ c',(b.binD k).lo≤c'∧c'<c∧ZiV b p k c' d)
def SC (b:Barn) (p:List (List Int)) (k:Nat) (c:Int) (e:Nat):Nat→Nat→Prop:=fun j d=>SB b p k c j d∨(j=k∧d<e∧ZiV b p k c d)
theorem SA.start {b:Barn} {p:List (List Int)}:Bst (SA b p 0) (0,0,false):=⟨fun _=>⟨rfl,rfl,fun k d h=>by have:=h.1;omega⟩,fun h=>by cases h⟩
theorem SB.start {b:Barn} {p:List (List Int)} {k:Nat} {c:Int} (hc:c=(b.binD k).lo) {q:Nat×Nat×Bool} (h:Bst (SA b p k) q):Bst (SB b p k c) q:=h.iff fun j d=>by
 constructor
 · rintro (h1 | ⟨_,_,c',h1,h2,_⟩)
   · exact h1
   · omega
 · exact .inl
theorem SC.start {b:Barn} {p:List (List Int)} {k:Nat} {c:Int} {q:Nat×Nat×Bool} (h:Bst (SB b p k c) q):Bst (SC b p k c 0) q:=h.iff fun j d=>by
 constructor
 · rintro (h1 | ⟨_,h1,_⟩)
   · exact h1
   · omega
 · exact .inl
theorem SC.le {b:Barn} {p:List (List Int)} {k:Nat} {c:Int} {e j d:Nat} (h:SC b p k c e j d):j≤k:=by
 rcases h with (h | h) | h
 · exact Nat.le_of_lt h.1
 · exact Nat.le_of_eq h.1
 · exact Nat.le_of_eq h.1
theorem SC.hot {b:Barn} {p:List (List Int)} {k:Nat} {c:Int} {e:Nat} (hn:ZiV b p k c e) (j d:Nat):SC b p k c (e+1) j d↔SC b p k c e j d∨(j=k∧d=e):=by
 constructor
 · rintro (h1 | ⟨h1,h2,h3⟩)
   · exact .inl (.inl h1)
   · rcases Nat.lt_or_ge d e with h4 | h4
     · exact .inl (.inr ⟨h1,h4,h3⟩)
     · exact .inr ⟨h1,by omega⟩
 · rintro ((h1 | ⟨h1,h2,h3⟩) | ⟨rfl,rfl⟩)
   · exact .inl h1
   · exact .inr ⟨h1,by omega,h3⟩
   · exact .inr ⟨rfl,by omega,hn⟩
theorem SC.done {b:Barn} {p:List (List Int)} {k:Nat} {c:Int} (hc:(b.binD k).lo≤c) {q:Nat×Nat×Bool} (h:Bst (SC b p k c p.length) q):Bst (SB b p k (c+1)) q:=h.iff fun j d=>by
 constructor
 · rintro (h1 | ⟨h1,h2,c',h3,h4,h5⟩)
   · exact .inl (.inl h1)
   · rcases Int.lt_or_le c' c with h6 | h6
     · exact .inl (.inr ⟨h1,h2,c',h3,h6,h5⟩)
     · obtain rfl:c'=c:=by omega
       exact .inr ⟨h1,h2,h5⟩
 · rintro ((h1 | ⟨h1,h2,c',h3,h4,h5⟩) | ⟨h1,h2,h3⟩)
   · exact .inl h1
   · exact .inr ⟨h1,h2,c',h3,by omega,h5⟩
   · exact .inr ⟨h1,h2,c,hc,by omega,h3⟩
theorem SB.done {b:Barn} {p:List (List Int)} {k:Nat} {c:Int} (hc:c=(b.binD k).hi+1) {q:Nat×Nat×Bool} (h:Bst (SB b p k c) q):Bst (SA b p (k+1)) q:=h.iff fun j d=>by
 constructor
 · rintro ⟨h1,h2,c',h3,h4,h5⟩
   rcases Nat.lt_or_ge j k with h6 | h6
   · exact .inl ⟨h6,h2,c',h3,h4,h5⟩
   · obtain rfl:j=k:=by omega
     exact .inr ⟨rfl,h2,c',h3,by omega,h5⟩
 · rintro (⟨h1,h2,h3⟩ | ⟨rfl,h2,c',h3,h4,h5⟩)
   · exact ⟨by omega,h2,h3⟩
   · exact ⟨by omega,h2,c',h3,by omega,h5⟩
theorem Bst.bd {b:Barn} {p:List (List Int)} {k:Nat} {c:Int} {e:Nat} {q:Nat×Nat×Bool} (h:Bst (SC b p k c e) q) (he:e≤p.length):q.1≤p.length∧q.2.1≤k:=by
 cases hb:q.2.2 with
 | false=>obtain ⟨h1,h2,_⟩:=h.no hb;omega
 | true =>
   have h1:=(h.yes hb).1
   refine ⟨?_,SC.le h1⟩
   rcases h1 with (h1 | h1) | h1
   · exact Nat.le_of_lt h1.2.1
   · exact Nat.le_of_lt h1.2.1
   · omega
theorem St.innSnoc {a:Option Addr} {c:Nat} {l0:List Int} {l:List PL} {H:Z8} {R:Z5} {w:World} [m1:MemF (Inn l) R] [m2:MemRows a 1 (irows l0) R] (h:St H R w):St H (Inn (l++[⟨a,c,l0⟩])::R) w :=
 h.also fun w' hw x hx=>by
   rcases List.mem_append.1 hx with hx | hx
   · exact hw _ m1.mem x hx
   · obtain rfl:x=⟨a,c,l0⟩:=by simpa using hx
     exact hw _ m2.mem
def plU (b:Barn) (p:List (List Int)):Int:=bif decide (b.planned p=0) then (bif (brnQ b p).2.2 then 0 else 6) else b.planned p
def plQ (b:Barn) (p:List (List Int)):Nat×Nat×Bool:=bif decide (b.planned p=0) then brnQ b p else (0,0,false)
def plK (b:Barn) (p:List (List Int)):Bool:=bif decide (b.planned p=0) then !(brnQ b p).2.2 else false
theorem Zcf {b:Barn} {p:List (List Int)} (h:(b.burnsF b.warms p 0).1=none):brnQ b p=(0,0,false):=by unfold brnQ;rw [h]
theorem Zcg {b:Barn} {p:List (List Int)} {q:Nat×Nat} (h:(b.burnsF b.warms p 0).1=some q):brnQ b p=(q.1,q.2,true):=by unfold brnQ;rw [h]
theorem Z68 (b:Barn) (p:List (List Int)):(∃ ws,b.burnsF b.warms p 0=(none,ws)∧brnQ b p=(0,0,false))∨∃ d k ws,b.burnsF b.warms p 0=(some (d,k),ws)∧brnQ b p=(d,k,true):=by
 cases h:b.burnsF b.warms p 0 with
 | mk o ws=>cases o with
   | none=>exact .inl ⟨ws,rfl,Zcf (by rw [h])⟩
   | some q=>exact .inr ⟨q.1,q.2,ws,rfl,Zcg (by rw [h])⟩
theorem ZaR (b:Barn) (p:List (List Int)):b.keepsV p = .tuple #[.bool (plK b p),.int .i64 (b.planned p)]:=by
 unfold Barn.keepsV plK
 by_cases h:b.planned p=0
 · rw [decide_eq_true h,cond_true,cond_true,h]
   rcases Z68 b p with ⟨ws,h3,h4⟩ | ⟨d,k,ws,h3,h4⟩<;>rw [h3,h4]<;>rfl
 · rw [decide_eq_false h];rfl
theorem Zci (b:Barn) (ab:Option Addr) (cb:Nat) (hl:b.bins.length≤9223372036854775807) (hr:b.rise.length=6) (pl:List PL) (ap:Option Addr) (cp:Nat) (hpl:pl.length≤9223372036854775807) (hpi:∀ x∈pl,x.l.length≤9223372036854775807) (H:Z8) (R:Z5) [hB:MemRows ab 4 (brows b.bins) R] [hP:MemRows ap 1 (plrows pl) R] [hI:MemF (Inn pl) R]:FnV Tryz.prog 11 [b.v (b.sl ab cb),.slice ap pl.length cp] H R (.tuple #[.bool (plK b (lls pl)),.int .i64 (b.planned (lls pl))]):=ZaR b (lls pl)▸ZeH b ab cb hl hr pl ap cp hpl hpi H R
end Go.Proofs.YtcfdanhklbklkaaGreat.Ht
