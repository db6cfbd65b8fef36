/- Walks of the functions of the program, and the laws that join them: what the last theorem of this claim needs, in order. -/
import Derived.Test.YtcfdanhklbklkaaGreatTd2
namespace Go.Proofs.YtcfdanhklbklkaaGreat.Ht
set_option linter.unusedSimpArgs false
set_option linter.unusedVariables false
open Go
theorem Z6j:apT Tryz.prog 23=some (3,1,8):=by kernel_rfl
theorem Z2v:Z0c Tryz.prog 137=true:=by kernel_rfl
theorem sc4:Z0c Tryz.prog 4=true:=by kernel_rfl
theorem Barn.dsk_ok {b:Barn} (hb:b.ok):b.dsk.ok where
 n:=hb.many
 gangs:=hb.gangs
 lasts:=b.lasts_sml hb
 most:=b.most_sml hb
 le k hk:=by
   obtain ⟨x,hx⟩:∃ x,b.bins[k]?=some x:=⟨_,List.getElem?_eq_getElem hk⟩
   have h1:na b.lasts k=_:=Z5n (b.map_get hb _ hx)
   have h2:na b.most k=_:=Z5n (b.map_get hb _ hx)
   show na b.lasts k≤na b.most k
   rw [h1,h2];omega
 ever k hk:=by
   obtain ⟨x,hx⟩:∃ x,b.bins[k]?=some x:=⟨_,List.getElem?_eq_getElem hk⟩
   have hm:=List.mem_of_getElem? hx
   have h1:na b.lasts k=_:=Z5n (b.map_get hb _ hx)
   have h2:na b.most k=_:=Z5n (b.map_get hb _ hx)
   show (na b.lasts k=1000000∨na b.lasts k≤10)∧(na b.most k=1000000∨na b.most k≤10)∧(na b.lasts k=1000000↔na b.most k=1000000)
   have r1:=b.days_range hb hm (hb.bins x hm).2.1.1
   have r2:=b.days_range hb hm hb.cool.1
   rw [h1,h2]
   have e:b.days x x.warm=1000000↔b.days x b.cool=1000000:=by
     have z:∀ w,0≤w→(b.days x w=1000000↔b.worst x=0):=fun w hw=>by
       constructor
       · intro h
         rcases Classical.em (b.worst x=0) with h0 | h0
         · exact h0
         · have h9:=b.worst_range hb hm
           have h8:=(hb.bins x hm).1
           unfold Barn.days Z6C at h
           rw [decide_eq_false h0,cond_false] at h
           by_cases h3:x.mark<w
           · rw [decide_eq_true h3,cond_true] at h;omega
           · rw [decide_eq_false h3,cond_false] at h
             have:(x.mark-w) / b.worst x<11:=Int.ediv_lt_of_lt_mul (by omega) (by omega)
             omega
       · intro h;unfold Barn.days Z6C;rw [h];rfl
     rw [z _ (hb.bins x hm).2.1.1,z _ hb.cool.1]
   omega
theorem Z3P (bd:Nat) (full:Bool) (H:Z6) (R:Z5) :
    Fn Tryz.prog 165 [.pointer (some ⟨bd,0,none⟩),.bool full] H R (fun v H' R'=>∃ xb xf,v = .func (.func 239) #[] #[.pointer (some ⟨xb,0,none⟩),.pointer (some ⟨xf,0,none⟩)]∧H'=H∧R'=RowsA (some ⟨xf,0,none⟩) 1 [[.bool full]]::RowsA (some ⟨xb,0,none⟩) 1 [[.pointer (some ⟨bd,0,none⟩)]]::R):=by
 refine Zc Tryz.func165 rfl Tryz.ntmps165 rfl ?_
 refine sqt 3 rfl (bx rfl rfl rfl (fun b2=>bx rfl rfl rfl (fun b3=>pur 1 rfl (sqt 2 rfl (sp rfl (PE.makeFunc rfl rfl) rfl (pur 1 rfl (Z4 ?_)))))))
 refine Sy.heap (fun w h=>St.rows (sz:=1) (rows:=[[.pointer (some ⟨bd,0,none⟩)]]) (rest:=[]) (h.pull b2) (by simp)) ?_
 refine Sy.heap (fun w h=>St.rows (sz:=1) (rows:=[[.bool full]]) (rest:=[]) (h.pull b3) (by simp)) ?_
 exact rtA rfl rfl rfl ⟨b2,b3,rfl,rfl,rfl⟩ idH
theorem Zfl (bd:Nat) (H:Z6) (R:Z5) :
    Fn Tryz.prog 97 [.pointer (some ⟨bd,0,none⟩)] H R (fun v H' R'=>∃ xb,v = .func (.func 164) #[] #[.pointer (some ⟨xb,0,none⟩)]∧H'=H∧R'=RowsA (some ⟨xb,0,none⟩) 1 [[.pointer (some ⟨bd,0,none⟩)]]::R):=by
 refine Zc Tryz.func97 rfl Tryz.ntmps97 rfl ?_
 refine sqt 2 rfl (bx rfl rfl rfl (fun b1=>pur 1 rfl (sqt 2 rfl (sp rfl (PE.makeFunc rfl rfl) rfl (pur 1 rfl (Z4 ?_))))))
 refine Sy.heap (fun w h=>St.rows (sz:=1) (rows:=[[.pointer (some ⟨bd,0,none⟩)]]) (rest:=[]) (h.pull b1) (by simp)) ?_
 exact rtA rfl rfl rfl ⟨b1,rfl,rfl,rfl⟩ idH
theorem Z8M (b:Barn) (hok:b.ok) (ab:Option Addr) (cb bd m:Nat) (full:Bool) (xb xf lp:Nat) (I:Nat→Z6→Z5→Prop) (E:Z6→Z5→Prop) (hI:∀ k H R,I k H R→RowsA (some ⟨xb,0,none⟩) 1 [[.pointer (some ⟨bd,0,none⟩)]]∈R∧RowsA (some ⟨xf,0,none⟩) 1 [[.bool full]]∈R∧RowsA (some ⟨bd,0,none⟩) 18 [dcs b (b.sl ab cb) b.lasts b.most m]∈R)
    (hy:∀ k l a c H R,(b.dsk.trs full)[k]?=some l→I k H R→Yd Tryz.prog lp [.slice a l.length c] H (RowsA a 1 (irows (il l))::R) (fun v H' R'=>(v = .bool true∧I (k+1) H' R')∨(v = .bool false∧E H' R'))) (H:Z6) (R:Z5) (h0:I 0 H R) :
    Fn Tryz.prog 239 [yv lp,.pointer (some ⟨xb,0,none⟩),.pointer (some ⟨xf,0,none⟩)] H R (fun _ H' R'=>I (b.dsk.trs full).length H' R'∨E H' R'):=by
 have hmn:=hok.many
 have hgg:=hok.gangs
 obtain ⟨hF1,hF2,hF3⟩:=hI _ _ _ h0
 haveI:MemRows (some ⟨xb,0,none⟩) 1 [[.pointer (some ⟨bd,0,none⟩)]] R:=⟨hF1⟩
 haveI:MemRows (some ⟨xf,0,none⟩) 1 [[.bool full]] R:=⟨hF2⟩
 haveI:MemRows (some ⟨bd,0,none⟩) 18 [dcs b (b.sl ab cb) b.lasts b.most m] R:=⟨hF3⟩
 refine Zc Tryz.func239 rfl Tryz.ntmps239 rfl ?_
 refine Z0 ?_
 refine Za [0,1,3,7,15,0,32,96,224,480,992,2047,4095] (.ld 0 (tks 1 3 (.ld 4 (.ld 5 (tks 6 3 (.ld 9 (tks 10 3 .done))))))) Zl (by kernel_rfl) ?_
 refine ld rfl rfl (lfB (sz:=1) Z2v rfl) rfl (tk rfl (PE.nilCheck rfl) rfl (tk rfl (PE.fA Z1T rfl) rfl (tk rfl (PE.fA Zhi rfl) rfl (ld rfl rfl (lfB (sz:=18) sc3 rfl) rfl (ld rfl rfl (lfB (sz:=1) Z2v rfl) rfl (tk rfl (PE.nilCheck rfl) rfl (tk rfl (PE.fA Z1T rfl) rfl (tk rfl (PE.fA Z0S rfl) rfl (ld rfl rfl (lfB (sz:=18) Z8k rfl) rfl (tk rfl (PE.lenSl Z3W rfl) rfl (tk rfl (PE.min rfl rfl) rfl (Zg 1 rfl (sqt 8 rfl (spL rfl rfl (lfB (sz:=1) Z2v rfl) rfl (sp rfl (PE.nilCheck rfl) rfl ?_)))))))))))))))
 refine sp rfl (PE.fA Z1T rfl) rfl (sp rfl (PE.fA Z0S rfl) rfl (spL rfl rfl (lfB (sz:=18) Z8k rfl) rfl (sp rfl (PE.lenSl Z3W rfl) rfl (sp rfl (PE.shlN (m:=1) (n:=b.bins.length) rfl rfl rfl (by omega) (by have:=Nat.pow_le_pow_right (show 0<2 by decide) hmn.2;omega)) rfl (pur 1 rfl (Z2 ?_))))))
 have h16:2 ^ b.bins.length≤16:=Nat.pow_le_pow_right (show 0<2 by decide) hmn.2
 refine Zd (ι:={x:Nat×Z6×Z5 // x.1≤2 ^ b.bins.length∧I (b.dsk.cnt full x.1) x.2.1 x.2.2}) (fun x=>⟨[(0,yv lp),(1,.pointer (some ⟨xb,0,none⟩)),(2,.pointer (some ⟨xf,0,none⟩)),(4,.int .i64 b.dsk.g),(26,.int .i64 ((1*2 ^ b.bins.length:Nat):Int)),(27,.int .i64 x.1.1)],x.1.2.1,x.1.2.2⟩) (fun x=>2 ^ b.bins.length-x.1.1) ⟨(0,H,R),Nat.zero_le _,by rw [Dsk.cnt_zero];exact h0⟩ ?_ (fun x=>?_)
 exact Zf idH
 obtain ⟨⟨i,H0,R0⟩,hi,hI0⟩:=x
 dsimp only at hi hI0 ⊢
 obtain ⟨hF1,hF2,hF3⟩:=hI _ _ _ hI0
 haveI:MemRows (some ⟨xb,0,none⟩) 1 [[.pointer (some ⟨bd,0,none⟩)]] R0:=⟨hF1⟩
 haveI:MemRows (some ⟨xf,0,none⟩) 1 [[.bool full]] R0:=⟨hF2⟩
 haveI:MemRows (some ⟨bd,0,none⟩) 18 [dcs b (b.sl ab cb) b.lasts b.most m] R0:=⟨hF3⟩
 refine sqt 1 rfl (pur 1 rfl (Z0 ?_))
 refine Z1 rfl ?_ ?_<;>intro hc0<;>try simp only [cS] at hc0
 have hi2:i<2 ^ b.bins.length:=by omega
 refine Z3 (Z0 (Z2 (sqt 2 rfl (pur 2 rfl (sqt 1 rfl (pur 1 rfl (Z0 (sqt 7 rfl (spL rfl rfl (lfB (sz:=1) Z2v rfl) rfl (sp rfl (PE.nilCheck rfl) rfl (sp rfl (PE.fA Z1T rfl) rfl (sp rfl (PE.fA Z0S rfl) rfl (spL rfl rfl (lfB (sz:=18) Z8k rfl) rfl (sp rfl (PE.lenSl Z3W rfl) rfl (pur 1 rfl ?_)))))))))))))))
 refine Z2 ?_
 refine Zd (ι:=(k:{k:Nat // k≤b.bins.length})×OSl 3 1 (irows (il (Z3N k.1 i)))) (fun x=>⟨[(0,yv lp),(1,.pointer (some ⟨xb,0,none⟩)),(2,.pointer (some ⟨xf,0,none⟩)),(4,.int .i64 b.dsk.g),(26,.int .i64 ((1*2 ^ b.bins.length:Nat):Int)),(27,.int .i64 i),(5,.int .i64 i),(6,x.2.fs),(35,.int .i64 b.bins.length),(36,.int .i64 x.1.1)],x.2.G++H0,R0⟩) (fun x=>b.bins.length-x.1.1) ⟨⟨0,by omega⟩,OSl.nil _ _⟩ ?_ (fun x=>?_)
 exact Zf idH
 obtain ⟨⟨k,hk⟩,o⟩:=x
 dsimp only at hk o ⊢
 refine sqt 1 rfl (pur 1 rfl (Z0 ?_))
 refine Z1 rfl ?_ ?_<;>intro hc1<;>try simp only [cS] at hc1
 have eb:=ZbH k i
 refine Z3 (Z0 (Z2 (sqt 2 rfl (pur 2 rfl (sqt 5 rfl (pur 2 rfl (sp rfl (PE.shrN (m:=i) (n:=k) rfl rfl (by omega)) rfl (sp rfl (PE.andN (m:=i>>>k) (n:=1) rfl rfl rfl (Nat.le_trans (Nat.shiftRight_le _ _) (by omega)) (by decide)) rfl (pur 1 rfl ?_)))))))))
 refine Z1 rfl ?_ ?_<;>intro hc2
 rw [Z13] at hc2
 rw [hc2,cond_true] at eb
 refine sqr 5 rfl (pur 2 rfl ?_)
 refine bsl (out:=[_]) rfl Z1H zl3 rfl rfl rfl rfl rfl rfl (fun b46=>?_)
 refine apO (o) rfl Z6j rfl rfl (Z0y (row:=[.int .i64 k]) rfl) rfl rfl ((by have:=Z6l k i;simp only [irows,il,List.length_map,List.length_singleton];omega)) rfl (fun o47=>?_)
 refine pur 1 rfl (sqr 2 rfl (sp rfl (PE.add rfl rfl (by omega)) rfl (pur 1 rfl ?_)))
 first
   | exact Zh ⟨⟨k+1,by omega⟩,o47.cast (by rw [eb];simp [irows,il])⟩ (by dsimp only;omega) (fun w h=>h.del b46)
   | exact Zh ⟨⟨k+1,by omega⟩,o.cast (by rw [eb])⟩ (by dsimp only;omega) idH
 rw [Z13] at hc2
 rw [hc2,cond_false,List.append_nil] at eb
 refine Z3 (sqr 2 rfl (sp rfl (PE.add rfl rfl (by omega)) rfl (pur 1 rfl ?_)))
 first
   | exact Zh ⟨⟨k+1,by omega⟩,o47.cast (by rw [eb];simp [irows,il])⟩ (by dsimp only;omega) (fun w h=>h.del b46)
   | exact Zh ⟨⟨k+1,by omega⟩,o.cast (by rw [eb])⟩ (by dsimp only;omega) idH
 obtain rfl:k=b.bins.length:=by omega
 obtain ⟨al,cl,he,hf⟩:=o.freeze
 rw [he]
 refine Sy.heap (fun w h=>hf h) ?_
 clear he hf
 rw [show (irows (il (Z3N b.bins.length i))).length=(Z3N b.bins.length i).length from by simp [irows,il]]
 have hbl:=Z6l b.bins.length i
 refine Z7 (Z8 (Z8 (Zi (Z0 (sqt 13 rfl (pur 1 rfl (sp rfl (PE.lenSl ZO rfl) rfl (pur 3 rfl ?_))))))))
 refine Zq 53 rfl ?_ ?_<;>intro g53
 try simp only [cS] at g53
 have hmy:b.dsk.may full (Z3N b.dsk.n i)=false:=by unfold Dsk.may;rw [dT (show b.dsk.g<((Z3N b.dsk.n i).length:Int) from g53)];rfl
 have hcn:=b.dsk.cnt_no (full:=full) hi2 hmy
 refine pur 2 rfl ?_
 repeat refine spU rfl rfl rfl rfl rfl rfl rfl ?_
 refine pur 2 rfl ?_
 refine ZK rfl ?_
 refine Z7 (Z8 (Zi (sqr 2 rfl (sp rfl (PE.add rfl rfl (by omega)) rfl (pur 1 rfl ?_)))))
 first | exact Zh ⟨(i+1,H3,R3),by dsimp only;omega,by dsimp only;rw [hcn];exact hI3⟩ (by dsimp only;omega) idH | exact Zh ⟨(i+1,H0,R0),by dsimp only;omega,by dsimp only;rw [hcn];exact hI0⟩ (by dsimp only;omega) (fun w h=>h.ftail)
 try simp only [cS] at g53
 refine Z0e rfl rfl rfl rfl rfl (lfB (sz:=1) sc4 rfl) rfl (pur 1 rfl ?_)
 refine Zq 55 rfl ?_ ?_<;>intro g55
 refine pur 1 rfl ?_
 refine spG rfl rfl rfl rfl (PE.lenSl ZO rfl) rfl ?_
 refine pur 4 rfl ?_
 refine Z1 rfl ?_ ?_<;>intro hc3<;>try simp only [cS] at hc3
 have hmy:b.dsk.may full (Z3N b.dsk.n i)=false:=by unfold Dsk.may;rw [dF (show ¬ b.dsk.g<((Z3N b.dsk.n i).length:Int) from Int.not_lt.2 g53),g55,dT (show ((Z3N b.dsk.n i).length:Int)<b.dsk.g from hc3)];rfl
 have hcn:=b.dsk.cnt_no (full:=full) hi2 hmy
 refine Z7 (Z8 (Zi (sqr 2 rfl (sp rfl (PE.add rfl rfl (by omega)) rfl (pur 1 rfl ?_)))))
 first | exact Zh ⟨(i+1,H3,R3),by dsimp only;omega,by dsimp only;rw [hcn];exact hI3⟩ (by dsimp only;omega) idH | exact Zh ⟨(i+1,H0,R0),by dsimp only;omega,by dsimp only;rw [hcn];exact hI0⟩ (by dsimp only;omega) (fun w h=>h.ftail)
 have hmy:b.dsk.may full (Z3N b.dsk.n i)=true:=by unfold Dsk.may;rw [dF (show ¬ b.dsk.g<((Z3N b.dsk.n i).length:Int) from Int.not_lt.2 g53),g55,dF (show ¬ ((Z3N b.dsk.n i).length:Int)<b.dsk.g from Int.not_lt.2 hc3)];rfl
 obtain ⟨hcn,htr⟩:=b.dsk.cnt_yes (full:=full) hi2 hmy
 refine Z3 (sqt 4 rfl (pur 2 rfl ?_))
 refine clY rfl rfl rfl rfl (hy _ _ al cl _ _ htr hI0) ?_
 rintro v H3 R3 (⟨rfl,hI3⟩ | ⟨rfl,hE3⟩)
 refine pur 1 rfl ?_
 refine Zt rfl ?_
 refine Z3 (sqr 2 rfl (sp rfl (PE.add rfl rfl (by omega)) rfl (pur 1 rfl ?_)))
 first | exact Zh ⟨(i+1,H3,R3),by dsimp only;omega,by dsimp only;rw [hcn];exact hI3⟩ (by dsimp only;omega) idH | exact Zh ⟨(i+1,H0,R0),by dsimp only;omega,by dsimp only;rw [hcn];exact hI0⟩ (by dsimp only;omega) (fun w h=>h.ftail)
 refine pur 1 rfl ?_
 refine ZK rfl ?_
 refine Z4 ?_
 exact Z9 (vs:=[]) rfl .nil rfl (.inr hE3) idH
 try simp only [cS] at g55
 have hmy:b.dsk.may full (Z3N b.dsk.n i)=true:=by unfold Dsk.may;rw [dF (show ¬ b.dsk.g<((Z3N b.dsk.n i).length:Int) from Int.not_lt.2 g53),g55];rfl
 obtain ⟨hcn,htr⟩:=b.dsk.cnt_yes (full:=full) hi2 hmy
 refine pur 6 rfl ?_
 refine Zt rfl ?_
 refine Z3 (sqt 4 rfl (pur 2 rfl ?_))
 refine clY rfl rfl rfl rfl (hy _ _ al cl _ _ htr hI0) ?_
 rintro v H3 R3 (⟨rfl,hI3⟩ | ⟨rfl,hE3⟩)
 refine pur 1 rfl ?_
 refine Zt rfl ?_
 refine Z3 (sqr 2 rfl (sp rfl (PE.add rfl rfl (by omega)) rfl (pur 1 rfl ?_)))
 first | exact Zh ⟨(i+1,H3,R3),by dsimp only;omega,by dsimp only;rw [hcn];exact hI3⟩ (by dsimp only;omega) idH | exact Zh ⟨(i+1,H0,R0),by dsimp only;omega,by dsimp only;rw [hcn];exact hI0⟩ (by dsimp only;omega) (fun w h=>h.ftail)
 refine pur 1 rfl ?_
 refine ZK rfl ?_
 refine Z4 ?_
 exact Z9 (vs:=[]) rfl .nil rfl (.inr hE3) idH
 obtain rfl:i=2 ^ b.bins.length:=by omega
 have hce:b.dsk.cnt full (2 ^ b.bins.length)=(b.dsk.trs full).length:=b.dsk.cnt_end full
 refine Z7 (Z8 (Z8 (Zi ?_)))
 exact Z22 (vs:=[]) rfl .nil rfl (.inl (hce▸hI0)) idH
theorem Zck (b:Barn) (hok:b.ok) (ab:Option Addr) (cb bd m:Nat) (xb lp:Nat) (I:Nat→Z6→Z5→Prop) (E:Z6→Z5→Prop) (hI:∀ k H R,I k H R→RowsA (some ⟨xb,0,none⟩) 1 [[.pointer (some ⟨bd,0,none⟩)]]∈R∧RowsA (some ⟨bd,0,none⟩) 18 [dcs b (b.sl ab cb) b.lasts b.most m]∈R)
    (hy:∀ k s q o H R,b.dsk.sts[k]?=some s→I k H R→Yd Tryz.prog lp [stv s] ((q,o)::H) R (fun v H' R'=>(v = .bool true∧∃ H2,H'=(q,o)::H2∧I (k+1) H2 R')∨(v = .bool false∧∃ H2,H'=(q,o)::H2∧E H2 R'))) (H:Z6) (R:Z5) (h0:I 0 H R) :
    Fn Tryz.prog 164 [yv lp,.pointer (some ⟨xb,0,none⟩)] H R (fun _ H' R'=>I b.dsk.nst H' R'∨E H' R'):=by
 have hmn:=hok.many
 have hdk:=b.dsk_ok hok
 have hl4:=hdk.lasts.len
 have hm4:=hdk.most.len
 obtain ⟨hF1,hF3⟩:=hI _ _ _ h0
 haveI:MemRows (some ⟨xb,0,none⟩) 1 [[.pointer (some ⟨bd,0,none⟩)]] R:=⟨hF1⟩
 haveI:MemRows (some ⟨bd,0,none⟩) 18 [dcs b (b.sl ab cb) b.lasts b.most m] R:=⟨hF3⟩
 refine Zc Tryz.func164 rfl Tryz.ntmps164 rfl ?_
 refine sqt 3 rfl (sp rfl (PE.zero (.inr (by rw [Z0X];rfl)) Z3J) rfl (alc rfl Z3J rfl (fun b3=>?_)))
 refine sto rfl rfl rfl Z56 rfl rfl rfl rfl ?_
 refine Z0 (sqt 7 rfl (spL rfl rfl (lfB (sz:=1) Z2v rfl) rfl (sp rfl (PE.nilCheck rfl) rfl (sp rfl (PE.fA Z1T rfl) rfl (sp rfl (PE.fA Z0S rfl) rfl (spL rfl rfl (lfB (sz:=18) Z8k rfl) rfl (sp rfl (PE.lenSl Z3W rfl) rfl (pur 1 rfl (Z2 ?_)))))))))
 refine Zd (ι:={k:Nat // k≤b.bins.length}) (fun k=>⟨[(0,yv lp),(1,.pointer (some ⟨xb,0,none⟩)),(3,.pointer (some ⟨b3,0,none⟩)),(12,.int .i64 b.bins.length),(13,.int .i64 k.1)],(b3,cel 140 (Ze (zst b.dsk k.1)))::H,R⟩) (fun k=>b.bins.length-k.1) ⟨0,by omega⟩ ?_ (fun k=>?_)
 exact Zf idH
 obtain ⟨k,hk⟩:=k
 dsimp only at hk ⊢
 refine sqt 1 rfl (pur 1 rfl (Z0 ?_))
 refine Z1 rfl ?_ ?_<;>intro hc0<;>try simp only [cS] at hc0
 refine Z3 (Z0 (Z2 (sqt 2 rfl (pur 2 rfl (sqt 7 rfl (spL rfl rfl (lfB (sz:=1) Z2v rfl) rfl (pur 1 rfl (sp rfl (PE.nilCheck rfl) rfl (sp rfl (PE.fA Z6N rfl) rfl (sp rfl (PE.indexArr Z0X rfl rfl (by omega) (by omega)) rfl (spL rfl rfl (lfB (sz:=18) (x:=.int .i64 (na b.most k)) sc3 (Z6E (k:=k) hl4 hm4 (by omega) (by show 0+13+((k:Nat):Int).toNat*1=_;omega))) rfl (pur 1 rfl ?_))))))))))))
 refine Z1 rfl ?_ ?_<;>intro hc1<;>try simp only [cS] at hc1
 refine sqr 3 rfl (pur 1 rfl (sp rfl (PE.indexArr Z0X rfl rfl (by omega) (by omega)) rfl ?_))
 refine Zy (l':=Ze (zst b.dsk (k+1))) rfl rfl rfl cn3 rfl rfl rfl ((Z6e (k:=k) (Z2E _ _) (by omega) (by show 0+((k:Nat):Int).toNat*1=k;omega)).trans (by rw [Zk2 (d:=b.dsk) (k:=k) (by omega) hc1])) (by rw [ints_length,Z2E];show 0+((k:Nat):Int).toNat*1+1≤4;omega) ?_
 refine sqr 2 rfl (sp rfl (PE.add rfl rfl (by omega)) rfl (pur 1 rfl ?_))
 first
   | exact Zh ⟨k+1,by omega⟩ (by dsimp only;omega) (fun w h=>by dsimp only;rw [← ZhJ (d:=b.dsk) (k:=k) hc1];exact h)
   | exact Zh ⟨k+1,by omega⟩ (by dsimp only;omega) idH
 refine Z3 (sqr 2 rfl (sp rfl (PE.add rfl rfl (by omega)) rfl (pur 1 rfl ?_)))
 first
   | exact Zh ⟨k+1,by omega⟩ (by dsimp only;omega) (fun w h=>by dsimp only;rw [← ZhJ (d:=b.dsk) (k:=k) hc1];exact h)
   | exact Zh ⟨k+1,by omega⟩ (by dsimp only;omega) idH
 obtain rfl:k=b.bins.length:=by omega
 rw [show zst b.dsk b.bins.length=b.dsk.sat 0 from Zk1 hdk]
 refine Z7 (Z8 (Z8 (Zi (Z2 ?_))))
 refine Zd (ι:={x:Nat×Z6×Z5 // x.1<b.dsk.nst∧I x.1 x.2.1 x.2.2}) (fun x=>⟨[(0,yv lp),(1,.pointer (some ⟨xb,0,none⟩)),(3,.pointer (some ⟨b3,0,none⟩))],(b3,cel 140 (Ze (b.dsk.sat x.1.1)))::x.1.2.1,x.1.2.2⟩) (fun x=>b.dsk.nst-x.1.1) ⟨(0,H,R),(b.dsk.nst_le hdk).1,h0⟩ ?_ (fun x=>?_)
 exact Zf idH
 obtain ⟨⟨i,H0,R0⟩,hi,hI0⟩:=x
 dsimp only at hi hI0 ⊢
 have hs:=b.dsk.sat_sml hdk i
 refine Z2 (Z0 (sqt 4 rfl (pur 1 rfl (spL rfl rfl (lhI (b.dsk.sat i) Z29 rfl rfl (hs.len)) rfl ?_))))
 refine clY rfl rfl rfl rfl (hy _ _ b3 _ _ _ (b.dsk.sts_get hi) hI0) ?_
 rintro v H3 R3 (⟨rfl,H2,rfl,hI3⟩ | ⟨rfl,H2,rfl,hE3⟩)
 refine pur 1 rfl ?_
 refine Zt rfl ?_
 refine Z3 (sqt 1 rfl (pur 1 rfl (Z0 (Z2 ?_))))
 obtain ⟨hF1,hF3⟩:=hI _ _ _ hI3
 haveI:MemRows (some ⟨xb,0,none⟩) 1 [[.pointer (some ⟨bd,0,none⟩)]] R3:=⟨hF1⟩
 haveI:MemRows (some ⟨bd,0,none⟩) 18 [dcs b (b.sl ab cb) b.lasts b.most m] R3:=⟨hF3⟩
 refine Zd (ι:={a:Nat // a≤b.bins.length∧∀ j<a,na (b.dsk.sat i) j=na b.most j}) (fun a=>⟨[(0,yv lp),(1,.pointer (some ⟨xb,0,none⟩)),(3,.pointer (some ⟨b3,0,none⟩)),(5,.int .i64 a.1)],(b3,cel 140 (Ze (rsz (b.dsk.sat i) a.1)))::H2,R3⟩) (fun a=>b.bins.length-a.1) ⟨0,by omega,by omega⟩ ?_ (fun a=>?_)
 exact Zf (fun w h=>by dsimp only;rw [Zgi hs.len];exact h)
 obtain ⟨a,ha,hat⟩:=a
 dsimp only at ha hat ⊢
 refine Z0 (Z0 ?_)
 refine Za [0,0,2,6,14,30,62,127,255,511,1023,2047,511,511,4607,20991,61951,127487,262143,524287] (.tk 0 (.ld 1 (tks 2 3 (.ld 5 (tks 6 5 (.ld 11 (.ld 12 (tks 13 4 (.ld 17 (.tk 18 (.tk 19 .done))))))))))) Zl (by kernel_rfl) ?_
 refine Zg 1 rfl (ld rfl rfl (lfB (sz:=1) Z2v rfl) rfl (tk rfl (PE.nilCheck rfl) rfl (tk rfl (PE.fA Z1T rfl) rfl (tk rfl (PE.fA Z0S rfl) rfl (ld rfl rfl (lfB (sz:=18) Z8k rfl) rfl (tk rfl (PE.lenSl Z3W rfl) rfl (Zg 2 rfl ?_)))))))
 refine Zq 38 rfl ?_ ?_<;>intro g38
 simp only [decide_eq_true_eq] at g38
 have hra:na (rsz (b.dsk.sat i) a) a=na (b.dsk.sat i) a:=by rw [Z2s (by omega),dF (Nat.lt_irrefl a)];rfl
 refine Zg 1 rfl ?_
 refine tkG rfl rfl rfl rfl (PE.indexArr Z0X rfl rfl (by omega) (by omega)) rfl ?_
 refine ldG rfl rfl rfl rfl rfl (lh sc3 rfl (Z7j (k:=a) (Z05 _ _) (by omega) (by show 0+((a:Nat):Int).toNat*1=_;omega))) rfl (ldG rfl rfl rfl rfl rfl (lfB (sz:=1) Z2v rfl) rfl (Zg 1 rfl ?_))
 refine tkG rfl rfl rfl rfl (PE.nilCheck rfl) rfl ?_
 refine tkG rfl rfl rfl rfl (PE.fA Z6N rfl) rfl ?_
 refine tkG rfl rfl rfl rfl (PE.indexArr Z0X rfl rfl (by omega) (by omega)) rfl ?_
 refine ldG rfl rfl rfl rfl rfl (lfB (sz:=18) (x:=.int .i64 (na b.most a)) sc3 (Z6E (k:=a) hl4 hm4 (by omega) (by show 0+13+((a:Nat):Int).toNat*1=_;omega))) rfl (Zg 2 rfl ?_)
 refine Z1 rfl ?_ ?_<;>intro hc3<;>try simp only [cS] at hc3
 refine Z3 (Z2 (Z0 (sqt 4 rfl (pur 1 rfl (sp rfl (PE.indexArr Z0X rfl rfl (by omega) (by omega)) rfl (spL rfl rfl (lh sc3 rfl (Z7j (k:=a) (Z05 _ _) (by omega) (by show 0+((a:Nat):Int).toNat*1=_;omega))) rfl (pur 1 rfl ?_)))))))
 refine Z1 rfl ?_ ?_<;>intro hc4<;>try simp only [cS] at hc4
 have hat2:∀ j<a+1,na (b.dsk.sat i) j=na b.most j:=fun j hj=>by
   rcases Nat.lt_or_ge j a with h1 | h1
   · exact hat j h1
   · obtain rfl:j=a:=by omega
     rw [← hra];exact hc3
 refine sqr 3 rfl (pur 1 rfl (sp rfl (PE.indexArr Z0X rfl rfl (by omega) (by omega)) rfl ?_))
 refine Zy (l':=Ze (rsz (b.dsk.sat i) (a+1))) rfl rfl rfl cn3 rfl rfl rfl ((Z6e (k:=a) (Z05 _ _) (by omega) (by show 0+((a:Nat):Int).toNat*1=a;omega)).trans (by rw [ZjA (by omega) (by rw [← hra];exact hc4)])) (by rw [ints_length,Z05];show 0+((a:Nat):Int).toNat*1+1≤4;omega) ?_
 refine sqr 3 rfl (pur 1 rfl (sp rfl (PE.add rfl rfl (by omega)) rfl (pur 1 rfl ?_)))
 exact Zb ⟨a+1,by omega,hat2⟩ idH
 have hat2:∀ j<a+1,na (b.dsk.sat i) j=na b.most j:=fun j hj=>by
   rcases Nat.lt_or_ge j a with h1 | h1
   · exact hat j h1
   · obtain rfl:j=a:=by omega
     rw [← hra];exact hc3
 have hev:na (b.dsk.sat i) a=1000000:=by rw [← hra];omega
 refine Z3 (sqr 3 rfl (pur 1 rfl (sp rfl (PE.add rfl rfl (by omega)) rfl (pur 1 rfl ?_))))
 exact Zb ⟨a+1,by omega,hat2⟩ (fun w h=>by dsimp only;rw [Zgh hev];exact h)
 have hne3:na (b.dsk.sat i) a≠na b.most a:=by rw [← hra];exact hc3
 refine Z7 (Z8 (Z8 (Zi (Z0 (sqt 8 rfl (pur 1 rfl (spL rfl rfl (lfB (sz:=1) Z2v rfl) rfl (sp rfl (PE.nilCheck rfl) rfl (sp rfl (PE.fA Z1T rfl) rfl (sp rfl (PE.fA Z0S rfl) rfl (spL rfl rfl (lfB (sz:=18) Z8k rfl) rfl (sp rfl (PE.lenSl Z3W rfl) rfl (pur 1 rfl ?_)))))))))))))
 refine Z1 rfl ?_ ?_<;>intro hc5<;>try simp only [cS] at hc5
 have hae:a=b.bins.length:=by omega
 subst hae
 have hlast:=b.dsk.sat_last hdk hi hat
 refine Z4 ?_
 first | exact Z9 (vs:=[]) rfl .nil rfl (.inr hE3) (fun _ h=>h.tail) | exact Z9 (vs:=[]) rfl .nil rfl (.inl (hlast▸hI3)) (fun _ h=>h.tail)
 have hne:na (b.dsk.sat i) a≠na b.most a:=by first | exact hne3 | (exfalso;omega)
 refine Z3 (sqr 6 rfl (pur 1 rfl (sp rfl (PE.indexArr Z0X rfl rfl (by omega) (by omega)) rfl (spL rfl rfl (lh sc3 rfl (Z7j (k:=a) (Z05 _ _) (by omega) (by show 0+((a:Nat):Int).toNat*1=_;omega))) rfl (sp rfl (PE.add rfl rfl (by have:=(b.dsk.sat_sml hdk i).at_ a (by omega);rw [Z2s (by omega),dF (Nat.lt_irrefl a)];simp only [Bool.false_and,cond_false];omega)) rfl (sp rfl (PE.indexArr Z0X rfl rfl (by omega) (by omega)) rfl ?_))))))
 refine Zy (l':=Ze (b.dsk.sat (i+1))) rfl rfl rfl cn3 rfl rfl rfl ((Z6e (k:=a) (Z05 _ _) (by omega) (by show 0+((a:Nat):Int).toNat*1=a;omega)).trans (by rw [show na (rsz (b.dsk.sat i) a) a=na (b.dsk.sat i) a by rw [Z2s (by omega),dF (Nat.lt_irrefl a)];rfl,b.dsk.sat_next hdk (show a<b.dsk.n by show a<b.bins.length;omega) hat hne])) (by rw [ints_length,Z05];show 0+((a:Nat):Int).toNat*1+1≤4;omega) ?_
 have hlt:i+1<b.dsk.nst:=by
   rcases Nat.lt_or_ge (i+1) b.dsk.nst with h1 | h1
   · exact h1
   · exact absurd (b.dsk.sat_max hdk (show i+1=b.dsk.nst by omega) (show a<b.dsk.n by show a<b.bins.length;omega)) hne
 exact Zb ⟨(i+1,H2,R3),hlt,hI3⟩ idH
 simp only [decide_eq_false_iff_not] at g38
 refine Zg 2 rfl ?_
 repeat refine ldN rfl rfl rfl rfl rfl rfl rfl rfl ?_
 refine Zg 4 rfl ?_
 refine ldN rfl rfl rfl rfl rfl rfl rfl rfl ?_
 refine Zg 2 rfl ?_
 refine Zt rfl ?_
 refine Z7 (Z8 (Z8 (Zi (Z0 (sqt 8 rfl (pur 1 rfl (spL rfl rfl (lfB (sz:=1) Z2v rfl) rfl (sp rfl (PE.nilCheck rfl) rfl (sp rfl (PE.fA Z1T rfl) rfl (sp rfl (PE.fA Z0S rfl) rfl (spL rfl rfl (lfB (sz:=18) Z8k rfl) rfl (sp rfl (PE.lenSl Z3W rfl) rfl (pur 1 rfl ?_)))))))))))))
 refine Z1 rfl ?_ ?_<;>intro hc5<;>try simp only [cS] at hc5
 have hae:a=b.bins.length:=by omega
 subst hae
 have hlast:=b.dsk.sat_last hdk hi hat
 refine Z4 ?_
 first | exact Z9 (vs:=[]) rfl .nil rfl (.inr hE3) (fun _ h=>h.tail) | exact Z9 (vs:=[]) rfl .nil rfl (.inl (hlast▸hI3)) (fun _ h=>h.tail)
 have hne:na (b.dsk.sat i) a≠na b.most a:=by first | exact hne3 | (exfalso;omega)
 refine Z3 (sqr 6 rfl (pur 1 rfl (sp rfl (PE.indexArr Z0X rfl rfl (by omega) (by omega)) rfl (spL rfl rfl (lh sc3 rfl (Z7j (k:=a) (Z05 _ _) (by omega) (by show 0+((a:Nat):Int).toNat*1=_;omega))) rfl (sp rfl (PE.add rfl rfl (by have:=(b.dsk.sat_sml hdk i).at_ a (by omega);rw [Z2s (by omega),dF (Nat.lt_irrefl a)];simp only [Bool.false_and,cond_false];omega)) rfl (sp rfl (PE.indexArr Z0X rfl rfl (by omega) (by omega)) rfl ?_))))))
 refine Zy (l':=Ze (b.dsk.sat (i+1))) rfl rfl rfl cn3 rfl rfl rfl ((Z6e (k:=a) (Z05 _ _) (by omega) (by show 0+((a:Nat):Int).toNat*1=a;omega)).trans (by rw [show na (rsz (b.dsk.sat i) a) a=na (b.dsk.sat i) a by rw [Z2s (by omega),dF (Nat.lt_irrefl a)];rfl,b.dsk.sat_next hdk (show a<b.dsk.n by show a<b.bins.length;omega) hat hne])) (by rw [ints_length,Z05];show 0+((a:Nat):Int).toNat*1+1≤4;omega) ?_
 have hlt:i+1<b.dsk.nst:=by
   rcases Nat.lt_or_ge (i+1) b.dsk.nst with h1 | h1
   · exact h1
   · exact absurd (b.dsk.sat_max hdk (show i+1=b.dsk.nst by omega) (show a<b.dsk.n by show a<b.bins.length;omega)) hne
 exact Zb ⟨(i+1,H2,R3),hlt,hI3⟩ idH
 refine pur 1 rfl ?_
 refine ZK rfl ?_
 refine Z4 ?_
 first | exact Z9 (vs:=[]) rfl .nil rfl (.inr hE3) (fun _ h=>h.tail) | exact Z9 (vs:=[]) rfl .nil rfl (.inl (hlast▸hI3)) (fun _ h=>h.tail)
theorem ZhY:apT Tryz.prog 206=some (140,4,32):=by kernel_rfl
theorem Zli:cal Tryz.prog 164=true:=by kernel_rfl
theorem Zlj:cal Tryz.prog 165=true:=by kernel_rfl
theorem Zlk:cal Tryz.prog 166=true:=by kernel_rfl
theorem Zm6:cal Tryz.prog 239=true:=by kernel_rfl
theorem Zpc:cal Tryz.prog 97=true:=by kernel_rfl
theorem Zpd:cal Tryz.prog 98=true:=by kernel_rfl
theorem ZmR:Zz Tryz.prog 206=some 1:=by kernel_rfl
theorem cn4:Zz Tryz.prog 4=some 1:=by kernel_rfl
theorem ZmY:elN Tryz.prog 206=some 4:=by kernel_rfl
theorem Za1:eqB Tryz.prog 10000 140=some (true,4):=by kernel_rfl
theorem Z6O:ZG Tryz.prog 143 3=some 17:=by kernel_rfl
theorem Zdl:Z2o Tryz.prog 206=true:=by kernel_rfl
theorem Zar:Z0O Tryz.prog 141=some (140,3):=by kernel_rfl
theorem Zat:Z38 Tryz.prog 10000 140=true:=by kernel_rfl
theorem Zea:Z0c Tryz.prog 141=true:=by kernel_rfl
theorem ZnH:Z0c Tryz.prog 206=true:=by kernel_rfl
theorem ZjE:slE Tryz.prog 206=some (140,4):=by kernel_rfl
theorem Zq7:Zp Tryz.prog 206=some ([.slice none 0 0]):=by kernel_rfl
theorem zl4:Zp Tryz.prog 4=some ([.bool false]):=by kernel_rfl
theorem zv3:zvl Tryz.prog 3=some (.int .i64 0):=by kernel_rfl
structure KvOk (d:Dsk) (n:Nat) (kv:KV):Prop where
 len:∀ e∈kv,e.1.length=4
 get:∀ s∈d.sts,kv.get s=some (.int .i64 (d.lvl n s))
theorem KV.put_len {kv:KV} {k:List Int} {v:Value} {n:Nat} (hk:k.length=n) (h:∀ e∈kv,e.1.length=n):∀ e∈kv.put k v,e.1.length=n:=fun e he=>by
 rcases KV.put_mem he with rfl | h1
 · exact hk
 · exact h e h1
def Dsk.hit (d:Dsk) (A:List HSt) (s:HSt) (l:List Nat):Bool:=match d.next s l with
 | some t=>A.contains t
 | none=>false
theorem Zkh {α:Type} {L:List α} {p:α→Bool} {k:Nat} {x:α} (h:L[k]?=some x) (hp:p x=true):L.any p=true:=List.any_eq_true.2 ⟨x,List.mem_of_getElem? h,hp⟩
theorem Zkg {α:Type} {L:List α} {p:α→Bool} (h:∀ i x,i<L.length→L[i]?=some x→p x=false):L.any p=false:=List.any_eq_false.2 fun x hx=>by
 obtain ⟨i,hi⟩:=List.getElem?_of_mem hx
 simp [h i x (List.getElem?_eq_some_iff.1 hi).1 hi]
theorem ZdN {α:Type} {L:List α} {p:α→Bool} {k:Nat} {x:α} (hk:L[k]?=some x) (hn:∀ i y,i<k→L[i]?=some y→p y=false) (h:p x=false):∀ i y,i<k+1→L[i]?=some y→p y=false:=fun i y hi hy=>by
 rcases Nat.lt_or_ge i k with h1 | h1
 · exact hn i y h1 hy
 · obtain rfl:i=k:=by omega
   rw [hk] at hy;cases hy;exact h
theorem Zff (b:Barn) (hok:b.ok) (ab:Option Addr) (cb bd m:Nat) (n:Nat) (hn:n≤100000) (kv:KV) (hkv:KvOk b.dsk n kv) (s:HSt) (hs:s∈b.dsk.sts) (H:Z6) (R:Z5) [hD:MemRows (some ⟨bd,0,none⟩) 18 [dcs b (b.sl ab cb) b.lasts b.most m] R] [hM:Mem1 m (ZJ true kv) H] :
    FnV Tryz.prog 98 [.pointer (some ⟨bd,0,none⟩),stv s] H R (.bool (b.dsk.helped (b.dsk.alive n) s)):=by
 refine Z7W Tryz.func98 rfl Tryz.ntmps98 rfl ?_
 refine sqt 3 rfl (bx rfl rfl rfl (fun b2=>bx rfl rfl rfl (fun b3=>alc rfl zl4 rfl (fun b4=>Z0 (sqt 2 rfl (spL rfl rfl (lh Z2v rfl rfl) rfl ?_))))))
 refine cl rfl Zlj rfl rfl (Z3P bd true _ _) ?_
 rintro _ _ _ ⟨xb,xf,rfl,rfl,rfl⟩
 have hdk:=b.dsk_ok hok
 have hsi:=(b.dsk.mem_sts hdk s).1 hs
 have hsm:=b.dsk.inS_sml hdk hsi
 have hl4:=hdk.lasts.len
 have hm4:=hdk.most.len
 refine Zw b2 ?_
 refine Zw b3 ?_
 refine Zw b4 ?_
 refine Z2 ?_
 refine Z3D rfl Zm6 (fun c0 bl0 bd0 hcp0 hca0 hcb0 hck0=>?_)
 refine ⟨fun st pend T R'=>(st = .ready∧pend=none∧b.dsk.helped (b.dsk.alive n) s=false∧T=(bd0,.deferred (some []))::(b4,cel 4 [.bool false])::(b3,cel 140 (Ze s))::(b2,cel 137 [.pointer (some ⟨bd,0,none⟩)])::H∧R'=RowsA (some ⟨xf,0,none⟩) 1 [[.bool true]]::RowsA (some ⟨xb,0,none⟩) 1 [[.pointer (some ⟨bd,0,none⟩)]]::R) ∨
     (st = .done∧pend=some .ret∧b.dsk.helped (b.dsk.alive n) s=true∧T=(bd0,.deferred (some []))::(b4,cel 4 [.bool true])::(b3,cel 140 (Ze s))::(b2,cel 137 [.pointer (some ⟨bd,0,none⟩)])::H∧R'=RowsA (some ⟨xf,0,none⟩) 1 [[.bool true]]::RowsA (some ⟨xb,0,none⟩) 1 [[.pointer (some ⟨bd,0,none⟩)]]::R),
   Fn.mono (Z8M b hok ab cb bd m true xb xf bl0 (fun k H' R'=>(∀ i l,i<k→(b.dsk.trs true)[i]?=some l→b.dsk.hit (b.dsk.alive n) s l=false)∧H'=(bl0,lob c0 .ready none)::(bd0,.deferred (some []))::(b4,cel 4 [.bool false])::(b3,cel 140 (Ze s))::(b2,cel 137 [.pointer (some ⟨bd,0,none⟩)])::H∧R'=RowsA (some ⟨xf,0,none⟩) 1 [[.bool true]]::RowsA (some ⟨xb,0,none⟩) 1 [[.pointer (some ⟨bd,0,none⟩)]]::R)
     (fun H' R'=>b.dsk.helped (b.dsk.alive n) s=true∧H'=(bl0,lob c0 .done (some .ret))::(bd0,.deferred (some []))::(b4,cel 4 [.bool true])::(b3,cel 140 (Ze s))::(b2,cel 137 [.pointer (some ⟨bd,0,none⟩)])::H∧R'=RowsA (some ⟨xf,0,none⟩) 1 [[.bool true]]::RowsA (some ⟨xb,0,none⟩) 1 [[.pointer (some ⟨bd,0,none⟩)]]::R)
     (fun k H' R' h=>by obtain ⟨_,_,rfl⟩:=h;exact ⟨by simp,by simp,List.mem_cons_of_mem _ (List.mem_cons_of_mem _ hD.mem)⟩) (fun k l a c H' R' hk hI=>?_) _ _ ⟨fun _ _ h=>absurd h (Nat.not_lt_zero _),rfl,rfl⟩) (fun v H' R' h=>?_),?_⟩
 rotate_left
 · rcases h with ⟨hn,rfl,rfl⟩ | ⟨hh,rfl,rfl⟩
   · exact ⟨.ready,none,_,by simp,.refl _,.inl ⟨rfl,rfl,Zkg hn,rfl,rfl⟩⟩
   · exact ⟨.done,some .ret,_,by simp,.refl _,.inr ⟨rfl,rfl,hh,rfl,rfl⟩⟩
 rotate_left
 have hlt:=b.dsk.trs_lt (List.mem_of_getElem? hk)
 have hll:l.length≤1000000:=by
   obtain ⟨i,_,rfl⟩:=List.mem_map.1 (List.mem_filter.1 (List.mem_of_getElem? hk)).1
   have:=Z6l b.dsk.n i
   have:=hdk.n
   omega
 obtain ⟨hno,rfl,rfl⟩:=hI
 refine Zgv hcp0 hca0 hcb0 hck0 rfl ?_
 refine sqr 1 rfl (pur 1 rfl ?_)
 refine Z0A ?_
 refine Z2 (sqt 10 rfl (spL rfl rfl (lh Z2v rfl rfl) rfl (spL rfl rfl (lhI s Z29 rfl rfl (hsi.len)) rfl (pur 1 rfl ?_))))
 refine cl rfl Zlk rfl rfl (ZkF b hok ab cb bd m s hsm l hlt hll a c _ _) ?_
 rintro _ _ _ ⟨rfl,rfl,rfl⟩
 rcases hnx:b.dsk.next s l with _ | t
 refine pur 3 rfl (alc rfl Z3J rfl (fun b6=>?_))
 first | (refine Z2V rfl rfl rfl Z56 rfl rfl rfl (Zs _) ?_) | (refine Z2V rfl rfl rfl Z56 rfl (by rw [ints_length];exact hts.len) rfl (Zs _) ?_)
 refine pur 1 rfl (Z0 ?_)
 refine Za [0,1,3,7,15,31,3,127,255,511] (.tk 0 (.tk 1 (.ld 2 (.tk 3 (.tk 4 (.ld 5 (.ld 6 (.ld 7 (.tk 8 (.tk 9 .done)))))))))) Zl (by kernel_rfl) ?_
 have hno2:b.dsk.hit (b.dsk.alive n) s l=false:=by simp only [Dsk.hit,hnx]
 refine Zg 2 rfl ?_
 refine ldN rfl rfl rfl rfl rfl rfl rfl rfl ?_
 refine Zg 2 rfl ?_
 repeat refine ldN rfl rfl rfl rfl rfl rfl rfl rfl ?_
 refine Zg 2 rfl ?_
 refine Zt rfl ?_
 refine Z3 ?_
 exact ZX (.inl ⟨rfl,ZdN hk hno hno2,rfl,rfl⟩) (fun _ h=>h.tail.ftail)
 refine pur 2 rfl ?_
 have hts:=b.dsk.next_inS hdk hsi hlt hnx
 have htm:=(b.dsk.mem_sts hdk t).2 hts
 have hkt:=hkv.get t htm
 refine pur 1 rfl (alc rfl Z3J rfl (fun b6=>?_))
 first | (refine Z2V rfl rfl rfl Z56 rfl rfl rfl (Zs _) ?_) | (refine Z2V rfl rfl rfl Z56 rfl (by rw [ints_length];exact hts.len) rfl (Zs _) ?_)
 refine pur 1 rfl (Z0 ?_)
 refine Za [0,1,3,7,15,31,3,127,255,511] (.tk 0 (.tk 1 (.ld 2 (.tk 3 (.tk 4 (.ld 5 (.ld 6 (.ld 7 (.tk 8 (.tk 9 .done)))))))))) Zl (by kernel_rfl) ?_
 refine Zg 2 rfl (ldG rfl rfl rfl rfl rfl (lh Z2v rfl rfl) rfl ?_)
 refine tkG rfl rfl rfl rfl (PE.nilCheck rfl) rfl ?_
 refine tkG rfl rfl rfl rfl (PE.fA Z6O rfl) rfl ?_
 refine ldG rfl rfl rfl rfl rfl (lfB (sz:=18) Zea (Z58 hl4 hm4)) rfl (ldG rfl rfl rfl rfl rfl (lhI t Z29 rfl rfl (hts.len)) rfl ?_)
 refine Zr6 rfl rfl rfl rfl rfl rfl (Z19 (b:=true) kv t Zar (KeyT.of Za1 Zat) (ZQ zv3) hts.len hkv.len false) rfl ?_
 rw [hkt]
 refine Zg 2 rfl ?_
 refine Z1 rfl ?_ ?_<;>intro hc0<;>try simp only [cS] at hc0
 have hyes:b.dsk.hit (b.dsk.alive n) s l=true:=by
   rcases b.dsk.lvl_spec htm (n:=n) (by omega) with ⟨h1,h2⟩ | ⟨j,h1,h2,h3,h4⟩
   · simp only [Dsk.hit,hnx];simpa using h2
   · exfalso;have hc:b.dsk.lvl n t=1000000:=hc0;omega
 refine sqt 1 rfl ?_
 refine sto rfl rfl rfl cn4 rfl rfl rfl rfl ?_
 refine Z4 ?_
 exact Z9o (.inr ⟨rfl,Zkh hk hyes,rfl,rfl⟩) (fun _ h=>h.tail.ftail)
 have hno2:b.dsk.hit (b.dsk.alive n) s l=false:=by
   rcases b.dsk.lvl_spec htm (n:=n) (by omega) with ⟨h1,h2⟩ | ⟨j,h1,h2,h3,h4⟩
   · exact absurd h1 hc0
   · simp only [Dsk.hit,hnx]
     have:t∉b.dsk.alive n:=fun h=>h4 (b.dsk.alive_le (by omega) h)
     simpa using this
 refine Z3 ?_
 exact ZX (.inl ⟨rfl,ZdN hk hno hno2,rfl,rfl⟩) (fun _ h=>h.tail.ftail)
 rintro _ _ _ _ (⟨rfl,rfl,hh,rfl,rfl⟩ | ⟨rfl,rfl,hh,rfl,rfl⟩)
 refine Zev ?_
 refine sqt 1 rfl ?_
 refine sto rfl rfl rfl cn4 rfl rfl rfl rfl ?_
 refine Z4 ?_
 exact Z0p [bd0] idH rfl (.cons (RV.cell rfl (lh sc4 rfl rfl)) .nil) rfl ⟨by rw [hh];rfl,rfl,rfl⟩ (fun w h=>(((h.del b4).del b3).del b2).ftail.ftail)
 refine ZnN ?_
 refine Z4 ?_
 exact Z0p [bd0] idH rfl (.cons (RV.cell rfl (lh sc4 rfl rfl)) .nil) rfl ⟨by rw [hh];rfl,rfl,rfl⟩ (fun w h=>(((h.del b4).del b3).del b2).ftail.ftail)
def Z0h (l:List HSt):List (List Value):=l.map Ze
theorem Z0H (l:List HSt):(Z0h l).length=l.length:=List.length_map _
theorem Z6g {l:List HSt} {k:Nat} {s:HSt} (h:l[k]?=some s):(Z0h l)[k]?=some (Ze s):=by simp [Z0h,h]
theorem Z5x {α:Type} {l:List α} {k:Nat} {x:α} (h:l[k]?=some x):l.take (k+1)=l.take k++[x]:=by rw [List.take_add_one,h];rfl
theorem Z6z (l:List HSt) (x y:HSt):(l++[x]).contains y=(l.contains y||decide (x=y)):=by
 by_cases h:x=y
 · subst h;simp
 · have h':¬ y=x:=fun e=>h e.symm
   simp [h,h']
theorem ZkO (b:Barn) (hok:b.ok) (ab:Option Addr) (cb bd m:Nat) (H:Z6) (R:Z5) [hD:MemRows (some ⟨bd,0,none⟩) 18 [dcs b (b.sl ab cb) b.lasts b.most m] R] :
    Fn Tryz.prog 43 [.pointer (some ⟨bd,0,none⟩)] ((m,ZJ true [])::H) R (fun _ H' R'=>∃ n kv,n≤14641∧b.dsk.alive (n+1)=b.dsk.alive n∧KvOk b.dsk n kv∧H'=(m,ZJ true kv)::H∧R'=R):=by
 refine Z7W Tryz.func43 rfl Tryz.ntmps43 rfl ?_
 refine sqt 1 rfl (bx rfl rfl rfl (fun b1=>sqt 1 rfl (alc rfl Zq7 rfl (fun b2=>Z0 (sqt 2 rfl (spL rfl rfl (lh Z2v rfl rfl) rfl ?_))))))
 refine cl rfl Zpc rfl rfl (Zfl bd _ _) ?_
 rintro _ _ _ ⟨xb,rfl,rfl,rfl⟩
 have hdk:=b.dsk_ok hok
 have hl4:=hdk.lasts.len
 have hm4:=hdk.most.len
 have hnst:=b.dsk.nst_le hdk
 have hsl:=b.dsk.sts_len
 refine Zw b1 ?_
 refine Zw b2 ?_
 refine Z2 ?_
 refine Z3D rfl Zli (fun c0 bl0 bd0 hcp0 hca0 hcb0 hck0=>?_)
 refine ⟨fun st pend T R'=>st = .ready∧pend=none∧∃ (o:OSl 140 4 (Z0h b.dsk.sts)) (kv:KV),T=(bd0,.deferred (some []))::(b2,cel 206 [o.fs])::(b1,cel 137 [.pointer (some ⟨bd,0,none⟩)])::(o.G++(m,ZJ true kv)::H)∧R'=RowsA (some ⟨xb,0,none⟩) 1 [[.pointer (some ⟨bd,0,none⟩)]]::R∧KvOk b.dsk 0 kv,
   Fn.mono (Zck b hok ab cb bd m xb bl0 (fun k H' R'=>∃ (o:OSl 140 4 (Z0h (b.dsk.sts.take k))) (kv:KV),H'=(bl0,lob c0 .ready none)::(bd0,.deferred (some []))::(b2,cel 206 [o.fs])::(b1,cel 137 [.pointer (some ⟨bd,0,none⟩)])::(o.G++(m,ZJ true kv)::H)∧R'=RowsA (some ⟨xb,0,none⟩) 1 [[.pointer (some ⟨bd,0,none⟩)]]::R∧(∀ e∈kv,e.1.length=4)∧∀ s∈b.dsk.sts.take k,kv.get s=some (.int .i64 1000000)) (fun _ _=>False)
     (fun k H' R' h=>by obtain ⟨_,_,_,rfl,_⟩:=h;exact ⟨by simp,List.mem_cons_of_mem _ hD.mem⟩) (fun k s q oo H' R' hk hI=>?_) _ _ ⟨OSl.nil _ _,[],rfl,rfl,by simp,by simp⟩) (fun v H' R' h=>?_),?_⟩
 rotate_left
 · rcases h with ⟨o,kv,rfl,rfl,h1,h2⟩ | h
   · rw [List.take_of_length_le (by rw [hsl];exact Nat.le_refl _)] at h2
     exact ⟨.ready,none,_,by simp,.refl _,rfl,rfl,o.cast (by rw [List.take_of_length_le (by rw [hsl];exact Nat.le_refl _)]),kv,rfl,rfl,h1,h2⟩
   · exact h.elim
 rotate_left
 have hmem:=List.mem_of_getElem? hk
 have hsi:=(b.dsk.mem_sts hdk s).1 hmem
 have hkl:=(List.getElem?_eq_some_iff.1 hk).1
 obtain ⟨s0,s1,s2,s3,rfl⟩:=Z37 hsi.len
 obtain ⟨o,kv,rfl,rfl,hkv1,hkv2⟩:=hI
 refine Zgv hcp0 hca0 hcb0 hck0 rfl ?_
 refine sqr 2 rfl (alc rfl Z3J rfl (fun b3=>?_))
 refine sto rfl rfl rfl Z56 rfl rfl rfl rfl ?_
 refine Z0A ?_
 refine Z2 (sqt 5 rfl (spL rfl rfl (lh ZnH rfl rfl) rfl (spL rfl rfl (lhA [_,_,_,_] Z29 rfl rfl rfl) rfl ?_)))
 refine bsl (out:=[_,_,_,_]) rfl ZjE Z3J rfl rfl rfl rfl rfl rfl (fun b16=>?_)
 refine apO (o) rfl ZhY rfl rfl (Z0y (row:=[.int .i64 s0,.int .i64 s1,.int .i64 s2,.int .i64 s3]) rfl) rfl rfl ((by rw [Z0H,List.length_take];simp only [List.length_singleton];omega)) rfl (fun o17=>?_)
 refine Zy (l':=[o17.fs]) rfl rfl rfl ZmR rfl (by rw [o17.cells.1];first | done | rfl) (by rw [o17.cells.1];simp [o17.cells.2]) (by rw [o17.cells.1];first | done | rfl) (by rw [o17.cells.1];first | done | exact Nat.le_refl _) ?_
 refine Za [0,1,3,7,0,31] (.ld 0 (.tk 1 (.tk 2 (.ld 3 (.ld 4 (.big 5 .done)))))) Zl (by kernel_rfl) ?_
 refine ld rfl rfl (lh Z2v rfl rfl) rfl (tk rfl (PE.nilCheck rfl) rfl (tk rfl (PE.fA Z6O rfl) rfl (ld rfl rfl (lfB (sz:=18) Zea (Z58 hl4 hm4)) rfl (ld rfl rfl (lhA [_,_,_,_] Z29 rfl rfl rfl) rfl ?_))))
 refine mpu kv [s0,s1,s2,s3] rfl Zar (KeyT.of Za1 Zat) rfl rfl rfl rfl hkv1 ?_
 refine bgT ?_
 exact ZX (.inl ⟨rfl,_,rfl,o17.cast (by rw [Z5x hk];simp [Z0h]),kv.put [s0,s1,s2,s3] (.int .i64 1000000),rfl,rfl,KV.put_len rfl hkv1,fun s hs=>by
   rw [KV.get_put]
   by_cases h:[s0,s1,s2,s3]=s
   · rw [dT h];rfl
   · rw [dF h,cond_false]
     rw [Z5x hk] at hs
     rcases List.mem_append.1 hs with h1 | h1
     · exact hkv2 s h1
     · exact absurd (List.mem_singleton.1 h1).symm h⟩) (fun _ h=>(h.del b16).del b3)
 rintro _ _ _ _ ⟨rfl,rfl,o,kv,rfl,rfl,hkv⟩
 refine Zev ?_
 refine sqt 1 rfl (pur 1 rfl (Z2 ?_))
 refine Zd (ι:=(x:{x:Nat×KV // x.1+(b.dsk.alive x.1).length≤b.dsk.nst∧KvOk b.dsk x.1 x.2})×OSl 140 4 (Z0h (b.dsk.alive x.1.1))) (fun x=>⟨[(1,.pointer (some ⟨b1,0,none⟩)),(2,.pointer (some ⟨b2,0,none⟩)),(4,.int .i64 x.1.1.1)],(bd0,.deferred (some []))::(b2,cel 206 [x.2.fs])::(b1,cel 137 [.pointer (some ⟨bd,0,none⟩)])::(x.2.G++(m,ZJ true x.1.1.2)::H),RowsA (some ⟨xb,0,none⟩) 1 [[.pointer (some ⟨bd,0,none⟩)]]::R⟩) (fun x=>(b.dsk.alive x.1.1.1).length) ⟨⟨(0,kv),by show 0+b.dsk.sts.length≤_;rw [hsl];omega,hkv⟩,o⟩ ?_ (fun x=>?_)
 exact Zf idH
 obtain ⟨⟨⟨n,kv⟩,hnl,hkv⟩,o⟩:=x
 dsimp only at hnl hkv o ⊢
 obtain ⟨aa,ca,he,hf⟩:=o.freeze
 rw [he,Z0H]
 refine Sy.heap (H':=(bd0,.deferred (some []))::(b2,cel 206 [.slice aa (b.dsk.alive n).length ca])::(b1,cel 137 [.pointer (some ⟨bd,0,none⟩)])::(m,ZJ true kv)::H) (R':=RowsA aa 4 (Z0h (b.dsk.alive n))::RowsA (some ⟨xb,0,none⟩) 1 [[.pointer (some ⟨bd,0,none⟩)]]::R) (fun w h=>(hf (h.perm (ZF [_,_,_] o.G _))).perm (by first | exact .refl _ | skip)) ?_
 clear he hf
 have hn5:n≤100000:=by omega
 refine Z0 (Z2 (sqt 2 rfl (pur 2 rfl (Z0 (sqt 3 rfl (spL rfl rfl (lh ZnH rfl rfl) rfl (sp rfl (PE.lenSl Zdl rfl) rfl (pur 1 rfl (Z2 ?_)))))))))
 refine Zd (ι:=(k:{k:Nat // k≤(b.dsk.alive n).length})×OSl 140 4 (Z0h ((((b.dsk.alive n).take k.1)).filter fun s=>!b.dsk.helped (b.dsk.alive n) s))×OSl 140 4 (Z0h ((((b.dsk.alive n).take k.1)).filter (b.dsk.helped (b.dsk.alive n))))) (fun x=>⟨[(1,.pointer (some ⟨b1,0,none⟩)),(2,.pointer (some ⟨b2,0,none⟩)),(4,.int .i64 n),(5,x.2.1.fs),(6,x.2.2.fs),(25,.slice aa (b.dsk.alive n).length ca),(26,.int .i64 (b.dsk.alive n).length),(27,.int .i64 x.1.1)],x.2.1.G++(x.2.2.G++(bd0,.deferred (some []))::(b2,cel 206 [.slice aa (b.dsk.alive n).length ca])::(b1,cel 137 [.pointer (some ⟨bd,0,none⟩)])::(m,ZJ true kv)::H),RowsA aa 4 (Z0h (b.dsk.alive n))::RowsA (some ⟨xb,0,none⟩) 1 [[.pointer (some ⟨bd,0,none⟩)]]::R⟩) (fun x=>(b.dsk.alive n).length-x.1.1) ⟨⟨0,by omega⟩,OSl.nil _ _,OSl.nil _ _⟩ ?_ (fun x=>?_)
 exact Zf idH
 obtain ⟨⟨k,hk⟩,o5,o6⟩:=x
 dsimp only at hk o5 o6 ⊢
 refine sqt 1 rfl (pur 1 rfl (Z0 ?_))
 refine Z1 rfl ?_ ?_<;>intro hc0<;>try simp only [cS] at hc0
 obtain ⟨s,hsk⟩:∃ s,(b.dsk.alive n)[k]?=some s:=⟨_,List.getElem?_eq_getElem (by omega)⟩
 have hmem:=b.dsk.alive_sts (List.mem_of_getElem? hsk)
 have hsi:=(b.dsk.mem_sts hdk s).1 hmem
 obtain ⟨s0,s1,s2,s3,rfl⟩:=Z37 hsi.len
 refine Zj (a:=aa) (sz:=4) (rows:=Z0h (b.dsk.alive n)) (by intro h0;have:=congrArg List.length h0;rw [Z0H] at this;simp at this;simp [this] at hsk) (fun ba oa he=>?_)
 subst he
 have hd1:((((b.dsk.alive n).take (k+1))).filter fun s=>!b.dsk.helped (b.dsk.alive n) s)=((((b.dsk.alive n).take k)).filter fun s=>!b.dsk.helped (b.dsk.alive n) s)++(bif b.dsk.helped (b.dsk.alive n) [s0,s1,s2,s3] then [] else [[s0,s1,s2,s3]]):=by rw [Z3l hsk];cases b.dsk.helped (b.dsk.alive n) [s0,s1,s2,s3]<;>rfl
 have hr1:((((b.dsk.alive n).take (k+1))).filter (b.dsk.helped (b.dsk.alive n)))=((((b.dsk.alive n).take k)).filter (b.dsk.helped (b.dsk.alive n)))++(bif b.dsk.helped (b.dsk.alive n) [s0,s1,s2,s3] then [[s0,s1,s2,s3]] else []):=Z3l hsk
 have hl5:((((b.dsk.alive n).take k)).filter fun s=>!b.dsk.helped (b.dsk.alive n) s).length≤14641:=Nat.le_trans (List.length_filter_le _ _) (by rw [List.length_take];omega)
 have hl6:((((b.dsk.alive n).take k)).filter (b.dsk.helped (b.dsk.alive n))).length≤14641:=Nat.le_trans (List.length_filter_le _ _) (by rw [List.length_take];omega)
 refine Z3 (Z0 (Z2 (sqt 4 rfl (sp rfl (PE.indexAddr ZmY rfl rfl (by omega) (by omega)) rfl (spL rfl rfl (lfA Z29 (row:=[.int .i64 s0,.int .i64 s1,.int .i64 s2,.int .i64 s3]) (Z6g hsk) rfl) rfl (alc rfl Z3J rfl (fun b8=>?_)))))))
 refine sto rfl rfl rfl Z56 rfl rfl rfl rfl ?_
 refine sqt 3 rfl (spL rfl rfl (lh Z2v rfl rfl) rfl (spL rfl rfl (lhA [_,_,_,_] Z29 rfl rfl rfl) rfl ?_))
 refine clV rfl Zpd rfl rfl (Zff b hok ab cb bd m n hn5 kv hkv [s0,s1,s2,s3] hmem _ _) ?_
 refine Z1 rfl ?_ ?_<;>intro hc1
 rw [hc1,cond_true,List.append_nil] at hd1
 rw [hc1,cond_true] at hr1
 refine sqr 5 rfl (pur 1 rfl (spL rfl rfl (lhA [_,_,_,_] Z29 rfl rfl rfl) rfl ?_))
 refine bsl (out:=[_,_,_,_]) rfl ZjE Z3J rfl rfl rfl rfl rfl rfl (fun b36=>?_)
 refine apO (o6) rfl ZhY rfl rfl (Z0y (row:=[.int .i64 s0,.int .i64 s1,.int .i64 s2,.int .i64 s3]) rfl) rfl rfl ((by rw [Z0H];simp only [List.length_singleton];omega)) rfl (fun o37=>?_)
 refine pur 1 rfl (sqr 2 rfl (sp rfl (PE.add rfl rfl (by omega)) rfl (pur 1 rfl ?_)))
 first
   | exact Zh ⟨⟨k+1,by omega⟩,o5.cast (by rw [hd1]),o37.cast (by rw [hr1];simp [Z0h])⟩ (by dsimp only;omega) (fun w h=>(h.del b36).del b8)
   | exact Zh ⟨⟨k+1,by omega⟩,o41.cast (by rw [hd1];simp [Z0h]),o6.cast (by rw [hr1])⟩ (by dsimp only;omega) (fun w h=>(h.del b40).del b8)
 rw [hc1,cond_false] at hd1
 rw [hc1,cond_false,List.append_nil] at hr1
 refine sqr 5 rfl (pur 1 rfl (spL rfl rfl (lhA [_,_,_,_] Z29 rfl rfl rfl) rfl ?_))
 refine bsl (out:=[_,_,_,_]) rfl ZjE Z3J rfl rfl rfl rfl rfl rfl (fun b40=>?_)
 refine apO (o5) rfl ZhY rfl rfl (Z0y (row:=[.int .i64 s0,.int .i64 s1,.int .i64 s2,.int .i64 s3]) rfl) rfl rfl ((by rw [Z0H];simp only [List.length_singleton];omega)) rfl (fun o41=>?_)
 refine pur 1 rfl (sqr 2 rfl (sp rfl (PE.add rfl rfl (by omega)) rfl (pur 1 rfl ?_)))
 first
   | exact Zh ⟨⟨k+1,by omega⟩,o5.cast (by rw [hd1]),o37.cast (by rw [hr1];simp [Z0h])⟩ (by dsimp only;omega) (fun w h=>(h.del b36).del b8)
   | exact Zh ⟨⟨k+1,by omega⟩,o41.cast (by rw [hd1];simp [Z0h]),o6.cast (by rw [hr1])⟩ (by dsimp only;omega) (fun w h=>(h.del b40).del b8)
 obtain rfl:k=(b.dsk.alive n).length:=by omega
 obtain ⟨p5,h5f,h5g⟩:∃ o:OSl 140 4 (Z0h ((b.dsk.alive n).filter fun s=>!b.dsk.helped (b.dsk.alive n) s)),o.fs=o5.fs∧o.G=o5.G:=⟨o5.cast (by rw [List.take_length]),rfl,rfl⟩
 obtain ⟨p6,h6f,h6g⟩:∃ o:OSl 140 4 (Z0h (b.dsk.alive (n+1))),o.fs=o6.fs∧o.G=o6.G:=⟨o6.cast (by rw [List.take_length];rfl),rfl,rfl⟩
 rw [← h5f,← h6f]
 refine Sy.heap (H':=p5.G++(p6.G++(bd0,.deferred (some []))::(b2,cel 206 [.slice aa (b.dsk.alive n).length ca])::(b1,cel 137 [.pointer (some ⟨bd,0,none⟩)])::(m,ZJ true kv)::H)) (fun w h=>by rw [h5g,h6g];exact h) ?_
 clear h5f h5g h6f h6g
 obtain ⟨ad,cd,he,hf⟩:=p5.freeze
 rw [he,Z0H]
 refine Sy.heap (fun w h=>hf h) ?_
 clear he hf
 refine Z7 (Z8 (Z8 (Zi (Z0 (sqt 3 rfl (pur 1 rfl (sp rfl (PE.lenSl Zdl rfl) rfl (pur 1 rfl ?_))))))))
 refine Z1 rfl ?_ ?_<;>intro hc2<;>try simp only [cS] at hc2
 have hfix:=b.dsk.alive_same (n:=n) (by omega)
 refine Z4 ?_
 refine Sy.heap (fun w h=>(St.drop (G:=p6.G) ((h.del b2).del b1)).ftail.ftail.ftail) ?_
 exact Z0p [bd0] idH rfl .nil rfl ⟨n,kv,by omega,hfix,hkv,rfl,rfl⟩ idH
 have hls:=b.dsk.alive_less (n:=n) (by omega)
 have hdl:((b.dsk.alive n).filter fun s=>!b.dsk.helped (b.dsk.alive n) s).length≤14641:=Nat.le_trans (List.length_filter_le _ _) (by omega)
 refine Z3 (Z0 (sqt 3 rfl (pur 1 rfl (sp rfl (PE.lenSl Zdl rfl) rfl (pur 1 rfl (Z2 ?_))))))
 refine Zd (ι:={x:Nat×KV // x.1≤((b.dsk.alive n).filter fun s=>!b.dsk.helped (b.dsk.alive n) s).length∧(∀ e∈x.2,e.1.length=4)∧∀ s∈b.dsk.sts,x.2.get s=some (.int .i64 (bif (((b.dsk.alive n).filter fun s=>!b.dsk.helped (b.dsk.alive n) s).take x.1).contains s then (n:Int) else b.dsk.lvl n s))}) (fun x=>⟨[(1,.pointer (some ⟨b1,0,none⟩)),(2,.pointer (some ⟨b2,0,none⟩)),(4,.int .i64 n),(6,p6.fs),(46,.slice ad ((b.dsk.alive n).filter fun s=>!b.dsk.helped (b.dsk.alive n) s).length cd),(47,.int .i64 ((b.dsk.alive n).filter fun s=>!b.dsk.helped (b.dsk.alive n) s).length),(48,.int .i64 x.1.1)],p6.G++(bd0,.deferred (some []))::(b2,cel 206 [.slice aa (b.dsk.alive n).length ca])::(b1,cel 137 [.pointer (some ⟨bd,0,none⟩)])::(m,ZJ true x.1.2)::H,RowsA ad 4 (Z0h ((b.dsk.alive n).filter fun s=>!b.dsk.helped (b.dsk.alive n) s))::RowsA aa 4 (Z0h (b.dsk.alive n))::RowsA (some ⟨xb,0,none⟩) 1 [[.pointer (some ⟨bd,0,none⟩)]]::R⟩) (fun x=>((b.dsk.alive n).filter fun s=>!b.dsk.helped (b.dsk.alive n) s).length-x.1.1) ⟨(0,kv),Nat.zero_le _,hkv.len,fun s hs=>by rw [hkv.get s hs];rfl⟩ ?_ (fun x=>?_)
 exact Zf idH
 obtain ⟨⟨k,kv2⟩,hk,hkl,hkg⟩:=x
 dsimp only at hk hkl hkg ⊢
 refine sqt 1 rfl (pur 1 rfl (Z0 ?_))
 refine Z1 rfl ?_ ?_<;>intro hc3<;>try simp only [cS] at hc3
 obtain ⟨s,hsk⟩:∃ s,((b.dsk.alive n).filter fun s=>!b.dsk.helped (b.dsk.alive n) s)[k]?=some s:=⟨_,List.getElem?_eq_getElem (by omega)⟩
 have hmem:=b.dsk.alive_sts (List.mem_filter.1 (List.mem_of_getElem? hsk)).1
 have hsi:=(b.dsk.mem_sts hdk s).1 hmem
 obtain ⟨s0,s1,s2,s3,rfl⟩:=Z37 hsi.len
 refine Zj (a:=ad) (sz:=4) (rows:=Z0h ((b.dsk.alive n).filter fun s=>!b.dsk.helped (b.dsk.alive n) s)) (ne0 (by rw [Z0H];omega)) (fun ba oa he=>?_)
 subst he
 refine Z3 (Z0 (Z2 (sqt 4 rfl (sp rfl (PE.indexAddr ZmY rfl rfl (by omega) (by omega)) rfl (spL rfl rfl (lfA Z29 (row:=[.int .i64 s0,.int .i64 s1,.int .i64 s2,.int .i64 s3]) (Z6g hsk) rfl) rfl (alc rfl Z3J rfl (fun b10=>?_)))))))
 refine sto rfl rfl rfl Z56 rfl rfl rfl rfl ?_
 refine Za [0,1,3,7,0,0,63] (.ld 0 (.tk 1 (.tk 2 (.ld 3 (.ld 4 (.tk 5 (.big 6 .done))))))) Zl (by kernel_rfl) ?_
 refine ld rfl rfl (lh Z2v rfl rfl) rfl (tk rfl (PE.nilCheck rfl) rfl (tk rfl (PE.fA Z6O rfl) rfl (ld rfl rfl (lfB (sz:=18) Zea (Z58 hl4 hm4)) rfl (ld rfl rfl (lhA [_,_,_,_] Z29 rfl rfl rfl) rfl (Zg 1 rfl ?_)))))
 refine mpu kv2 [s0,s1,s2,s3] rfl Zar (KeyT.of Za1 Zat) rfl rfl rfl rfl hkl ?_
 refine bgT (sqr 2 rfl (sp rfl (PE.add rfl rfl (by omega)) rfl (pur 1 rfl ?_)))
 exact Zv ⟨(k+1,kv2.put [s0,s1,s2,s3] (.int .i64 n)),by dsimp only;omega,KV.put_len rfl hkl,fun s hs=>by
   dsimp only
   rw [KV.get_put,Z5x hsk,Z6z]
   by_cases h:[s0,s1,s2,s3]=s
   · rw [dT h,Bool.or_true];rfl
   · rw [dF h,Bool.or_false,cond_false];exact hkg s hs⟩ (by dsimp only;omega) sbA (fun w h=>h.del b10)
 obtain rfl:k=((b.dsk.alive n).filter fun s=>!b.dsk.helped (b.dsk.alive n) s).length:=by omega
 rw [List.take_length] at hkg
 have hkv2:KvOk b.dsk (n+1) kv2:=⟨hkl,fun s hs=>by rw [hkg s hs,b.dsk.lvl_step hs hn5]⟩
 refine Z7 (Z8 (Z8 (Zi (sqr 2 rfl (pur 1 rfl ?_)))))
 refine Zy (l':=[p6.fs]) rfl rfl rfl ZmR rfl (by rw [p6.cells.1];first | done | rfl) (by rw [p6.cells.1];simp [p6.cells.2]) (by rw [p6.cells.1];first | done | rfl) (by rw [p6.cells.1];first | done | exact Nat.le_refl _) ?_
 refine sqr 3 rfl (pur 1 rfl (sp rfl (PE.add rfl rfl (by omega)) rfl (pur 1 rfl ?_)))
 exact Zb ⟨⟨(n+1,kv2),by dsimp only;omega,hkv2⟩,p6⟩ (fun w h=>(h.perm (ZF p6.G [_,_,_] _)).ftail.ftail)
theorem ZoK:cal Tryz.prog 12=true:=by kernel_rfl
theorem ZoU:cal Tryz.prog 42=true:=by kernel_rfl
theorem ZoV:cal Tryz.prog 43=true:=by kernel_rfl
theorem Barn.state_inS {b:Barn} (hb:b.ok):b.dsk.inS b.state where
 len:=(b.state_sml hb).len
 at_ k hk:=by
   obtain ⟨x,hx⟩:∃ x,b.bins[k]?=some x:=⟨_,List.getElem?_eq_getElem hk⟩
   have hm:=List.mem_of_getElem? hx
   have h1:na b.state k=_:=Z5n (b.map_get hb _ hx)
   have h2:na b.most k=_:=Z5n (b.map_get hb _ hx)
   have h3:na b.lasts k=_:=Z5n (b.map_get hb _ hx)
   have h4:=((b.dsk_ok hb).ever k hk)
   have r1:=b.days_range hb hm (hb.bins x hm).2.1.1
   have r2:=b.days_range hb hm hb.cool.1
   show (na b.most k=1000000∧na b.state k=1000000)∨(na b.most k≠1000000∧0≤na b.state k∧na b.state k≤na b.most k)
   have h5:na b.lasts k=1000000↔na b.most k=1000000:=h4.2.2
   have z:∀ w,0≤w→(b.days x w=1000000↔b.worst x=0):=fun w hw=>by
     constructor
     · intro h
       rcases Classical.em (b.worst x=0) with h0 | h0
       · exact h0
       · have h9:=b.worst_range hb hm
         have h8:=(hb.bins x hm).1
         unfold Barn.days Z6C at h
         rw [decide_eq_false h0,cond_false] at h
         by_cases h3:x.mark<w
         · rw [decide_eq_true h3,cond_true] at h;omega
         · rw [decide_eq_false h3,cond_false] at h
           have:(x.mark-w) / b.worst x<11:=Int.ediv_lt_of_lt_mul (by omega) (by omega)
           omega
     · intro h;unfold Barn.days Z6C;rw [h];rfl
   have z1:=z _ (hb.bins x hm).2.1.1
   have z2:=z _ hb.cool.1
   rw [h1,h2]
   rw [h3,h2] at h5
   by_cases h0:b.worst x=0
   · have:=z1.2 h0;have:=z2.2 h0;omega
   · have:¬ b.days x x.warm=1000000:=fun h=>h0 (z1.1 h)
     have:¬ b.days x b.cool=1000000:=fun h=>h0 (z2.1 h)
     omega
 out k hk hk':=by
   have:(pad (b.bins.map fun x=>b.days x x.warm))[k]?=some 0:=Zax (by rw [List.length_map];exact hk') hk
   exact Z5n this
theorem Barn.state_sts {b:Barn} (hb:b.ok):b.state∈b.dsk.sts:=(b.dsk.mem_sts (b.dsk_ok hb) _).2 (b.state_inS hb)
def Zon (b:Barn):Value→Prop:=fun v=>(b.check≠0∧v = .tuple #[.int .i64 0,.int .i64 b.check])∨(b.check=0∧∃ w,Kpt b.dsk b.state w∧v = .tuple #[.int .i64 w,.int .i64 0])
def Zkd (b:Barn):Value→Prop:=fun v=>(b.check≠0∧v = .tuple #[.int .i64 0,.int .i64 b.check])∨(b.check=0∧∃ w,Kpt b.dsk b.state w∧v = .tuple #[.int .i64 (bif decide (w=1000000) then 0 else w),.int .i64 (bif decide (w=1000000) then 6 else 0)])
def Barn.withG (b:Barn) (g:Int):Barn:={ b with gangs:=g }
def Barn.ends (b:Barn) (g:Nat):Prop:=∃ w,w≠1000000∧Kpt (b.withG g).dsk b.state w
theorem ZbO (b:Barn) (ab:Option Addr) (cb:Nat) (hl:b.bins.length≤9223372036854775807) (hr:b.rise.length=6) (H:Z6) (R:Z5) [hB:MemRows ab 4 (Z0q b.bins) R] :
    Fn Tryz.prog 12 [b.v (b.sl ab cb)] H R (fun v H' R'=>Zon b v∧H'=H∧R'=R):=by
 refine Zc Tryz.func12 rfl Tryz.ntmps12 rfl ?_
 refine sqt 3 rfl (bx rfl rfl rfl (fun b1=>pur 2 rfl (sqt 7 rfl (spL rfl rfl (lhA (btl b (b.sl ab cb)) Z7D rfl rfl rfl) rfl ?_))))
 refine cl rfl ZoU rfl rfl (Z1j b ab cb hl hr _ _) ?_
 rintro _ _ _ (⟨hck,rfl,rfl,rfl⟩ | ⟨hck,bd,m,rfl,rfl,rfl⟩)
 refine pur 5 rfl (Z0 (sqt 2 rfl (pur 2 rfl ?_)))
 refine ZK (congrArg (fun b=>some (Value.bool b)) (dT hck)) ?_
 refine sqt 3 rfl (pur 3 rfl (Z4 ?_))
 exact rtB rfl rfl rfl rfl ⟨.inl ⟨hck,rfl⟩,rfl,rfl⟩ drp
 have hok:=Barn.ok_of hr hck
 have hdk:=b.dsk_ok hok
 have hl4:=hdk.lasts.len
 have hm4:=hdk.most.len
 refine pur 5 rfl (Z0 (sqt 2 rfl (pur 2 rfl ?_)))
 refine Zt (rfl) ?_
 refine Z3 (sqt 2 rfl (pur 1 rfl ?_))
 refine cl rfl ZoV rfl rfl (ZkO b hok ab cb bd m _ _) ?_
 rintro v _ _ ⟨n,kv,hn,hfx,hkv,rfl,rfl⟩
 have hks:=Zni (b.state_sts hok) hn hfx
 have hkg:=hkv.get _ (b.state_sts hok)
 refine Z0 ?_
 refine Za [0,1,3,7,0,16,63,127,255] (tks 0 3 (.ld 3 (.ld 4 (.big 5 (.ld 6 (.tk 7 (.tk 8 .done))))))) Zl (by kernel_rfl) ?_
 refine Zg 1 rfl (tk rfl (PE.nilCheck rfl) rfl (tk rfl (PE.fA Z6O rfl) rfl (ld rfl rfl (lfB (sz:=18) Zea (Z58 hl4 hm4)) rfl (ld rfl rfl (lhA (btl b (b.sl ab cb)) Z7D rfl rfl rfl) rfl ?_))))
 refine clV rfl Zit rfl rfl (Z8L b ab cb hok _ _) ?_
 refine bg (fun w hs=>⟨trivial,(lfB (sz:=18) Zea (Z58 hl4 hm4)) w hs,trivial⟩) ?_
 refine ldK rfl rfl rfl ((Z19 (b:=true) kv b.state Zar (KeyT.of Za1 Zat) (ZQ zv3) (b.state_sml hok).len hkv.len false)) rfl ?_
 rw [hkg]
 refine Zg 2 rfl (Z4 ?_)
 exact rtB rfl rfl rfl rfl ⟨.inr ⟨hck,_,hks,rfl⟩,rfl,rfl⟩ (fun w h=>((h.del b1).del m).ftail)
theorem c_First (b:Barn) (ab:Option Addr) (cb:Nat) (hl:b.bins.length≤9223372036854775807) (hr:b.rise.length=6) (H:Z6) (R:Z5) [hB:MemRows ab 4 (Z0q b.bins) R] :
    Fn Tryz.prog 31 [b.v (b.sl ab cb)] H R (fun v H' R'=>Zkd b v∧H'=H∧R'=R):=by
 refine Zc Tryz.func31 rfl Tryz.ntmps31 rfl ?_
 refine sqt 3 rfl (bx rfl rfl rfl (fun b1=>pur 2 rfl (sqt 7 rfl (spL rfl rfl (lhA (btl b (b.sl ab cb)) Z7D rfl rfl rfl) rfl ?_))))
 refine cl rfl ZoK rfl rfl (ZbO b ab cb hl hr _ _) ?_
 rintro _ _ _ ⟨(⟨hck,rfl⟩ | ⟨hck,w,hw,rfl⟩),rfl,rfl⟩
 refine pur 5 rfl (Z0 (Z2 (sqt 3 rfl (pur 3 rfl ?_))))
 refine ZK (congrArg (fun b=>some (Value.bool b)) (dT hck)) ?_
 refine sqt 3 rfl (pur 3 rfl (Z4 ?_))
 exact rtB rfl rfl rfl rfl ⟨.inl ⟨hck,rfl⟩,rfl,rfl⟩ drp
 refine pur 5 rfl (Z0 (Z2 (sqt 3 rfl (pur 3 rfl ?_))))
 refine Zt (rfl) ?_
 refine sqt 3 rfl (pur 3 rfl ?_)
 refine Z1 rfl ?_ ?_<;>intro hc1<;>try simp only [cS] at hc1
 refine sqt 2 rfl (pur 2 rfl (Z4 ?_))
 exact rtB rfl rfl rfl rfl ⟨.inr ⟨hck,w,hw,by rw [dT hc1];rfl⟩,rfl,rfl⟩ drp
 refine Z3 (sqt 3 rfl (pur 3 rfl (Z4 ?_)))
 exact rtB rfl rfl rfl rfl ⟨.inr ⟨hck,w,hw,by rw [dF hc1];rfl⟩,rfl,rfl⟩ drp
theorem ir_get {l:List Int} {k:Nat} {x:Int} (h:l[k]?=some x):(irows l)[k]?=some [.int .i64 x]:=by simp [h]
def Barn.wd (b:Barn) (x:HBin) (w:Int) (t:Bool):Int:=(bif t then min w b.cool else w)+b.worst x
def Z6S (l:List Int) (k:Int):Bool:=l.any fun y=>decide (k=y)
def hb0:HBin:=⟨0,0,0,0⟩
def Barn.wdAt (b:Barn) (ws l:List Int) (k:Nat):Int:=b.wd (b.bins.getD k hb0) (na ws k) (Z6S l k)
def Barn.hotAt (b:Barn) (ws l:List Int) (k:Nat):Bool:=decide ((b.bins.getD k hb0).mark<b.wdAt ws l k)
def Barn.dayW (b:Barn) (ws l:List Int):List Int:=(List.range b.bins.length).map (b.wdAt ws l)
def Barn.warms (b:Barn):List Int:=b.bins.map (·.warm)
structure Cool (b:Barn) (ws:List Int):Prop where
 len:ws.length=b.bins.length
 at_:∀ k x,b.bins[k]?=some x→0≤na ws k∧na ws k≤x.mark
theorem Barn.dayW_len (b:Barn) (ws l:List Int):(b.dayW ws l).length=b.bins.length:=by simp [Barn.dayW]
theorem Barn.dayW_at {b:Barn} {ws l:List Int} {k:Nat} (hk:k<b.bins.length):(b.dayW ws l)[k]?=some (b.wdAt ws l k):=by unfold Barn.dayW;rw [List.getElem?_map,List.getElem?_range hk];rfl
theorem Z9A {b:Barn} {k:Nat} {x:HBin} (hx:b.bins[k]?=some x):b.bins.getD k hb0=x:=by rw [List.getD_eq_getElem?_getD,hx];rfl
theorem Barn.wdAt_of {b:Barn} {ws l:List Int} {k:Nat} {x:HBin} (hx:b.bins[k]?=some x):b.wdAt ws l k=b.wd x (na ws k) (Z6S l k):=by unfold Barn.wdAt;rw [Z9A hx]
theorem Cool.start {b:Barn} (hb:b.ok):Cool b b.warms where
 len:=List.length_map _
 at_ k x hx:=by
   have h:=(hb.bins x (List.mem_of_getElem? hx)).2.1
   have e:na b.warms k=x.warm:=by unfold na Barn.warms;rw [List.getD_eq_getElem?_getD,List.getElem?_map,hx];rfl
   rw [e];exact h
theorem Cool.next {b:Barn} (hb:b.ok) {ws l:List Int} (h:Cool b ws) (hn:∀ k<b.bins.length,b.hotAt ws l k=false):Cool b (b.dayW ws l) where
 len:=b.dayW_len _ _
 at_ k x hx:=by
   have hk:=(List.getElem?_eq_some_iff.1 hx).1
   have e:na (b.dayW ws l) k=b.wdAt ws l k:=Z5n (b.dayW_at hk)
   have h1:=of_decide_eq_false (hn k hk)
   rw [Z9A hx] at h1
   have h2:=h.at_ k x hx
   have h3:=b.worst_range hb (List.mem_of_getElem? hx)
   have h4:=hb.cool
   rw [e]
   refine ⟨?_,by omega⟩
   rw [b.wdAt_of hx]
   unfold Barn.wd
   cases Z6S l k<;>simp only [cond_true,cond_false]<;>omega
theorem Zib (l:List HBin):∀ q∈Z0q l,q.length=4:=fun q hq=>by obtain ⟨x,_,rfl⟩:=List.mem_map.1 hq;rfl
def ZpY (x:Int×Int):List Value:=[.int .i64 x.1,.int .i64 x.2]
def sprows (l:List (Int×Int)):List (List Value):=l.map ZpY
def rep (n:Nat) (p:List (List Int)):List (List Int):=(List.replicate n p).flatten
def Zri (l:List Nat):Nat:=l.foldl (fun o k=>o|||(1*2 ^ k)) 0
abbrev MW:=List (HSt×List Int)
def zw:List Int:=[0,0,0,0,0,0]
def Zpv (m:MW) (s:HSt):Option (List Int):=(m.find? fun e=>decide (e.1=s)).map (·.2)
def Zqv:MW→HSt→List Int→MW
 | [],k,v=>[(k,v)]
 | (k',v')::l,k,v=>bif decide (k'=k) then (k,v)::l else (k',v')::Zqv l k v
def Zro (m:MW) (e:HSt×List Int):MW:=bif decide ((Zpv m e.1).getD zw=zw)||decide (na e.2 5<na ((Zpv m e.1).getD zw) 5) then Zqv m e.1 e.2 else m
def Zr4 (d:Dsk) (s:HSt) (c:Int) (l:List Nat):Option (HSt×List Int):=(d.next s l).map fun t=>(t,s++[(Zri l:Int),c+(l.length:Int)])
def Zr5 (d:Dsk) (m:MW) (s:HSt) (j:Nat):List (HSt×List Int):=match Zpv m s with
 | none=>[]
 | some w=>((d.trs false).take j).filterMap (Zr4 d s (na w 5))
def evW (d:Dsk) (m:MW) (s:HSt):List (HSt×List Int):=Zr5 d m s (d.trs false).length
def Zr8 (d:Dsk) (m:MW) (k:Nat):MW:=((d.sts.take k).flatMap (evW d m)).foldl Zro []
def Zqs (d:Dsk) (s0:HSt):Nat→MW
 | 0=>[(s0,zw)]
 | i+1=>Zr8 d (Zqs d s0 i) d.nst
def MsOk (d:Dsk) (s0:HSt) (ms:List (Nat×MW)) (n:Nat):Prop:=ms.length=n∧∀ j<n,∃ x,ms[j]?=some (x,Zqs d s0 j)
theorem MsOk.start (d:Dsk) (s0:HSt) (x:Nat):MsOk d s0 [(x,[(s0,zw)])] 1:=⟨rfl,fun j hj=>by
 obtain rfl:j=0:=by omega
 exact ⟨x,rfl⟩⟩
theorem Z2R:Z0W Tryz.prog 37=some 2:=by kernel_rfl
theorem ZqV:Zz Tryz.prog 33=some 9:=by kernel_rfl
theorem ZfG:elN Tryz.prog 84=some 2:=by kernel_rfl
theorem Zb4:eqB Tryz.prog 10000 37=some (true,2):=by kernel_rfl
theorem ZcJ:Tryz.prog.eqGuardType Tryz.prog.depth 37=false:=by kernel_rfl
theorem Zdo:Z2o Tryz.prog 84=true:=by kernel_rfl
theorem Zra:ZD Tryz.prog 33=some [(0,1),(1,1),(2,6),(8,1)]:=by kernel_rfl
theorem Z3Z:ZD Tryz.prog 37=some [(0,1),(1,1)]:=by kernel_rfl
theorem ZpG:ZD Tryz.prog 39=some [(0,1),(1,1),(2,2)]:=by kernel_rfl
theorem Zqz:slE Tryz.prog 31=some (39,4):=by kernel_rfl
theorem Zrp:Zp Tryz.prog 30=some ([.int .i64 0,.int .i64 0,.int .i64 0,.int .i64 0,.int .i64 0,.int .i64 0]):=by kernel_rfl
theorem ZqD:Zp Tryz.prog 33=some ([.int .i64 0,.int .i64 0,.int .i64 0,.int .i64 0,.int .i64 0,.int .i64 0,.int .i64 0,.int .i64 0,.slice none 0 0]):=by kernel_rfl
theorem Z1s:Zp Tryz.prog 37=some ([.int .i64 0,.int .i64 0]):=by kernel_rfl
def thr (n:Nat):Barn:=⟨20,1,[0,0,6,8,10,20],[⟨20,40,3,4⟩,⟨30,50,2,3⟩,⟨30,40,4,4⟩].take n⟩
theorem ZjJ {n:Nat} (h:n≤3):(thr n).bins.length=n:=by simp [thr];omega
theorem ex_c:(thr 2).check=0∧(thr 3).check=0:=by decide +kernel
theorem ex_f:(thr 3).state∈(thr 3).dsk.alive 3∧(thr 3).state∉(thr 3).dsk.alive 4:=by decide +kernel
theorem c_Three (n:Nat) (hn:n≤3) (H:Z6) (R:Z5) :
    Fn Tryz.prog 32 [.int .i64 n] H R (fun v H' R'=>∃ ba,v=(thr n).v ((thr n).sl (some ⟨ba,0,none⟩) 3)∧H'=H∧R'=RowsA (some ⟨ba,0,none⟩) 4 (Z0q (thr n).bins)::R):=by
 refine Zc Tryz.func32 rfl Tryz.ntmps32 rfl ?_
 refine sqt 1 rfl (alc rfl ZqD rfl (fun b2=>sqt 8 rfl (sp rfl (PE.build (out:=[_,_]) Z3Z Z1s rfl rfl) rfl (sp rfl (PE.build (out:=[_,_,_,_]) ZpG Zo6 rfl rfl) rfl (sp rfl (PE.build (out:=[_,_]) Z3Z Z1s rfl rfl) rfl (sp rfl (PE.build (out:=[_,_,_,_]) ZpG Zo6 rfl rfl) rfl (sp rfl (PE.build (out:=[_,_]) Z3Z Z1s rfl rfl) rfl (sp rfl (PE.build (out:=[_,_,_,_]) ZpG Zo6 rfl rfl) rfl ?_))))))))
 refine bsl (out:=[_,_,_,_,_,_,_,_,_,_,_,_]) rfl Zqz Zo6 rfl rfl rfl rfl rfl rfl (fun b10=>?_)
 refine pur 1 rfl (sqt 10 rfl (sp rfl (PE.buildArr (out:=[_,_,_,_,_,_]) Zo8 Zrp rfl rfl) rfl (pur 3 rfl (sp rfl (PE.lenSl Z3W rfl) rfl (sp rfl (PE.min rfl rfl) rfl (sp rfl (PE.max rfl rfl) rfl (sp rfl (PE.slHi (h:=n) Zqz rfl (by rw [show (max (0:Int) (min (n:Int) ((3:Nat):Int)))=(n:Int) by omega];rfl) (by omega)) rfl (sp rfl (PE.build (out:=[_,_,_,_,_,_,_,_,_]) Zra ZqD rfl rfl) rfl ?_))))))))
 refine sto rfl rfl rfl ZqV rfl rfl rfl rfl ?_
 refine Z4 ?_
 refine Sy.heap (fun w h=>St.rows (sz:=4) (rows:=Z0q (thr 3).bins) (rest:=[]) (h.pull b10) (Zib _)) ?_
 refine Sy.heap (R':=RowsA (some ⟨b10,0,none⟩) 4 (Z0q (thr n).bins)::R) (fun w h=>(h.rowsTake (a:=some ⟨b10,0,none⟩) (rows:=Z0q (thr 3).bins) n).facts (fun f hf=>by
   rcases List.mem_cons.1 hf with h1 | h1
   · rw [h1,show Z0q (thr n).bins=(Z0q (thr 3).bins).take n from by simp [Z0q,thr,List.map_take]];exact List.mem_cons_self
   · simp [h1])) ?_
 have hln:=ZjJ hn
 exact Z9 (vs:=[_]) rfl (.cons (RV.cell rfl (lhA [_,_,_,_,_,_,_,_,_] Z7D rfl rfl rfl)) .nil) rfl ⟨b10,by unfold Barn.sl;rw [hln];rfl,rfl,rfl⟩ (fun w h=>h.del b2)
end Go.Proofs.YtcfdanhklbklkaaGreat.Ht
namespace Go.Proofs.YtcfdanhklbklkaaGreat.Wv
set_option linter.unusedSimpArgs false
set_option linter.unusedVariables false
structure Gp where
 a:Int
 b:Int
 deriving DecidableEq,Repr
structure Sgt where
 week:Int
 bin:Int
 seen:Bool
 deriving DecidableEq,Repr
structure Hse where
 bins:Int
 gaps:List Gp
 sights:List Sgt
 deriving DecidableEq,Repr
def na (l:List Int) (k:Nat):Int:=l.getD k 0
@[reducible] def inB (n lo hi : Int) : Bool := decide (lo ≤ n) && decide (n ≤ hi)
def Hse.check (h:Hse):Int :=
 bif !(inB h.bins 1 7)||decide (10<h.gaps.length)||decide (8<h.sights.length) then 2 else
 bif !(h.sights.all fun s=>inB s.week 0 9) then 3 else
 bif !(h.gaps.all fun g=>inB g.a 0 (h.bins-1)&&inB g.b 0 (h.bins-1))||!(h.sights.all fun s=>inB s.bin 0 (h.bins-1)) then 1 else
 bif !(h.gaps.all fun g=>!decide (g=⟨g.b,g.a⟩)) then 5 else 0
structure Hse.ok (h:Hse):Prop where
 bins:1≤h.bins∧h.bins≤7
 gl:h.gaps.length≤10
 sl:h.sights.length≤8
 gaps:∀ g∈h.gaps,(0≤g.a∧g.a<h.bins)∧(0≤g.b∧g.b<h.bins)∧g.a≠g.b
 sights:∀ s∈h.sights,(0≤s.week∧s.week≤9)∧0≤s.bin∧s.bin<h.bins
theorem gp_swap {g:Gp}:g=⟨g.b,g.a⟩↔g.a=g.b:=by
 cases g with
 | mk a b=>simp only [Gp.mk.injEq];omega
theorem hse_ok {h:Hse}:h.check=0↔h.ok:=by
 unfold Hse.check
 simp only [Bool.cond_eq_ite]
 constructor
 · intro h0
   split at h0<;>try (exact absurd h0 (by decide))
   split at h0<;>try (exact absurd h0 (by decide))
   split at h0<;>try (exact absurd h0 (by decide))
   split at h0<;>try (exact absurd h0 (by decide))
   rename_i h1 h2 h3 h4
   simp only [Bool.not_eq_true',Bool.not_eq_true,Bool.or_eq_true,not_or,Bool.not_eq_false',Bool.not_eq_false,inB,Bool.and_eq_true,decide_eq_true_eq,List.all_eq_true,decide_eq_false_iff_not] at h1 h2 h3 h4
   refine ⟨⟨by omega,by omega⟩,by omega,by omega,fun g hg=>?_,fun s hs=>?_⟩
   · have k1:=h3.1 g hg
     have k2:=h4 g hg
     rw [gp_swap] at k2
     exact ⟨by omega,by omega,k2⟩
   · have k1:=h2 s hs
     have k2:=h3.2 s hs
     exact ⟨by omega,by omega⟩
 · intro h0
   have hb:=h0.bins
   have hg:=h0.gl
   have hs:=h0.sl
   have e1:(!(inB h.bins 1 7)||decide (10<h.gaps.length)||decide (8<h.sights.length))=false:=by
     rw [Bool.or_eq_false_iff,Bool.or_eq_false_iff]
     exact ⟨⟨by simp [inB];omega,by simp;omega⟩,by simp;omega⟩
   have e2:(h.sights.all fun s=>inB s.week 0 9)=true:=List.all_eq_true.2 fun s h1=>by have:=h0.sights s h1;simp [inB];omega
   have e3:(h.gaps.all fun g=>inB g.a 0 (h.bins-1)&&inB g.b 0 (h.bins-1))=true:=List.all_eq_true.2 fun g h1=>by have:=h0.gaps g h1;simp [inB];omega
   have e4:(h.sights.all fun s=>inB s.bin 0 (h.bins-1))=true:=List.all_eq_true.2 fun s h1=>by have:=h0.sights s h1;simp [inB];omega
   have e5:(h.gaps.all fun g=>!decide (g=⟨g.b,g.a⟩))=true:=List.all_eq_true.2 fun g h1=>by
     rw [decide_eq_false (fun e=>(h0.gaps g h1).2.2 (gp_swap.1 e))];rfl
   rw [e1,e2,e3,e4,e5];rfl
def Z6S (l:List Int) (v:Int):Bool:=l.any fun x=>decide (v=x)
theorem hasI_iff {l:List Int} {v:Int}:Z6S l v=true↔v∈l:=by
 unfold Z6S
 rw [List.any_eq_true]
 exact ⟨fun ⟨x,h1,h2⟩=>by rw [of_decide_eq_true h2];exact h1,fun h=>⟨v,h,decide_eq_true rfl⟩⟩
def Zb2 (l:List Int) (i:Nat):Bool:=Z6S (l.take i) (na l i)
def Z3q (n:Int) (l:List Int):Int:=bif !(l.all fun k=>inB k 0 (n-1)) then 1 else bif (List.range l.length).any (Zb2 l) then 5 else 0
def bit (n:Nat) (k:Int):Nat:=n|||2 ^ k.toNat
def msk (l:List Int):Nat:=l.foldl bit 0
theorem Zf5 (n:Nat) (k:Int) (j:Nat):(bit n k).testBit j=(n.testBit j||decide (k.toNat=j)):=by
 unfold bit;rw [Nat.testBit_or,Nat.testBit_two_pow]
theorem Zg0 (l:List Int) (n j:Nat):(l.foldl bit n).testBit j=(n.testBit j||l.any fun k=>decide (k.toNat=j)):=by
 induction l generalizing n with
 | nil=>simp
 | cons k l ih=>rw [List.foldl_cons,ih,Zf5,List.any_cons,Bool.or_assoc]
theorem Zg3 (l:List Int) (j:Nat):(msk l).testBit j=l.any fun k=>decide (k.toNat=j):=by
 unfold msk;rw [Zg0];simp
theorem ZU {l:List Int} (h:∀ k∈l,0≤k) (j:Nat):(msk l).testBit j=true↔(j:Int)∈l:=by
 rw [Zg3,List.any_eq_true]
 constructor
 · rintro ⟨k,hk,e⟩
   have e:=of_decide_eq_true e
   have:=h k hk
   rwa [show (j:Int)=k by omega]
 · intro hj
   exact ⟨j,hj,by simp⟩
theorem Z0o {m n:Nat} (h:∀ k,m.testBit k=true→k<n):m<2 ^ n:=by
 refine Nat.lt_pow_two_of_testBit m fun i hi=>?_
 cases hb:m.testBit i with
 | false=>rfl
 | true=>have:=h i hb;omega
theorem Z2e {m n:Nat} (h:m<2 ^ n) {k:Nat} (hk:m.testBit k=true):k<n:=by
 rcases Nat.lt_or_ge k n with h1 | h1
 · exact h1
 · rw [Nat.testBit_lt_two_pow (Nat.lt_of_lt_of_le h (Nat.pow_le_pow_right (by decide) h1))] at hk;cases hk
theorem Z0K {m n:Nat} (h:∀ k,m.testBit k=n.testBit k):m=n:=Nat.eq_of_testBit_eq h
def gpo (m:Nat) (g:Gp):Nat:=(bif m.testBit g.a.toNat then 2 ^ g.b.toNat else 0)|||(bif m.testBit g.b.toNat then 2 ^ g.a.toNat else 0)
def Zeo (cl m:Nat):List Gp→Nat→Nat→Nat
 | [],_,acc=>acc
 | g::gs,i,acc=>Zeo cl m gs (i+1) (bif cl.testBit i then acc else acc|||gpo m g)
def spr (gs:List Gp) (cl m:Nat):Nat:=Zeo cl m gs 0 m
def Adj (gs:List Gp) (cl:Nat) (u v:Nat):Prop:=∃ i g,gs[i]?=some g∧cl.testBit i=false∧((g.a.toNat=u∧g.b.toNat=v)∨(g.b.toNat=u∧g.a.toNat=v))
theorem gpo_test {m:Nat} {g:Gp} {v:Nat}:(gpo m g).testBit v=true↔(m.testBit g.a.toNat=true∧g.b.toNat=v)∨(m.testBit g.b.toNat=true∧g.a.toNat=v):=by
 unfold gpo
 rw [Nat.testBit_or,Bool.or_eq_true]
 refine or_congr ?_ ?_
 · cases h:m.testBit g.a.toNat with
   | false=>simp
   | true=>simp [Nat.testBit_two_pow]
 · cases h:m.testBit g.b.toNat with
   | false=>simp
   | true=>simp [Nat.testBit_two_pow]
theorem Z3y {cl m v:Nat}:∀ (gs:List Gp) (i acc:Nat),(Zeo cl m gs i acc).testBit v=true↔acc.testBit v=true∨∃ j g,gs[j]?=some g∧cl.testBit (i+j)=false∧(gpo m g).testBit v=true
 | [],i,acc=>by simp [Zeo]
 | g::gs,i,acc=>by
   unfold Zeo
   rw [Z3y gs (i+1)]
   constructor
   · rintro (h | ⟨j,g',h1,h2,h3⟩)
     · cases hc:cl.testBit i with
       | true=>rw [hc] at h;exact .inl h
       | false =>
         rw [hc,cond_false,Nat.testBit_or,Bool.or_eq_true] at h
         exact h.imp id fun h=>⟨0,g,rfl,by simpa using hc,h⟩
     · exact .inr ⟨j+1,g',by simpa using h1,by rw [show i+(j+1)=i+1+j by omega];exact h2,h3⟩
   · rintro (h | ⟨j,g',h1,h2,h3⟩)
     · left
       cases hc:cl.testBit i with
       | true=>exact h
       | false=>rw [cond_false,Nat.testBit_or,h,Bool.true_or]
     · cases j with
       | zero =>
         left
         rw [List.getElem?_cons_zero,Option.some.injEq] at h1
         subst h1
         rw [Nat.add_zero] at h2
         rw [h2,cond_false,Nat.testBit_or,h3,Bool.or_true]
       | succ j=>exact .inr ⟨j,g',by simpa using h1,by rw [show i+1+j=i+(j+1) by omega];exact h2,h3⟩
theorem spr_test {gs:List Gp} {cl m v:Nat}:(spr gs cl m).testBit v=true↔m.testBit v=true∨∃ u,m.testBit u=true∧Adj gs cl u v:=by
 unfold spr
 rw [Z3y]
 refine or_congr Iff.rfl ?_
 constructor
 · rintro ⟨j,g,h1,h2,h3⟩
   rw [Nat.zero_add] at h2
   rcases gpo_test.1 h3 with ⟨h4,h5⟩ | ⟨h4,h5⟩
   · exact ⟨_,h4,j,g,h1,h2,.inl ⟨rfl,h5⟩⟩
   · exact ⟨_,h4,j,g,h1,h2,.inr ⟨rfl,h5⟩⟩
 · rintro ⟨u,hu,j,g,h1,h2,h3⟩
   refine ⟨j,g,h1,by rw [Nat.zero_add];exact h2,gpo_test.2 ?_⟩
   rcases h3 with ⟨h4,h5⟩ | ⟨h4,h5⟩
   · exact .inl ⟨by rw [h4];exact hu,h5⟩
   · exact .inr ⟨by rw [h4];exact hu,h5⟩
theorem Z1q {gs:List Gp} {cl m v:Nat} (h:m.testBit v=true):(spr gs cl m).testBit v=true:=spr_test.2 (.inl h)
theorem Adj.symm {gs:List Gp} {cl u v:Nat} (h:Adj gs cl u v):Adj gs cl v u:=by
 obtain ⟨i,g,h1,h2,h3⟩:=h
 exact ⟨i,g,h1,h2,h3.elim (fun h=>.inr ⟨h.2,h.1⟩) (fun h=>.inl ⟨h.2,h.1⟩)⟩
def lv (gs:List Gp) (cl m:Nat):Nat→Nat
 | 0=>m
 | t+1=>spr gs cl (lv gs cl m t)
theorem Zjc {gs:List Gp} {cl m:Nat}:∀ {t t':Nat},t≤t'→∀ {v:Nat},(lv gs cl m t).testBit v=true→(lv gs cl m t').testBit v=true
 | t, 0, h, v, hv => by obtain rfl : t = 0 := by omega
                        exact hv
 | t,t'+1,h,v,hv=>by
   rcases Nat.lt_or_ge t' t with h1 | h1
   · obtain rfl:t=t'+1:=by omega
     exact hv
   · exact Z1q (Zjc h1 hv)
theorem Z5l {gs:List Gp} {cl m t:Nat} (h:spr gs cl (lv gs cl m t)=lv gs cl m t):∀ j,lv gs cl m (t+j)=lv gs cl m t
 | 0=>rfl
 | j+1=>by show spr gs cl (lv gs cl m (t+j))=_;rw [Z5l h j,h]
def cnt (n m:Nat):Nat:=(List.range n).countP fun k=>m.testBit k
theorem Z7M (n m:Nat):cnt n m≤n:=by
 unfold cnt;exact Nat.le_trans (List.countP_le_length) (by simp)
theorem Z57 {α:Type} {p q:α→Bool}:∀ {l:List α},(∀ x∈l,p x=true→q x=true)→(∃ x∈l,q x=true∧p x=false)→l.countP p<l.countP q
 | [],_,h=>by obtain ⟨x,hx,_⟩:=h;cases hx
 | y::l,h,he=>by
   rw [List.countP_cons,List.countP_cons]
   have hm:l.countP p≤l.countP q:=List.countP_mono_left fun x hx=>h x (List.mem_cons_of_mem _ hx)
   obtain ⟨x,hx,hq,hp⟩:=he
   rcases List.mem_cons.1 hx with rfl | hx
   · rw [hp,hq];simp;omega
   · have ih:=Z57 (fun z hz=>h z (List.mem_cons_of_mem _ hz)) ⟨x,hx,hq,hp⟩
     have h1:=h y List.mem_cons_self
     cases hpy:p y with
     | true=>rw [h1 hpy];simp;omega
     | false=>cases q y<;>simp<;>omega
theorem ZmU {n m m':Nat} (h:∀ k<n,m.testBit k=true→m'.testBit k=true) {k:Nat} (hk:k<n) (h1:m'.testBit k=true) (h2:m.testBit k=false):cnt n m<cnt n m' :=
 Z57 (fun x hx=>h x (List.mem_range.1 hx)) ⟨k,List.mem_range.2 hk,h1,h2⟩
theorem ZfA {n m m':Nat} (h:∀ k<n,m.testBit k=true→m'.testBit k=true):cnt n m≤cnt n m':=List.countP_mono_left fun x hx=>h x (List.mem_range.1 hx)
def Wth (gs:List Gp) (n:Nat):Prop:=∀ g∈gs,g.a.toNat<n∧g.b.toNat<n
theorem Adj.lt {gs:List Gp} {n cl u v:Nat} (h:Wth gs n) (ha:Adj gs cl u v):u<n∧v<n:=by
 obtain ⟨i,g,h1,_,h3⟩:=ha
 have:=h g (List.mem_of_getElem? h1)
 omega
theorem Z6d {gs:List Gp} {n cl m:Nat} (h:Wth gs n) (hm:m<2 ^ n):spr gs cl m<2 ^ n:=Z0o fun k hk=>by
 rcases spr_test.1 hk with h1 | ⟨u,_,h2⟩
 · exact Z2e hm h1
 · exact (h2.lt h).2
theorem ZfX {gs:List Gp} {n cl m:Nat} (h:Wth gs n) (hm:m<2 ^ n):∀ t,lv gs cl m t<2 ^ n
 | 0=>hm
 | t+1=>Z6d h (ZfX h hm t)
theorem Z7i {gs:List Gp} {n cl m:Nat} (h:Wth gs n) (hm:m<2 ^ n) (hne:spr gs cl m≠m):cnt n m<cnt n (spr gs cl m):=by
 obtain ⟨k,h1,h2⟩:∃ k,(spr gs cl m).testBit k=true∧m.testBit k=false:=Classical.byContradiction fun hc=>hne (Z0K fun k=>by
   cases hk:m.testBit k with
   | true=>exact Z1q hk
   | false=>cases hs:(spr gs cl m).testBit k with
     | false=>rfl
     | true=>exact absurd ⟨k,hs,hk⟩ hc)
 exact ZmU (fun k _ hk=>Z1q hk) (Z2e (Z6d h hm) h1) h1 h2
theorem Znm {gs:List Gp} {n cl m:Nat} (h:Wth gs n) (hm:m<2 ^ n) (h0:m≠0) {t:Nat} (ht:n≤t+1):spr gs cl (lv gs cl m t)=lv gs cl m t:=by
 have key:∀ j,(∃ i≤j,spr gs cl (lv gs cl m i)=lv gs cl m i)∨j+1+1≤cnt n (lv gs cl m (j+1)):=by
   have c0:1≤cnt n m:=by
     obtain ⟨k,hk⟩:∃ k,m.testBit k=true:=Classical.byContradiction fun hc=>h0 (Z0K fun k=>by
       rw [Nat.zero_testBit]
       cases hk:m.testBit k with
       | false=>rfl
       | true=>exact absurd ⟨k,hk⟩ hc)
     unfold cnt
     exact List.countP_pos_iff.2 ⟨k,List.mem_range.2 (Z2e hm hk),hk⟩
   intro j
   induction j with
   | zero =>
     by_cases he:spr gs cl (lv gs cl m 0)=lv gs cl m 0
     · exact .inl ⟨0,Nat.le_refl _,he⟩
     · have:=Z7i h (ZfX h hm 0) he
       exact .inr (by show 2≤cnt n (spr gs cl (lv gs cl m 0));show 2≤_;have e:lv gs cl m 0=m:=rfl;rw [e] at this ⊢;omega)
   | succ j ih =>
     rcases ih with ⟨i,hi,he⟩ | ih
     · exact .inl ⟨i,by omega,he⟩
     · by_cases he:spr gs cl (lv gs cl m (j+1))=lv gs cl m (j+1)
       · exact .inl ⟨j+1,Nat.le_refl _,he⟩
       · have:=Z7i h (ZfX h hm (j+1)) he
         exact .inr (by show _≤cnt n (spr gs cl (lv gs cl m (j+1)));omega)
 rcases key t with ⟨i,hi,he⟩ | h1
 · obtain ⟨d,rfl⟩:∃ d,t=i+d:=⟨t-i,by omega⟩
   rw [Z5l he d,he]
 · have:=Z7M n (lv gs cl m (t+1));omega
theorem Z70 {gs:List Gp} {cl:Nat}:∀ t,lv gs cl 0 t=0
 | 0=>rfl
 | t+1=>by
   show spr gs cl (lv gs cl 0 t)=0
   rw [Z70 t]
   refine Z0K fun k=>?_
   rw [Nat.zero_testBit]
   cases hk:(spr gs cl 0).testBit k with
   | false=>rfl
   | true=>rcases spr_test.1 hk with h1 | ⟨u,h1,_⟩<;>simp at h1
theorem Zdx {gs:List Gp} {n cl m:Nat} (h:Wth gs n) (hm:m<2 ^ n) {t:Nat} (ht:n≤t+1) {j:Nat} (hj:t≤j):lv gs cl m j=lv gs cl m t:=by
 by_cases h0:m=0
 · subst h0;rw [Z70,Z70]
 · obtain ⟨d,rfl⟩:∃ d,j=t+d:=⟨j-t,by omega⟩
   exact Z5l (Znm h hm h0 ht) d
def far:Int:=1048576
def wk (gs:List Gp) (cl m k:Nat):Int:=match (List.range 7).find? fun t=>(lv gs cl m t).testBit k with
 | some t=>(t:Int)
 | none=>far
def wks (gs:List Gp) (cl m:Nat):List Int:=(List.range 7).map (wk gs cl m)
theorem ZeG (gs:List Gp) (cl m:Nat):(wks gs cl m).length=7:=by simp [wks]
theorem ZjP {gs:List Gp} {cl m k:Nat} (hk:k<7):na (wks gs cl m) k=wk gs cl m k:=by
 unfold na wks
 rw [List.getD_eq_getElem?_getD,List.getElem?_map,List.getElem?_range hk];rfl
theorem Z3H (gs:List Gp) (cl m k:Nat):(∃ t:Nat,t<7∧wk gs cl m k=t∧(lv gs cl m t).testBit k=true∧∀ i:Nat,i<t→(lv gs cl m i).testBit k=false)∨(wk gs cl m k=far∧∀ i:Nat,i<7→(lv gs cl m i).testBit k=false):=by
 unfold wk
 rcases hf:(List.range 7).find? fun t=>(lv gs cl m t).testBit k with _ | t
 · refine .inr ⟨rfl,fun i hi=>?_⟩
   have:=List.find?_eq_none.1 hf i (List.mem_range.2 hi)
   simpa using this
 · obtain ⟨h1,lp,lq,h2,h3⟩:=List.find?_eq_some_iff_append.1 hf
   have hm:t∈List.range 7:=by rw [h2];simp
   refine .inl ⟨t,List.mem_range.1 hm,rfl,h1,fun i hi=>?_⟩
   have hi7:i∈List.range 7:=List.mem_range.2 (by have:=List.mem_range.1 hm;omega)
   have hp:=List.pairwise_lt_range (n:=7)
   rw [h2] at hi7 hp
   rw [List.pairwise_append] at hp
   rcases List.mem_append.1 hi7 with h4 | h4
   · have:=h3 i h4;simpa using this
   · rcases List.mem_cons.1 h4 with rfl | h4
     · omega
     · have:=(List.pairwise_cons.1 hp.2.1).1 i h4;omega
theorem Zq3 (gs:List Gp) (cl m k:Nat):0≤wk gs cl m k∧wk gs cl m k≤far∧(wk gs cl m k<far→wk gs cl m k≤6):=by
 unfold far
 rcases Z3H gs cl m k with ⟨t,h1,h2,_⟩ | ⟨h1,_⟩
 · rw [h2];omega
 · rw [h1];unfold far;omega
theorem ZjN {gs:List Gp} {cl m k:Nat} (h:Wth gs 7) (hm:m<2 ^ 7) {t:Nat} (ht:(t:Int)<far):wk gs cl m k≤t↔(lv gs cl m t).testBit k=true:=by
 unfold far at ht
 rcases Z3H gs cl m k with ⟨i,h1,h2,h3,h4⟩ | ⟨h1,h2⟩
 · rw [h2]
   constructor
   · intro h5;exact Zjc (by omega) h3
   · intro h5
     rcases Nat.lt_or_ge t i with h6 | h6
     · rw [h4 t h6] at h5;cases h5
     · omega
 · rw [h1]
   unfold far
   constructor
   · intro h5;omega
   · intro h5
     rcases Nat.lt_or_ge t 7 with h6 | h6
     · rw [h2 t h6] at h5;cases h5
     · rw [Zdx h hm (t:=6) (by decide) (by omega),h2 6 (by decide)] at h5;cases h5
theorem ZeF {gs:List Gp} {cl m:Nat} {w:Nat→Int} (h1:∀ k<7,wk gs cl m k≤w k) (h2:∀ k<7,m.testBit k=true→w k≤0) (h3:∀ u v,u<7→v<7→Adj gs cl u v→w v≤w u+1) (h4:∀ k<7,w k≤far) (hw:Wth gs 7) (hm:m<2 ^ 7):∀ k<7,w k=wk gs cl m k:=by
 have key:∀ t:Nat,∀ k<7,(lv gs cl m t).testBit k=true→w k≤t:=by
   intro t
   induction t with
   | zero=>intro k hk h;exact h2 k hk h
   | succ t ih =>
     intro k hk h
     rcases spr_test.1 h with h5 | ⟨u,h5,h6⟩
     · have:=ih k hk h5;omega
     · have hu:=(h6.lt hw).1
       have:=ih u hu h5
       have:=h3 u k hu hk h6
       omega
 intro k hk
 have h5:=h1 k hk
 rcases Z3H gs cl m k with ⟨t,h6,h7,h8,_⟩ | ⟨h6,_⟩
 · have:=key t k hk h8;omega
 · have:=h4 k hk;omega
theorem ZjM {gs:List Gp} {cl m k:Nat} (h:m.testBit k=true):wk gs cl m k=0:=by
 rcases Z3H gs cl m k with ⟨t,h1,h2,_,h4⟩ | ⟨_,h2⟩
 · cases t with
   | zero=>exact h2
   | succ t=>have:=h4 0 (by omega);rw [show lv gs cl m 0=m from rfl,h] at this;cases this
 · have:=h2 0 (by decide);rw [show lv gs cl m 0=m from rfl,h] at this;cases this
theorem Hse.ok.wth {h:Hse} (hk:h.ok):Wth h.gaps 7:=fun g hg=>by
 have:=hk.gaps g hg
 have:=hk.bins
 omega
theorem lv_bit {gs:List Gp} {cl m v:Nat}:∀ {t:Nat},(lv gs cl m t).testBit v=true↔∃ u,m.testBit u=true∧(lv gs cl (2 ^ u) t).testBit v=true:=by
 intro t
 induction t generalizing v with
 | zero =>
   show m.testBit v=true↔∃ u,m.testBit u=true∧(2 ^ u).testBit v=true
   constructor
   · intro h;exact ⟨v,h,by rw [Nat.testBit_two_pow];simp⟩
   · rintro ⟨u,h1,h2⟩
     rw [Nat.testBit_two_pow] at h2
     obtain rfl:=of_decide_eq_true h2
     exact h1
 | succ t ih =>
   show (spr gs cl (lv gs cl m t)).testBit v=true↔∃ u,m.testBit u=true∧(spr gs cl (lv gs cl (2 ^ u) t)).testBit v=true
   constructor
   · intro h
     rcases spr_test.1 h with h1 | ⟨x,h1,h2⟩
     · obtain ⟨u,h3,h4⟩:=ih.1 h1
       exact ⟨u,h3,Z1q h4⟩
     · obtain ⟨u,h3,h4⟩:=ih.1 h1
       exact ⟨u,h3,spr_test.2 (.inr ⟨x,h4,h2⟩)⟩
   · rintro ⟨u,h1,h2⟩
     rcases spr_test.1 h2 with h3 | ⟨x,h3,h4⟩
     · exact Z1q (ih.2 ⟨u,h1,h3⟩)
     · exact spr_test.2 (.inr ⟨x,ih.2 ⟨u,h1,h3⟩,h4⟩)
theorem Zdy {gs:List Gp} {cl m m' t v:Nat} (h:∀ u,m.testBit u=true→m'.testBit u=true) (hv:(lv gs cl m t).testBit v=true):(lv gs cl m' t).testBit v=true:=by
 obtain ⟨u,h1,h2⟩:=lv_bit.1 hv
 exact lv_bit.2 ⟨u,h u h1,h2⟩
def exS (gs:List Gp) (m:Nat) (s:Sgt):Bool:=decide (wk gs 0 m s.bin.toNat≤s.week) == s.seen
def ZeQ (gs:List Gp) (m:Nat) (ss:List Sgt):Bool:=ss.all (exS gs m)
def ZfO (gs:List Gp) (ss:List Sgt) (k:Nat):Bool:=ss.all fun s=>s.seen||decide (s.week<wk gs 0 (2 ^ k) s.bin.toNat)
def ZmP (gs:List Gp) (ss:List Sgt) (but week:Int) (k:Nat):Bool:=!(decide (0≤but)&&decide (wk gs 0 (2 ^ k) but.toNat≤week))&&ZfO gs ss k
def Hse.clr (h:Hse) (ss:List Sgt) (but week:Int):List Int:=((List.range h.bins.toNat).filter (ZmP h.gaps ss but week)).map fun (k:Nat)=>(k:Int)
def Hse.agr (h:Hse) (ss:List Sgt):Bool:=ZeQ h.gaps (msk (h.clr ss (-1) 0)) ss
def SOk (h:Hse) (ss:List Sgt):Prop:=∀ s∈ss,(0≤s.week∧s.week≤9)∧0≤s.bin∧s.bin<h.bins
theorem Hse.ok.lt (h:Hse) (hk:h.ok):h.bins.toNat≤7∧(h.bins.toNat:Int)=h.bins∧1≤h.bins.toNat:=by have:=hk.bins;omega
theorem Z4l {l:List Int} {n:Nat} (h:∀ k∈l,0≤k∧k<n):msk l<2 ^ n:=Z0o fun k hk=>by
 have:=h _ ((ZU (fun k hk=>(h k hk).1) k).1 hk);omega
theorem ZpH {n m:Nat} (hn:n≤7) (h:m<2 ^ n):m<2 ^ 7:=Nat.lt_of_lt_of_le h (Nat.pow_le_pow_right (by decide) hn)
theorem ZhH {k n:Nat} (h:k<n):2 ^ k<2 ^ n:=Nat.pow_lt_pow_right (by decide) h
theorem ZiN {h:Hse} (hk:h.ok) {m:Nat} (hm:m<2 ^ 7) {s:Sgt} (hs:0≤s.week∧s.week≤9):exS h.gaps m s=true↔(lv h.gaps 0 m s.week.toNat).testBit s.bin.toNat=s.seen:=by
 unfold exS
 have h1:=ZjN (k:=s.bin.toNat) hk.wth hm (t:=s.week.toNat) (cl:=0) (by unfold far;omega)
 rw [show ((s.week.toNat:Nat):Int)=s.week by omega] at h1
 rw [beq_iff_eq]
 cases hb:(lv h.gaps 0 m s.week.toNat).testBit s.bin.toNat with
 | true=>rw [hb] at h1;rw [decide_eq_true (h1.2 rfl)]
 | false=>rw [hb] at h1;rw [decide_eq_false (fun e=>by cases h1.1 e)]
theorem Z6I {h:Hse} (hk:h.ok) {m:Nat} (hm:m<2 ^ 7) {ss:List Sgt} (hs:SOk h ss):ZeQ h.gaps m ss=true↔∀ s∈ss,(lv h.gaps 0 m s.week.toNat).testBit s.bin.toNat=s.seen:=by
 unfold ZeQ
 rw [List.all_eq_true]
 exact forall_congr' fun s=>forall_congr' fun h1=>ZiN hk hm (hs s h1).1
theorem Zab {h:Hse} (hk:h.ok) {k:Nat} (hk7:k<7) {ss:List Sgt} (hs:SOk h ss):ZfO h.gaps ss k=true↔∀ s∈ss,s.seen=false→(lv h.gaps 0 (2 ^ k) s.week.toNat).testBit s.bin.toNat=false:=by
 unfold ZfO
 rw [List.all_eq_true]
 refine forall_congr' fun s=>forall_congr' fun h1=>?_
 have h2:=ZjN (k:=s.bin.toNat) hk.wth (ZhH hk7) (t:=s.week.toNat) (cl:=0) (by have:=(hs s h1).1;unfold far;omega)
 rw [show ((s.week.toNat:Nat):Int)=s.week by have:=(hs s h1).1;omega] at h2
 cases hse:s.seen with
 | true=>simp
 | false =>
   rw [Bool.false_or,decide_eq_true_eq]
   cases hb:(lv h.gaps 0 (2 ^ k) s.week.toNat).testBit s.bin.toNat with
   | true=>rw [hb] at h2;have:=h2.2 rfl;simp;omega
   | false=>rw [hb] at h2;simp;rcases Int.lt_or_le s.week (wk h.gaps 0 (2 ^ k) s.bin.toNat) with h3 | h3;exact h3;exact absurd (h2.1 h3) (by simp)
theorem clr_mem {h:Hse} {ss:List Sgt} {but week:Int} {j:Int}:j∈h.clr ss but week↔∃ k:Nat,k<h.bins.toNat∧ZmP h.gaps ss but week k=true∧j=k:=by
 unfold Hse.clr
 simp only [List.mem_map,List.mem_filter,List.mem_range]
 constructor
 · rintro ⟨k,⟨h1,h2⟩,rfl⟩;exact ⟨k,h1,h2,rfl⟩
 · rintro ⟨k,h1,h2,rfl⟩;exact ⟨k,⟨h1,h2⟩,rfl⟩
theorem Zh7 {h:Hse} {ss:List Sgt} {but week:Int}:∀ j∈h.clr ss but week,0≤j∧j<h.bins.toNat:=fun j hj=>by
 obtain ⟨k,h1,_,rfl⟩:=clr_mem.1 hj;omega
theorem clr_bit {h:Hse} {ss:List Sgt} {but week:Int} {k:Nat}:(msk (h.clr ss but week)).testBit k=true↔k<h.bins.toNat∧ZmP h.gaps ss but week k=true:=by
 rw [ZU (fun j hj=>(Zh7 j hj).1),clr_mem]
 constructor
 · rintro ⟨j,h1,h2,e⟩;obtain rfl:k=j:=by omega
   exact ⟨h1,h2⟩
 · rintro ⟨h1,h2⟩;exact ⟨k,h1,h2,rfl⟩
theorem Zh6 {h:Hse} (hk:h.ok) {ss:List Sgt} {but week:Int}:msk (h.clr ss but week)<2 ^ h.bins.toNat:=Z4l Zh7
theorem ZbN {h:Hse} (hk:h.ok) {ss:List Sgt} {but week:Int} (hw:week≤9) {k:Nat} (hk7:k<7):ZmP h.gaps ss but week k=true↔(0≤but→0≤week→(lv h.gaps 0 (2 ^ k) week.toNat).testBit but.toNat=false)∧ZfO h.gaps ss k=true:=by
 unfold ZmP
 rw [Bool.and_eq_true]
 refine and_congr ?_ Iff.rfl
 rw [Bool.not_eq_true',Bool.and_eq_false_iff,decide_eq_false_iff_not,decide_eq_false_iff_not]
 rcases Int.lt_or_le week 0 with h0 | h0
 · have:=(Zq3 h.gaps 0 (2 ^ k) but.toNat).1
   constructor
   · intro _ _ h1;omega
   · intro _;right;omega
 · have h2:=ZjN (k:=but.toNat) hk.wth (ZhH hk7) (t:=week.toNat) (cl:=0) (by unfold far;omega)
   rw [show ((week.toNat:Nat):Int)=week by omega] at h2
   rw [h2]
   constructor
   · rintro (h3 | h3) h4 _
     · exact absurd h4 h3
     · simpa using h3
   · intro h3
     by_cases h4:0≤but
     · right;rw [h3 h4 h0];decide
     · exact .inl h4
theorem ZfI {h:Hse} (hk:h.ok) {ss:List Sgt} (hs:SOk h ss) {m:Nat} (hm:m<2 ^ h.bins.toNat) (he:ZeQ h.gaps m ss=true) {but week:Int} (hw:week≤9) (hb:0≤but→0≤week→(lv h.gaps 0 m week.toNat).testBit but.toNat=false):∀ k,m.testBit k=true→(msk (h.clr ss but week)).testBit k=true:=fun k hkm=>by
 have hn:=hk.lt
 have hk1:=Z2e hm hkm
 rw [clr_bit,ZbN hk hw (by omega),Zab hk (by omega) hs]
 rw [Z6I hk (ZpH hn.1 hm) hs] at he
 refine ⟨hk1,fun h1 h2=>?_,fun s h1 h2=>?_⟩
 · have:=hb h1 h2
   cases hc:(lv h.gaps 0 (2 ^ k) week.toNat).testBit but.toNat with
   | false=>rfl
   | true=>rw [lv_bit.2 ⟨k,hkm,hc⟩] at this;cases this
 · have:=he s h1
   rw [h2] at this
   cases hc:(lv h.gaps 0 (2 ^ k) s.week.toNat).testBit s.bin.toNat with
   | false=>rfl
   | true=>rw [lv_bit.2 ⟨k,hkm,hc⟩] at this;cases this
theorem Zfx {h:Hse} (hk:h.ok) {ss:List Sgt} (hs:SOk h ss) {m:Nat} (hm:m<2 ^ h.bins.toNat) (he:ZeQ h.gaps m ss=true) {but week:Int} (hw:week≤9) (hb:0≤but→0≤week→(lv h.gaps 0 m week.toNat).testBit but.toNat=false):ZeQ h.gaps (msk (h.clr ss but week)) ss=true:=by
 have hn:=hk.lt
 have hsub:=ZfI hk hs hm he hw hb
 have hc7:=ZpH hn.1 (Zh6 hk (ss:=ss) (but:=but) (week:=week))
 rw [Z6I hk (ZpH hn.1 hm) hs] at he
 rw [Z6I hk hc7 hs]
 intro s h1
 cases hse:s.seen with
 | true=>exact Zdy hsub (by rw [he s h1,hse])
 | false =>
   cases hc:(lv h.gaps 0 (msk (h.clr ss but week)) s.week.toNat).testBit s.bin.toNat with
   | false=>rfl
   | true =>
     obtain ⟨u,h2,h3⟩:=lv_bit.1 hc
     obtain ⟨h4,h5⟩:=clr_bit.1 h2
     rw [ZbN hk hw (by omega),Zab hk (by omega) hs] at h5
     rw [h5.2 s h1 hse] at h3;cases h3
theorem Z8z {h:Hse} (hk:h.ok) {ss:List Sgt} (hs:SOk h ss):h.agr ss=true↔∃ m,m<2 ^ h.bins.toNat∧ZeQ h.gaps m ss=true :=
 ⟨fun h1=>⟨_,Zh6 hk,h1⟩,fun ⟨_,h1,h2⟩=>Zfx hk hs h1 h2 (by decide) (fun h3=>absurd h3 (by decide))⟩
theorem and0_iff {a b:Nat}:a&&&b=0↔∀ i,(a.testBit i&&b.testBit i)=false:=by
 constructor
 · intro h i;rw [← Nat.testBit_and,h,Nat.zero_testBit]
 · intro h;exact Nat.eq_of_testBit_eq fun i=>by rw [Nat.testBit_and,h,Nat.zero_testBit]
theorem ZhW {a b:Nat} (ha:a%2=1) (hb:b%2=1):a&&&b≠0:=fun h=>by
 have:=Nat.and_mod_two_eq_one.2 ⟨ha,hb⟩;rw [h] at this;cases this
theorem Zf0 {a b:Nat} (h:¬ (a%2=1∧b%2=1)):a&&&b=0↔a / 2&&&b / 2=0:=by
 have h1:¬ (a&&&b)%2=1:=fun e=>h (Nat.and_mod_two_eq_one.1 e)
 rw [← Nat.and_div_two];omega
theorem Zgz:∀ (n:Nat) {a b:Nat},a≤n→a&&&b=0→a+b=a|||b
 | 0, a, b, hn, _ => by obtain rfl : a = 0 := by omega
                        simp
 | n+1,a,b,hn,h=>by
   have h0:¬ (a%2=1∧b%2=1):=fun e=>ZhW e.1 e.2 h
   by_cases ha:a=0
   · subst ha;simp
   have ih:=Zgz n (a:=a / 2) (b:=b / 2) (by omega) ((Zf0 h0).1 h)
   have h1:=Nat.or_div_two (a:=a) (b:=b)
   have h2:=Nat.or_mod_two_eq_one (a:=a) (b:=b)
   rcases Nat.mod_two_eq_zero_or_one a with ea | ea<;>rcases Nat.mod_two_eq_zero_or_one b with eb | eb
   · have:¬ (a|||b)%2=1:=fun e=>by rcases h2.1 e with e | e<;>omega
     omega
   · have:=h2.2 (.inr eb);omega
   · have:=h2.2 (.inl ea);omega
   · exact absurd ⟨ea,eb⟩ h0
theorem ZeV {a b:Nat} (h:a&&&b=0) (i:Nat):(a+b).testBit i=(a.testBit i||b.testBit i):=by rw [Zgz a (Nat.le_refl _) h,Nat.testBit_or]
theorem ZhN {a v:Nat} (h:a.testBit v=false) (i:Nat):(a+2 ^ v).testBit i=(a.testBit i||decide (v=i)):=by
 rw [ZeV (and0_iff.2 fun j=>?_),Nat.testBit_two_pow]
 rw [Nat.testBit_two_pow]
 by_cases e:v=j
 · subst e;rw [h];rfl
 · rw [decide_eq_false e,Bool.and_false]
theorem Zi8 {a n i:Nat} (h:a<2 ^ n) (hi:n≤i):a.testBit i=false:=Nat.testBit_lt_two_pow (Nat.lt_of_lt_of_le h (Nat.pow_le_pow_right (by decide) hi))
theorem ZbI (p:Nat→Bool):∀ n,∃ t,t<2 ^ n∧∀ j,t.testBit j=(decide (j<n)&&p j)
 | 0=>⟨0,by decide,fun j=>by simp⟩
 | n+1=>by
   obtain ⟨t,h1,h2⟩:=ZbI p n
   have hn:t.testBit n=false:=by rw [h2];simp
   cases hp:p n
   · refine ⟨t,by rw [Nat.pow_succ];omega,fun j=>?_⟩
     rw [h2]
     by_cases e:j=n
     · subst e;simp [hp]
     · rw [show decide (j<n+1)=decide (j<n) from decide_eq_decide.2 (by omega)]
   · refine ⟨t+2 ^ n,by rw [Nat.pow_succ];omega,fun j=>?_⟩
     rw [ZhN hn,h2]
     by_cases e:j=n
     · subst e;simp [hp]
     · rw [show decide (j<n+1)=decide (j<n) from decide_eq_decide.2 (by omega),decide_eq_false (show ¬ n=j by omega),Bool.or_false]
def Z3s (s:Nat):List Int:=((List.range 10).filter fun i=>s.testBit i).map fun (i:Nat)=>(i:Int)
def Zbs (s n:Nat):List Int:=((List.range n).filter fun i=>s.testBit i).map fun (i:Nat)=>(i:Int)
theorem Zjh {s n:Nat} (h:s / 2 ^ n%2=1):Zbs s (n+1)=Zbs s n++[(n:Int)]:=by
 have h1:s.testBit n=true:=by rw [Nat.testBit_eq_decide_div_mod_eq,decide_eq_true h]
 unfold Zbs
 rw [List.range_succ,List.filter_append,List.map_append,List.filter_cons,h1];rfl
theorem Zaq {s n:Nat} (h:s / 2 ^ n%2≠1):Zbs s (n+1)=Zbs s n:=by
 have h1:s.testBit n=false:=by rw [Nat.testBit_eq_decide_div_mod_eq,decide_eq_false h]
 unfold Zbs
 rw [List.range_succ,List.filter_append,List.map_append,List.filter_cons,h1];simp
theorem Zap {s n:Nat} (h:s<2 ^ n):∀ k,Zbs s (n+k)=Zbs s n
 | 0=>rfl
 | k+1=>by
   rw [← Zap h k]
   refine Zaq (n:=n+k) fun e=>?_
   rw [Nat.div_eq_of_lt (Nat.lt_of_lt_of_le h (Nat.pow_le_pow_right (by decide) (Nat.le_add_right _ _)))] at e;cases e
theorem ZfY (s n:Nat):(Zbs s n).length≤n:=by
 unfold Zbs
 rw [List.length_map]
 exact Nat.le_trans (List.length_filter_le _ _) (by simp)
theorem Zjf {s n:Nat} (h:s / 2 ^ n=0) (hn:n≤10):Zbs s n=Z3s s:=by
 have:=Zap (s:=s) (n:=n) (by
   rcases Nat.lt_or_ge s (2 ^ n) with h1 | h1
   · exact h1
   · have:=Nat.div_pos h1 (Nat.pow_pos (by decide));omega) (10-n)
 rw [← this,show n+(10-n)=10 by omega];rfl
theorem ZaH:∀ {a b:List Nat},a.Pairwise (· < ·)→b.Pairwise (· < ·)→(∀ x,x∈a↔x∈b)→a=b
 | [],[],_,_,_=>rfl
 | [],y::b,_,_,h=>by have:=(h y).2 (by simp);cases this
 | x::a,[],_,_,h=>by have:=(h x).1 (by simp);cases this
 | x::a,y::b,ha,hb,h=>by
   obtain ⟨h1,h2⟩:=List.pairwise_cons.1 ha
   obtain ⟨h3,h4⟩:=List.pairwise_cons.1 hb
   have hxy:x=y:=by
     rcases List.mem_cons.1 ((h x).1 (by simp)) with e | e
     · exact e
     · rcases List.mem_cons.1 ((h y).2 (by simp)) with e2 | e2
       · exact e2.symm
       · have:=h3 x e;have:=h1 y e2;omega
   subst hxy
   rw [ZaH h2 h4 fun z=>?_]
   constructor
   · intro hz
     rcases List.mem_cons.1 ((h z).1 (by simp [hz])) with e | e
     · subst e;exact absurd (h1 z hz) (Nat.lt_irrefl _)
     · exact e
   · intro hz
     rcases List.mem_cons.1 ((h z).2 (by simp [hz])) with e | e
     · subst e;exact absurd (h3 z hz) (Nat.lt_irrefl _)
     · exact e
theorem Zao (s:Nat):∃ y:List Nat,Z3s s=(y.map fun (j:Nat)=>(j:Int))∧y.Pairwise (· < ·)∧∀ j,j∈y↔j<10∧s.testBit j=true :=
 ⟨_,rfl,List.pairwise_lt_range.filter _,fun j=>by rw [List.mem_filter,List.mem_range]⟩
theorem Zjg {y:List Nat} {n:Nat} (h6:n≤10) (hp:y.Pairwise (· < ·)) (hn:∀ j∈y,j<n):∃ t,t<2 ^ n∧Z3s t=(y.map fun (j:Nat)=>(j:Int))∧(y≠[]→1≤t):=by
 obtain ⟨t,h1,h2⟩:=ZbI (fun i=>decide (i∈y)) n
 have hm:∀ j,(j<10∧t.testBit j=true)↔j∈y:=fun j=>by
   rw [h2,Bool.and_eq_true,decide_eq_true_eq,decide_eq_true_eq]
   exact ⟨fun h=>h.2.2,fun h=>⟨by have:=hn j h;omega,hn j h,h⟩⟩
 refine ⟨t,h1,?_,fun hy=>?_⟩
 · obtain ⟨z,e,h3,h4⟩:=Zao t
   rw [e,ZaH h3 hp fun j=>(h4 j).trans (hm j)]
 · obtain ⟨j,hj⟩:=List.exists_mem_of_ne_nil _ hy
   have:=((hm j).2 hj).2
   rcases Nat.eq_zero_or_pos t with e | e
   · rw [e,Nat.zero_testBit] at this;cases this
   · exact e
def Zaj:List Int→List Int→Bool
 | x::a,y::b=>bif decide (x≠y) then decide (x<y) else Zaj a b
 | _,_=>false
def ahB (a b:List Int):Bool:=bif decide (a.length≠b.length) then decide (a.length<b.length) else Zaj a b
theorem Z89:∀ {a b c:List Int},a.length=b.length→b.length=c.length→Zaj a b=true→Zaj c b=false→Zaj a c=true
 | [],_,_,_,_,h,_=>by unfold Zaj at h;cases h
 | _::_,[],_,h,_,_,_=>by cases h
 | _::_,_::_,[],_,h,_,_=>by cases h
 | x::a,y::b,z::c,h1,h2,h3,h4=>by
   unfold Zaj at h3 h4 ⊢
   by_cases e:z=y
   · subst e
     rw [decide_eq_false (by simp)] at h4
     by_cases e2:x=z
     · subst e2
       rw [decide_eq_false (by simp)] at h3 ⊢
       exact Z89 (by simpa using h1) (by simpa using h2) h3 h4
     · rw [decide_eq_true e2] at h3 ⊢;exact h3
   · rw [decide_eq_true e] at h4
     have h4:=of_decide_eq_false h4
     by_cases e2:x=y
     · subst e2
       rw [decide_eq_true (show x≠z from fun h=>e h.symm)]
       exact decide_eq_true (by omega)
     · rw [decide_eq_true e2] at h3
       have h3:=of_decide_eq_true h3
       rw [decide_eq_true (show x≠z by omega)]
       exact decide_eq_true (by omega)
theorem Zak:∀ {a b:List Int},Zaj a b=true→Zaj b a=false
 | [],_,h=>by unfold Zaj at h;cases h
 | _::_,[],h=>by unfold Zaj at h;cases h
 | x::a,y::b,h=>by
   unfold Zaj at h ⊢
   by_cases e:x=y
   · subst e
     rw [decide_eq_false (by simp)] at h ⊢
     exact Zak h
   · rw [decide_eq_true e] at h
     rw [decide_eq_true (show y≠x from fun h=>e h.symm)]
     have h:=of_decide_eq_true h
     exact decide_eq_false (by omega)
theorem ZhS {a b:List Int} (h:ahB a b=true):ahB b a=false:=by
 unfold ahB at h ⊢
 by_cases e:a.length=b.length
 · rw [decide_eq_false (by simpa using e)] at h
   rw [decide_eq_false (by simpa using e.symm)]
   exact Zak h
 · rw [decide_eq_true e] at h
   rw [decide_eq_true (show b.length≠a.length from fun h=>e h.symm)]
   have h:=of_decide_eq_true h
   exact decide_eq_false (by omega)
theorem ZeY {a b c:List Int} (h1:ahB a b=true) (h2:ahB c b=false):ahB a c=true:=by
 unfold ahB at h1 h2 ⊢
 by_cases e:c.length=b.length
 · rw [decide_eq_false (by simpa using e)] at h2
   by_cases e2:a.length=b.length
   · rw [decide_eq_false (by simpa using e2)] at h1
     rw [decide_eq_false (by simpa [e] using e2)]
     exact Z89 e2 e.symm h1 h2
   · rw [decide_eq_true e2] at h1
     rw [decide_eq_true (by rw [e];exact e2),e];exact h1
 · rw [decide_eq_true e] at h2
   have h2:=of_decide_eq_false h2
   by_cases e2:a.length=b.length
   · rw [decide_eq_true (by omega)];exact decide_eq_true (by omega)
   · rw [decide_eq_true e2] at h1
     have h1:=of_decide_eq_true h1
     rw [decide_eq_true (by omega)];exact decide_eq_true (by omega)
structure BestI (P:Nat→Bool) (k:Nat) (f:Bool) (b:List Int):Prop where
 no:f=false→(∀ t,1≤t→t<k→P t=true)∧b=[]
 yes:f=true→(∃ t,1≤t∧t<k∧P t=false∧b=Z3s t)∧∀ t,1≤t→t<k→P t=false→ahB (Z3s t) b=false
theorem BestI.start (P:Nat→Bool):BestI P 1 false []:=⟨fun _=>⟨fun t h1 h2=>by omega,rfl⟩,(fun h=>by cases h)⟩
theorem ZhT (a:List Int):ahB a a=false:=by
 unfold ahB
 rw [decide_eq_false (by simp)]
 show Zaj a a=false
 induction a with
 | nil=>rfl
 | cons x a ih=>unfold Zaj;rw [decide_eq_false (by simp)];exact ih
theorem BestI.take {P:Nat→Bool} {k:Nat} {f:Bool} {b:List Int} (h:BestI P k f b) (hk:1≤k) (h1:f=false∨ahB (Z3s k) b=true) (h2:P k=false):BestI P (k+1) true (Z3s k):=by
 refine ⟨(fun h=>by cases h),fun _=>⟨⟨k,hk,by omega,h2,rfl⟩,fun t t1 t2 t3=>?_⟩⟩
 by_cases e:t=k
 · subst e;exact ZhT _
 · cases hf:f with
   | false=>rw [(h.no hf).1 t t1 (by omega)] at t3;cases t3
   | true =>
     have h3:=(h.yes hf).2 t t1 (by omega) t3
     have h4:=h1.resolve_left (by rw [hf];simp)
     exact ZhS (ZeY h4 h3)
theorem BestI.skip {P:Nat→Bool} {k:Nat} {f:Bool} {b:List Int} (h:BestI P k f b) (h1:P k=true∨(f=true∧ahB (Z3s k) b=false)):BestI P (k+1) f b:=by
 refine ⟨fun hf=>⟨fun t t1 t2=>?_,(h.no hf).2⟩,fun hf=>⟨?_,fun t t1 t2 t3=>?_⟩⟩
 · by_cases e:t=k
   · subst e
     rcases h1 with h1 | h1
     · exact h1
     · rw [h1.1] at hf;cases hf
   · exact (h.no hf).1 t t1 (by omega)
 · obtain ⟨t,t1,t2,t3⟩:=(h.yes hf).1
   exact ⟨t,t1,by omega,t3⟩
 · by_cases e:t=k
   · subst e
     rcases h1 with h1 | h1
     · rw [h1] at t3;cases t3
     · exact h1.2
   · exact (h.yes hf).2 t t1 (by omega) t3
theorem memL_bit {t:Nat} {j:Int}:j∈Z3s t↔∃ k:Nat,k<10∧t.testBit k=true∧j=k:=by
 obtain ⟨y,e,_,h⟩:=Zao t
 rw [e,List.mem_map]
 constructor
 · rintro ⟨k,hk,rfl⟩;exact ⟨k,((h k).1 hk).1,((h k).1 hk).2,rfl⟩
 · rintro ⟨k,h1,h2,rfl⟩;exact ⟨k,(h k).2 ⟨h1,h2⟩,rfl⟩
theorem Zg1 {t:Nat} (ht:t<2 ^ 10):msk (Z3s t)=t:=Z0K fun k=>by
 rw [Bool.eq_iff_iff,ZU (fun j hj=>by obtain ⟨q,_,_,rfl⟩:=memL_bit.1 hj;omega),memL_bit]
 constructor
 · rintro ⟨q,_,h2,e⟩;obtain rfl:k=q:=by omega
   exact h2
 · intro h;exact ⟨k,Z2e ht h,h,rfl⟩
def chi (X v:Nat):Int:=bif X.testBit v then 1 else 0
def Z5O (F:Nat→Gp→Int):List Gp→Nat→Int
 | [],_=>0
 | g::gs,i=>F i g+Z5O F gs (i+1)
theorem Z4J (F G:Nat→Gp→Int):∀ (gs:List Gp) (i:Nat),Z5O (fun i g=>F i g+G i g) gs i=Z5O F gs i+Z5O G gs i
 | [],_=>rfl
 | g::gs,i=>by simp only [Z5O,Z4J F G gs (i+1)];omega
theorem Z43 {F G:Nat→Gp→Int}:∀ {gs:List Gp} {i:Nat},(∀ j g,gs[j]?=some g→F (i+j) g≤G (i+j) g)→Z5O F gs i≤Z5O G gs i
 | [],_,_=>Int.le_refl _
 | g::gs,i,h=>by
   have h0:=h 0 g rfl
   have h1:=Z43 (gs:=gs) (i:=i+1) (F:=F) (G:=G) fun j g' hj=>by
     have:=h (j+1) g' (by simpa using hj)
     rwa [show i+(j+1)=i+1+j by omega] at this
   simp only [Z5O]
   rw [Nat.add_zero] at h0
   omega
theorem Z42 {F G:Nat→Gp→Int} {gs:List Gp} {i:Nat} (h:∀ j g,gs[j]?=some g→F (i+j) g=G (i+j) g):Z5O F gs i=Z5O G gs i :=
 Int.le_antisymm (Z43 fun j g hj=>Int.le_of_eq (h j g hj)) (Z43 fun j g hj=>Int.le_of_eq (h j g hj).symm)
theorem Z2z (gs:List Gp) (i:Nat):Z5O (fun _ _=>0) gs i=0:=by
 induction gs generalizing i with
 | nil=>rfl
 | cons g gs ih=>simp only [Z5O,ih];rfl
def Z1k (f:Nat→Int) (X:Nat) (gs:List Gp):Int:=Z5O (fun i g=>f i*(chi X g.a.toNat-chi X g.b.toNat)) gs 0
theorem Zh4 {X v k:Nat} (h:X.testBit v=false):chi (X|||2 ^ v) k=chi X k+chi (2 ^ v) k:=by
 unfold chi
 rw [Nat.testBit_or,Nat.testBit_two_pow]
 by_cases e:v=k
 · subst e;rw [h];simp
 · rw [decide_eq_false e];cases X.testBit k<;>rfl
theorem ZiS {f:Nat→Int} {X v:Nat} {gs:List Gp} (h:X.testBit v=false):Z1k f (X|||2 ^ v) gs=Z1k f X gs+Z1k f (2 ^ v) gs:=by
 unfold Z1k
 rw [← Z4J]
 refine Z42 fun j g _=>?_
 rw [Zh4 h,Zh4 h,← Int.mul_add]
 congr 1
 omega
def Zom (f:Nat→Int) (S K:Nat) (gs:List Gp):Prop:=∀ v,v<7→S.testBit v=false→K.testBit v=false→Z1k f (2 ^ v) gs=0
theorem Z6K {f:Nat→Int} {S K X:Nat} {gs:List Gp} (hc:Zom f S K gs) (hX:X<2 ^ 7) (hS:∀ v,S.testBit v=true→X.testBit v=true) (hK:∀ v,K.testBit v=true→X.testBit v=false):Z1k f X gs=Z1k f S gs:=by
 have key:∀ n,n≤7→∃ Y,(∀ v,Y.testBit v=(S.testBit v||(decide (v<n)&&X.testBit v)))∧Z1k f Y gs=Z1k f S gs:=by
   intro n
   induction n with
   | zero=>intro _;exact ⟨S,fun v=>by simp,rfl⟩
   | succ n ih =>
     intro hn
     obtain ⟨Y,h1,h2⟩:=ih (by omega)
     by_cases hx:X.testBit n=true∧S.testBit n=false
     · refine ⟨Y|||2 ^ n,fun v=>?_,?_⟩
       · rw [Nat.testBit_or,h1,Nat.testBit_two_pow]
         by_cases e:n=v
         · subst e;rw [hx.1,hx.2];simp
         · rw [decide_eq_false e,show decide (v<n+1)=decide (v<n) from decide_eq_decide.2 (by omega),Bool.or_false]
       · have hy:Y.testBit n=false:=by rw [h1,hx.2];simp
         rw [ZiS hy,h2,hc n (by omega) hx.2 ?_]
         · omega
         · cases hk:K.testBit n with
           | false=>rfl
           | true=>rw [hK n hk] at hx;cases hx.1
     · refine ⟨Y,fun v=>?_,h2⟩
       rw [h1]
       by_cases e:v=n
       · subst e
         cases hs:S.testBit v with
         | true=>simp
         | false =>
           cases hv:X.testBit v with
           | true=>exact absurd ⟨hv,hs⟩ hx
           | false=>simp
       · rw [show decide (v<n+1)=decide (v<n) from decide_eq_decide.2 (by omega)]
 obtain ⟨Y,h1,h2⟩:=key 7 (Nat.le_refl _)
 have:Y=X:=Z0K fun v=>by
   rw [h1]
   cases hx:X.testBit v with
   | true=>rw [decide_eq_true (Z2e hX hx)];simp
   | false =>
     cases hs:S.testBit v with
     | true=>rw [hS v hs] at hx;cases hx
     | false=>simp
 rw [← this,h2]
def crs (X:Nat) (g:Gp):Bool:=X.testBit g.a.toNat != X.testBit g.b.toNat
def cutM (X:Nat) (gs:List Gp):List Int:=((List.range gs.length).filter fun i=>match gs[i]? with | some g=>crs X g | none=>false).map fun (i:Nat)=>(i:Int)
def ZiE (X:Nat) (gs:List Gp):Int:=Z5O (fun _ g=>bif crs X g then 1 else 0) gs 0
theorem Z6A (X:Nat):∀ gs:List Gp,ZiE X gs=(cutM X gs).length:=by
 intro gs
 have key:∀ (gs:List Gp),ZiE X gs=((gs.filter fun g=>crs X g).length:Int):=by
   intro gs
   unfold ZiE
   have:∀ i,Z5O (fun _ g=>bif crs X g then 1 else 0) gs i=((gs.filter fun g=>crs X g).length:Int):=by
     induction gs with
     | nil=>intro i;rfl
     | cons g gs ih =>
       intro i
       simp only [Z5O,ih (i+1),List.filter_cons]
       cases crs X g<;>simp<;>omega
   exact this 0
 rw [key]
 unfold cutM
 rw [List.length_map]
 congr 1
 have:∀ (gs:List Gp),(gs.filter fun g=>crs X g).length=((List.range gs.length).filter fun i=>match gs[i]? with | some g=>crs X g | none=>false).length:=by
   intro gs
   induction gs with
   | nil=>rfl
   | cons g gs ih =>
     rw [List.length_cons,List.range_succ_eq_map,List.filter_cons,List.filter_cons,List.filter_map]
     have e:((fun i=>match (g::gs)[i]? with | some g=>crs X g | none=>false) ∘ Nat.succ)=fun i=>match gs[i]? with | some g=>crs X g | none=>false:=by funext i;simp
     rw [e]
     simp only [List.getElem?_cons_zero]
     split<;>simp [ih]
 exact this gs
theorem ZcM {f:Nat→Int} {X:Nat} {gs:List Gp} (hf:∀ i,-1≤f i∧f i≤1):Z1k f X gs≤ZiE X gs:=by
 unfold Z1k ZiE
 refine Z43 fun j g _=>?_
 have:=hf (0+j)
 rw [Nat.zero_add] at this ⊢
 unfold crs chi
 cases X.testBit g.a.toNat<;>cases X.testBit g.b.toNat<;>simp<;>omega
theorem ZcL {f:Nat→Int} {X:Nat} {gs:List Gp} (hf:∀ i,-1≤f i∧f i≤1) (h:∀ i g,gs[i]?=some g→(X.testBit g.a.toNat=true→X.testBit g.b.toNat=false→1≤f i)∧(X.testBit g.b.toNat=true→X.testBit g.a.toNat=false→f i ≤ -1)):Z1k f X gs=ZiE X gs:=by
 unfold Z1k ZiE
 refine Z42 fun j g hj=>?_
 have h1:=h j g hj
 have:=hf j
 rw [Nat.zero_add]
 unfold crs chi
 cases ha:X.testBit g.a.toNat<;>cases hb:X.testBit g.b.toNat
 · simp
 · have:=h1.2 hb ha;simp;omega
 · have:=h1.1 ha hb;simp;omega
 · simp
def Shut (gs:List Gp) (cl S K:Nat):Prop:=∀ t v,(lv gs cl S t).testBit v=true→K.testBit v=false
theorem ZjC {f:Nat→Int} {S K C:Nat} {gs:List Gp} (hw:Wth gs 7) (hS:S<2 ^ 7) (hf:∀ i,-1≤f i∧f i≤1) (hc:Zom f S K gs) (hs:Shut gs C S K):Z1k f S gs≤((List.range gs.length).filter fun i=>C.testBit i).length:=by
 have hX:=ZfX hw hS (cl:=C) 7
 have h1:=Z6K hc hX (fun v hv=>Zjc (t:=0) (by decide) hv) (fun v hv=>by
   cases hx:(lv gs C S 7).testBit v with
   | false=>rfl
   | true=>rw [hs 7 v hx] at hv;cases hv)
 have h2:=ZcM (X:=lv gs C S 7) (gs:=gs) hf
 rw [h1,Z6A] at h2
 refine Int.le_trans h2 (Int.ofNat_le.2 ?_)
 unfold cutM
 rw [List.length_map]
 rw [← List.countP_eq_length_filter,← List.countP_eq_length_filter]
 refine List.countP_mono_left fun i _ hi=>?_
 cases hg:gs[i]? with
 | none=>rw [hg] at hi;cases hi
 | some g =>
   rw [hg] at hi
   cases hb:C.testBit i with
   | true=>rfl
   | false =>
     have hst:spr gs C (lv gs C S 7)=lv gs C S 7:=by
       have:=Zdx (gs:=gs) (n:=7) (cl:=C) (m:=S) hw hS (t:=7) (by decide) (j:=8) (by decide)
       exact this
     dsimp only at hi
     unfold crs at hi
     cases ha:(lv gs C S 7).testBit g.a.toNat<;>cases hbb:(lv gs C S 7).testBit g.b.toNat
     · rw [ha,hbb] at hi;cases hi
     · have:(spr gs C (lv gs C S 7)).testBit g.a.toNat=true:=spr_test.2 (.inr ⟨_,hbb,i,g,hg,hb,.inr ⟨rfl,rfl⟩⟩)
       rw [hst,ha] at this;cases this
     · have:(spr gs C (lv gs C S 7)).testBit g.b.toNat=true:=spr_test.2 (.inr ⟨_,ha,i,g,hg,hb,.inl ⟨rfl,rfl⟩⟩)
       rw [hst,hbb] at this;cases this
     · rw [ha,hbb] at hi;cases hi
theorem cutM_mem {X:Nat} {gs:List Gp} {j:Int}:j∈cutM X gs↔∃ (i:Nat) (g:Gp),gs[i]?=some g∧crs X g=true∧j=i:=by
 unfold cutM
 simp only [List.mem_map,List.mem_filter,List.mem_range]
 constructor
 · rintro ⟨i,⟨h1,h2⟩,rfl⟩
   cases hg:gs[i]? with
   | none=>rw [hg] at h2;cases h2
   | some g=>rw [hg] at h2;exact ⟨i,g,hg,h2,rfl⟩
 · rintro ⟨i,g,h1,h2,rfl⟩
   exact ⟨i,⟨(List.getElem?_eq_some_iff.1 h1).1,by rw [h1];exact h2⟩,rfl⟩
theorem ZfC {X S K:Nat} {gs:List Gp} (hS:∀ v,S.testBit v=true→X.testBit v=true) (hK:∀ v,K.testBit v=true→X.testBit v=false):Shut gs (msk (cutM X gs)) S K:=by
 have hin:∀ t v,(lv gs (msk (cutM X gs)) S t).testBit v=true→X.testBit v=true:=by
   intro t
   induction t with
   | zero=>exact hS
   | succ t ih =>
     intro v hv
     rcases spr_test.1 hv with h1 | ⟨u,h1,i,g,h2,h3,h4⟩
     · exact ih v h1
     · have hu:=ih u h1
       cases hx:X.testBit v with
       | true=>rfl
       | false =>
         have hc:crs X g=true:=by
           unfold crs
           rcases h4 with ⟨h5,h6⟩ | ⟨h5,h6⟩
           · rw [h5,h6,hu,hx];rfl
           · rw [h5,h6,hu,hx];rfl
         have:(msk (cutM X gs)).testBit i=true:=(ZU (fun j hj=>by obtain ⟨q,_,_,_,rfl⟩:=cutM_mem.1 hj;omega) i).2 (cutM_mem.2 ⟨i,g,h2,hc,rfl⟩)
         rw [this] at h3;cases h3
 intro t v hv
 cases hk:K.testBit v with
 | false=>rfl
 | true=>have:=hK v hk;rw [hin t v hv] at this;cases this
inductive Way (gs:List Gp) (op:Nat→Bool) (f:Nat→Int) (S K:Nat):Nat→List (Nat×Nat)→Nat→Prop where
 | nil (u:Nat):Way gs op f S K u [] u
 | cons {u v w i:Nat} {g:Gp} {l:List (Nat×Nat)} (hg:gs[i]?=some g) (ho:op i=true) (hk:K.testBit u=false) (hsv:S.testBit v=false) (hs:(g.a.toNat=u∧g.b.toNat=v∧f i<1)∨(g.b.toNat=u∧g.a.toNat=v ∧ -1<f i)) (h:Way gs op f S K v l w):Way gs op f S K u ((i,v)::l) w
def Zbw (gs:List Gp) (i v:Nat):Int:=match gs[i]? with
 | some g=>bif decide (g.b.toNat=v) then 1 else -1
 | none=>0
def Z4x (gs:List Gp) (f:Nat→Int) (l:List (Nat×Nat)):Nat→Int:=fun i=>f i+match l.find? fun x=>decide (x.1=i) with
 | some x=>Zbw gs x.1 x.2
 | none=>0
theorem ZaJ {F:Nat→Gp→Int}:∀ {gs:List Gp} {i k:Nat} {g:Gp},gs[k]?=some g→(∀ j g',gs[j]?=some g'→j≠k→F (i+j) g'=0)→Z5O F gs i=F (i+k) g
 | [],_,_,_,h,_=>by simp at h
 | x::gs,i,0,g,h,hz=>by
   rw [List.getElem?_cons_zero,Option.some.injEq] at h
   subst h
   have:Z5O F gs (i+1)=0:=by
     rw [Z42 (G:=fun _ _=>0) (fun j g' hj=>?_),Z2z]
     have:=hz (j+1) g' (by simpa using hj) (by omega)
     rwa [show i+(j+1)=i+1+j by omega] at this
   simp only [Z5O,this,Nat.add_zero];omega
 | x::gs,i,k+1,g,h,hz=>by
   have h0:=hz 0 x rfl (by omega)
   rw [Nat.add_zero] at h0
   have:=ZaJ (F:=F) (gs:=gs) (i:=i+1) (k:=k) (g:=g) (by simpa using h) fun j g' hj hne=>by
     have:=hz (j+1) g' (by simpa using hj) (by omega)
     rwa [show i+(j+1)=i+1+j by omega] at this
   simp only [Z5O,h0,this]
   rw [show i+1+k=i+(k+1) by omega];omega
theorem Z4P {gs:List Gp} {f:Nat→Int} {i v:Nat} {l:List (Nat×Nat)} (hn:∀ x∈l,x.1≠i) (j:Nat):Z4x gs f ((i,v)::l) j=Z4x gs f l j+(bif decide (j=i) then Zbw gs i v else 0):=by
 unfold Z4x
 rw [List.find?_cons]
 by_cases e:i=j
 · subst e
   have:l.find? (fun x=>decide (x.1=i))=none:=List.find?_eq_none.2 fun x hx=>by simpa using hn x hx
   rw [this];simp
 · rw [decide_eq_false (show ¬ j=i from fun h=>e h.symm)]
   simp [e]
theorem Z4L {gs:List Gp} {op:Nat→Bool} {f f0:Nat→Int} {S K:Nat} (X:Nat):∀ {l:List (Nat×Nat)} {u w:Nat},Way gs op f0 S K u l w→(l.map (·.1)).Nodup→(∀ (i:Nat) (g:Gp),gs[i]?=some g→g.a.toNat≠g.b.toNat)→Z1k (Z4x gs f l) X gs=Z1k f X gs+chi X u-chi X w
 | [],u,w,h,_,_=>by
   cases h
   have:Z4x gs f []=f:=by funext i;simp [Z4x]
   rw [this];omega
 | (i,v)::l,u,w,h,hn,hab=>by
   cases h with
   | cons hg ho hk hsv hs h =>
     rename_i g
     rw [List.map_cons,List.nodup_cons] at hn
     have hni:∀ x∈l,x.1≠i:=fun x hx e=>hn.1 (List.mem_map.2 ⟨x,hx,e⟩)
     have ih:=Z4L (f:=f) X h hn.2 hab
     have e:Z1k (Z4x gs f ((i,v)::l)) X gs=Z1k (Z4x gs f l) X gs+Z5O (fun j g=>(bif decide (j=i) then Zbw gs i v else 0)*(chi X g.a.toNat-chi X g.b.toNat)) gs 0:=by
       unfold Z1k
       rw [← Z4J]
       refine Z42 fun j g' _=>?_
       rw [Z4P hni,Int.add_mul]
     have e2:=ZaJ (F:=fun (j:Nat) (g:Gp)=>(bif decide (j=i) then Zbw gs i v else 0)*(chi X g.a.toNat-chi X g.b.toNat)) (i:=0) hg fun j g' _ hne=>by
       rw [Nat.zero_add,decide_eq_false hne];simp
     rw [e,e2,ih]
     have hne:=hab i g hg
     rw [Nat.zero_add,decide_eq_true rfl,cond_true]
     unfold Zbw
     rw [hg]
     dsimp only
     rcases hs with ⟨h1,h2,_⟩ | ⟨h1,h2,_⟩
     · rw [decide_eq_true h2,cond_true,h1,h2];omega
     · rw [decide_eq_false (by omega),cond_false,h1,h2];omega
def Drc (f:Nat→Int) (S K:Nat) (gs:List Gp):Prop:=∀ (i:Nat) (g:Gp),gs[i]?=some g→(S.testBit g.a.toNat=true→0≤f i)∧(S.testBit g.b.toNat=true→f i≤0)∧(K.testBit g.a.toNat=true→f i≤0)∧(K.testBit g.b.toNat=true→0≤f i)
structure WayK (gs:List Gp) (op:Nat→Bool) (f:Nat→Int) (S K u:Nat) (l:List (Nat×Nat)) (w:Nat):Prop where
 way:Way gs op f S K u l w
 nd:(l.map (·.1)).Nodup
 from_:S.testBit u=true
 to:K.testBit w=true
theorem Way.mem {gs:List Gp} {op:Nat→Bool} {f:Nat→Int} {S K:Nat}:∀ {l:List (Nat×Nat)} {u w:Nat},Way gs op f S K u l w→∀ x∈l,∃ (g:Gp) (y:Nat),gs[x.1]?=some g∧op x.1=true∧K.testBit y=false∧S.testBit x.2=false∧((g.a.toNat=y∧g.b.toNat=x.2∧f x.1<1)∨(g.b.toNat=y∧g.a.toNat=x.2 ∧ -1<f x.1))
 | [],_,_,_,x,hx=>by cases hx
 | (i,v)::l,u,w,h,x,hx=>by
   cases h with
   | cons hg ho hk hsv hs h =>
     rename_i g
     rcases List.mem_cons.1 hx with rfl | hx
     · exact ⟨g,u,hg,ho,hk,hsv,hs.imp (fun h=>⟨h.1,h.2.1,h.2.2⟩) (fun h=>⟨h.1,h.2.1,h.2.2⟩)⟩
     · exact Way.mem h x hx
theorem Z3M {gs:List Gp} {op:Nat→Bool} {f0 f:Nat→Int} {S K:Nat} {l:List (Nat×Nat)} {u w:Nat} (h:Way gs op f0 S K u l w) (hab:∀ (i:Nat) (g:Gp),gs[i]?=some g→g.a.toNat≠g.b.toNat) (i:Nat):Z4x gs f l i=f i∨∃ (g:Gp) (v y:Nat),(i,v)∈l∧gs[i]?=some g∧op i=true∧K.testBit y=false∧S.testBit v=false∧((g.a.toNat=y∧g.b.toNat=v∧f0 i<1∧Z4x gs f l i=f i+1)∨(g.b.toNat=y∧g.a.toNat=v ∧ -1<f0 i∧Z4x gs f l i=f i-1)):=by
 unfold Z4x
 cases hf:l.find? fun x=>decide (x.1=i) with
 | none=>left;simp
 | some x =>
   right
   have h1:=List.mem_of_find?_eq_some hf
   have h2:=List.find?_some hf
   obtain ⟨j,v⟩:=x
   have h2:j=i:=by simpa using h2
   subst h2
   obtain ⟨g,y,h3,h4,hk,hsv,h5⟩:=h.mem _ h1
   dsimp only at h3 h4 h5 hsv ⊢
   have hne:=hab _ g h3
   refine ⟨g,v,y,h1,h3,h4,hk,hsv,?_⟩
   unfold Zbw
   rw [h3]
   dsimp only
   rcases h5 with ⟨h7,h8,h9⟩ | ⟨h7,h8,h9⟩
   · left;rw [decide_eq_true h8];exact ⟨h7,h8,h9,rfl⟩
   · right;rw [decide_eq_false (by omega)];exact ⟨h7,h8,h9,rfl⟩
structure Flw (f:Nat→Int) (S K:Nat) (gs:List Gp):Prop where
 one:∀ i,-1≤f i∧f i≤1
 cons:Zom f S K gs
 drc:Drc f S K gs
theorem Flw.zero (S K:Nat) (gs:List Gp):Flw (fun _=>0) S K gs∧Z1k (fun _=>0) S gs=0:=by
 have h0:∀ X,Z1k (fun _=>0) X gs=0:=fun X=>by
   unfold Z1k
   rw [Z42 (G:=fun _ _=>0) (fun j g _=>by simp),Z2z]
 exact ⟨⟨fun _=>by omega,fun v _ _ _=>h0 _,fun i g _=>by simp⟩,h0 S⟩
theorem Z6w {v k:Nat}:chi (2 ^ v) k=bif decide (v=k) then 1 else 0:=by unfold chi;rw [Nat.testBit_two_pow]
theorem Zau {S K:Nat} (hd:∀ v,S.testBit v=true→K.testBit v=false) {w:Nat} (h:K.testBit w=true):S.testBit w=false:=by
 cases hs:S.testBit w with
 | false=>rfl
 | true=>have:=hd w hs;rw [h] at this;cases this
theorem Flw.more {f:Nat→Int} {S K:Nat} {gs:List Gp} (h:Flw f S K gs) (hd:∀ v,S.testBit v=true→K.testBit v=false) (hab:∀ (i:Nat) (g:Gp),gs[i]?=some g→g.a.toNat≠g.b.toNat) {op:Nat→Bool} {u w:Nat} {l:List (Nat×Nat)} (hw:WayK gs op f S K u l w):Flw (Z4x gs f l) S K gs∧Z1k (Z4x gs f l) S gs=Z1k f S gs+1:=by
 have hwS:=Zau hd hw.to
 refine ⟨⟨fun i=>?_,fun v hv h1 h2=>?_,fun i g hg=>?_⟩,?_⟩
 · have:=h.one i
   rcases Z3M (f:=f) hw.way hab i with e | ⟨g,v,y,_,_,_,_,_,⟨_,_,h3,e⟩ | ⟨_,_,h3,e⟩⟩<;>rw [e]<;>omega
 · rw [Z4L _ hw.way hw.nd hab,h.cons v hv h1 h2,Z6w,Z6w,decide_eq_false (fun e=>by rw [e,hw.from_] at h1;cases h1),decide_eq_false (fun e=>by rw [e,hw.to] at h2;cases h2)];rfl
 · have hd0:=h.drc i g hg
   rcases Z3M (f:=f) hw.way hab i with e | ⟨g',v,y,hm,hg',_,hyK,hvS,h5⟩
   · rw [e];exact hd0
   · rw [hg] at hg'
     obtain rfl:=Option.some.inj hg'
     rcases h5 with ⟨rfl,rfl,_,e⟩ | ⟨rfl,rfl,_,e⟩<;>rw [e,hyK,hvS]<;>rw [hyK,hvS] at hd0<;>simp only [Bool.false_eq_true,false_implies,true_and,and_true] at hd0 ⊢ <;> constructor<;>intro h8
     · have:=hd0.1 h8;omega
     · have:=hd0.2 h8;omega
     · have:=hd0.1 h8;omega
     · have:=hd0.2 h8;omega
 · rw [Z4L _ hw.way hw.nd hab]
   unfold chi
   rw [hw.from_,hwS];simp
def ZiG (f:Nat→Int) (l:List (Nat×Nat)):Nat→Int:=fun i=>bif l.any fun x=>decide (x.1=i) then 0 else f i
theorem ZiH {gs:List Gp} {f:Nat→Int} {S K:Nat} {l:List (Nat×Nat)} {u w:Nat} (h:Way gs (fun i=>decide (f i≠0)) (fun i => -f i) S K u l w) (hf:∀ i,-1≤f i∧f i≤1) (hab:∀ (i:Nat) (g:Gp),gs[i]?=some g→g.a.toNat≠g.b.toNat) (i:Nat) : -ZiG f l i=Z4x gs (fun i => -f i) l i:=by
 unfold ZiG
 rcases Z3M (f:=fun i => -f i) h hab i with e | ⟨g,v,y,hm,hg,ho,_,_,h5⟩
 · rw [e]
   cases ha:l.any fun x=>decide (x.1=i) with
   | false=>rfl
   | true =>
     obtain ⟨x,hx,hxi⟩:=List.any_eq_true.1 ha
     have hxi:=of_decide_eq_true hxi
     obtain ⟨j,v⟩:=x
     dsimp only at hxi
     subst hxi
     obtain ⟨g,y,h3,h4,_,_,h5⟩:=h.mem _ hx
     dsimp only at h3 h4 h5
     have h4:=of_decide_eq_true h4
     have hfi:=hf j
     exfalso
     unfold Z4x at e
     cases hfd:l.find? fun x=>decide (x.1=j) with
     | none =>
       have:=List.find?_eq_none.1 hfd _ hx
       simp at this
     | some z =>
       rw [hfd] at e
       have h1:=List.mem_of_find?_eq_some hfd
       have h2:=List.find?_some hfd
       obtain ⟨j2,v2⟩:=z
       have h2:j2=j:=by simpa using h2
       subst h2
       unfold Zbw at e
       dsimp only at e
       rw [h3] at e
       dsimp only at e
       cases hb:decide (g.b.toNat=v2)<;>rw [hb] at e<;>simp at e<;>omega
 · have ha:(l.any fun x=>decide (x.1=i))=true:=List.any_eq_true.2 ⟨_,hm,by simp⟩
   have ho:=of_decide_eq_true ho
   have:=hf i
   rw [ha,cond_true]
   rcases h5 with ⟨_,_,h6,e⟩ | ⟨_,_,h6,e⟩<;>rw [e]<;>omega
theorem Za6 {f f':Nat→Int} (X:Nat) {gs:List Gp} (h:∀ i,-f i=f' i):Z1k f' X gs = -Z1k f X gs:=by
 have h0:Z1k f' X gs+Z1k f X gs=0:=by
   unfold Z1k
   rw [← Z4J,Z42 (G:=fun _ _=>0) (fun j g _=>by rw [← h,← Int.add_mul,Int.add_left_neg,Int.zero_mul]),Z2z]
 omega
theorem Flw.less {f:Nat→Int} {S K:Nat} {gs:List Gp} (h:Flw f S K gs) (hd:∀ v,S.testBit v=true→K.testBit v=false) (hab:∀ (i:Nat) (g:Gp),gs[i]?=some g→g.a.toNat≠g.b.toNat) {u w:Nat} {l:List (Nat×Nat)} (hw:WayK gs (fun i=>decide (f i≠0)) (fun i => -f i) S K u l w):Flw (ZiG f l) S K gs∧Z1k (ZiG f l) S gs=Z1k f S gs-1:=by
 have hwS:=Zau hd hw.to
 have e:∀ X,Z1k (ZiG f l) X gs=Z1k f X gs-chi X u+chi X w:=fun X=>by
   have h1:=Za6 X (gs:=gs) (ZiH hw.way h.one hab)
   have h2:=Za6 X (gs:=gs) (f:=f) (f':=fun i => -f i) fun _=>rfl
   rw [Z4L X hw.way hw.nd hab] at h1
   omega
 refine ⟨⟨fun i=>?_,fun v hv h1 h2=>?_,fun i g hg=>?_⟩,?_⟩
 · have:=h.one i
   unfold ZiG
   cases l.any fun x=>decide (x.1=i)<;>simp<;>omega
 · rw [e,h.cons v hv h1 h2,Z6w,Z6w,decide_eq_false (fun e=>by rw [e,hw.from_] at h1;cases h1),decide_eq_false (fun e=>by rw [e,hw.to] at h2;cases h2)];rfl
 · have hd0:=h.drc i g hg
   unfold ZiG
   cases l.any fun x=>decide (x.1=i) with
   | true=>simp
   | false=>exact hd0
 · rw [e]
   unfold chi
   rw [hw.from_,hwS];simp
theorem ZiR {f:Nat→Int} {S K:Nat} {gs:List Gp} (h:Drc f S K gs):0≤Z1k f S gs:=by
 unfold Z1k
 rw [← Z2z gs 0]
 refine Z43 fun j g hj=>?_
 have:=h j g hj
 rw [Nat.zero_add]
 unfold chi
 cases ha:S.testBit g.a.toNat<;>cases hb:S.testBit g.b.toNat<;>simp
 · have:=this.2.1 hb;omega
 · have:=this.1 ha;omega
theorem ZcN {f:Nat→Int} {X:Nat} {gs:List Gp} (h:∀ (i:Nat) (g:Gp),gs[i]?=some g→(X.testBit g.a.toNat=true→X.testBit g.b.toNat=false→f i≤0)∧(X.testBit g.b.toNat=true→X.testBit g.a.toNat=false→0≤f i)):Z1k f X gs≤0:=by
 unfold Z1k
 rw [← Z2z gs 0]
 refine Z43 fun j g hj=>?_
 have:=h j g hj
 rw [Nat.zero_add]
 unfold chi
 cases ha:X.testBit g.a.toNat<;>cases hb:X.testBit g.b.toNat<;>simp
 · have:=this.2 hb ha;omega
 · have:=this.1 ha hb;omega
theorem and_zero {a b:Nat}:a&&&b=0↔∀ i,a.testBit i=true→b.testBit i=false:=by
 rw [and0_iff]
 constructor
 · intro h i hi;have:=h i;rw [hi] at this;simpa using this
 · intro h i
   cases hi:a.testBit i with
   | false=>rfl
   | true=>rw [h i hi];rfl
inductive Pl (gs:List Gp) (K sp:Nat):Nat→Nat→Nat→Prop where
 | stay {m c l:Nat} (hl:l<2 ^ gs.length) (hc:l&&&c=0) (hs:cnt gs.length l≤sp) (he:spr gs (c|||l) m=m) (hk:m&&&K=0):Pl gs K sp m c (cnt gs.length l)
 | go {m c l n:Nat} (hl:l<2 ^ gs.length) (hc:l&&&c=0) (hs:cnt gs.length l≤sp) (hne:spr gs (c|||l) m≠m) (hk:spr gs (c|||l) m&&&K=0) (h:Pl gs K sp (spr gs (c|||l) m) (c|||l) n):Pl gs K sp m c (cnt gs.length l+n)
def Lst (P:Nat→Prop) (n:Nat):Prop:=P n∧∀ k,P k→n≤k
theorem Lst.unique {P:Nat→Prop} {m n:Nat} (h:Lst P m) (k:Lst P n):m=n:=Nat.le_antisymm (h.2 _ k.1) (k.2 _ h.1)
def Ins (gs:List Gp) (m c c':Nat):Prop:=∀ (i:Nat) (g:Gp),gs[i]?=some g→c.testBit i≠c'.testBit i→m.testBit g.a.toNat=true∧m.testBit g.b.toNat=true
theorem Ins.spr {gs:List Gp} {m c c':Nat} (h:Ins gs m c c'):spr gs c m=spr gs c' m:=by
 have key:∀ {c c':Nat},Ins gs m c c'→∀ v,(Go.Proofs.YtcfdanhklbklkaaGreat.Wv.spr gs c m).testBit v=true→(Go.Proofs.YtcfdanhklbklkaaGreat.Wv.spr gs c' m).testBit v=true:=by
   intro c c' h v hv
   rcases spr_test.1 hv with h1 | ⟨u,h1,i,g,h2,h3,h4⟩
   · exact Z1q h1
   · by_cases e:c.testBit i=c'.testBit i
     · exact spr_test.2 (.inr ⟨u,h1,i,g,h2,by rw [← e];exact h3,h4⟩)
     · obtain ⟨h5,h6⟩:=h i g h2 e
       refine Z1q ?_
       rcases h4 with ⟨_,rfl⟩ | ⟨_,rfl⟩
       · exact h6
       · exact h5
 refine Z0K fun v=>?_
 rw [Bool.eq_iff_iff]
 exact ⟨key h v,key (fun i g h1 h2=>h i g h1 (Ne.symm h2)) v⟩
theorem Ins.mono {gs:List Gp} {m m' c c':Nat} (h:Ins gs m c c') (hm:∀ v,m.testBit v=true→m'.testBit v=true):Ins gs m' c c':=fun i g h1 h2=>⟨hm _ (h i g h1 h2).1,hm _ (h i g h1 h2).2⟩
theorem Ins.or {gs:List Gp} {m c c' l:Nat} (h:Ins gs m c c'):Ins gs m (c|||l) (c'|||l):=fun i g h1 h2=>h i g h1 fun e=>h2 (by rw [Nat.testBit_or,Nat.testBit_or,e])
theorem ZiD {n l l':Nat} (h:∀ i,l'.testBit i=true→l.testBit i=true):cnt n l'≤cnt n l:=ZfA fun k _=>h k
theorem Pl.ins {gs:List Gp} {K sp m c n:Nat} (h:Pl gs K sp m c n):∀ {c':Nat},Ins gs m c c'→(∀ i,c'.testBit i=true→c.testBit i=true)→Pl gs K sp m c' n:=by
 induction h with
 | @stay m c l hl hc hs he hk =>
   intro c' hi hsub
   refine .stay hl (and_zero.2 fun i hi2=>?_) hs (by rw [← hi.or.spr];exact he) hk
   cases hb:c'.testBit i with
   | false=>rfl
   | true=>have:=and_zero.1 hc i hi2;rw [hsub i hb] at this;cases this
 | @go m c l n hl hc hs hne hk h ih =>
   intro c' hi hsub
   have e:=hi.or (l:=l) |>.spr
   refine .go hl (and_zero.2 fun i hi2=>?_) hs (by rw [← e];exact hne) (by rw [← e];exact hk) ?_
   · cases hb:c'.testBit i with
     | false=>rfl
     | true=>have:=and_zero.1 hc i hi2;rw [hsub i hb] at this;cases this
   · rw [← e]
     refine ih (hi.or.mono fun v hv=>Z1q hv) fun i h1=>?_
     rw [Nat.testBit_or,Bool.or_eq_true] at h1 ⊢
     exact h1.imp_left (hsub i)
def usf (gs:List Gp) (m c:Nat):Nat→Bool:=fun i=>match gs[i]? with
 | some g=>!c.testBit i&&!(m.testBit g.a.toNat&&m.testBit g.b.toNat)
 | none=>false
def msF (p:Nat→Bool):Nat→Nat
 | 0=>0
 | n+1=>msF p n|||(bif p n then 2 ^ n else 0)
theorem Z72 (p:Nat→Bool) (j:Nat):∀ n,(msF p n).testBit j=(decide (j<n)&&p j)
 | 0=>by simp [msF]
 | n+1=>by
   unfold msF
   rw [Nat.testBit_or,Z72 p j n]
   by_cases e:j=n
   · subst e
     cases p j<;>simp
   · rw [show decide (j<n+1)=decide (j<n) from decide_eq_decide.2 (by omega)]
     cases p n with
     | false=>simp
     | true=>rw [cond_true,Nat.testBit_two_pow,decide_eq_false (show ¬ n=j by omega),Bool.or_false]
def Z0l (gs:List Gp) (m c:Nat):Nat:=msF (usf gs m c) gs.length
theorem usfM_test {gs:List Gp} {m c i:Nat}:(Z0l gs m c).testBit i=true↔∃ g,gs[i]?=some g∧c.testBit i=false∧¬ (m.testBit g.a.toNat=true∧m.testBit g.b.toNat=true):=by
 unfold Z0l
 rw [Z72,Bool.and_eq_true,decide_eq_true_eq]
 unfold usf
 constructor
 · rintro ⟨h1,h2⟩
   rw [List.getElem?_eq_getElem h1] at h2 ⊢
   dsimp only at h2
   rw [Bool.and_eq_true,Bool.not_eq_true',Bool.not_eq_true',Bool.and_eq_false_iff] at h2
   exact ⟨_,rfl,h2.1,fun h=>by rcases h2.2 with h3 | h3<;>simp_all⟩
 · rintro ⟨g,h1,h2,h3⟩
   refine ⟨(List.getElem?_eq_some_iff.1 h1).1,?_⟩
   rw [h1]
   dsimp only
   rw [h2]
   cases ha:m.testBit g.a.toNat<;>cases hb:m.testBit g.b.toNat<;>simp_all
theorem Pl.cons_inv {gs:List Gp} {K sp m c n:Nat} (h:Pl gs K sp m c n):∃ l,l<2 ^ gs.length∧l&&&c=0∧cnt gs.length l≤sp∧spr gs (c|||l) m&&&K=0∧((spr gs (c|||l) m=m∧n=cnt gs.length l)∨(spr gs (c|||l) m≠m∧∃ k,n=cnt gs.length l+k∧Pl gs K sp (spr gs (c|||l) m) (c|||l) k)):=by
 cases h with
 | @stay _ _ l hl hc hs he hk=>exact ⟨l,hl,hc,hs,by rw [he];exact hk,.inl ⟨he,rfl⟩⟩
 | @go _ _ l n hl hc hs hne hk h=>exact ⟨l,hl,hc,hs,hk,.inr ⟨hne,n,rfl,h⟩⟩
theorem Pl.of {gs:List Gp} {K sp m c l n k:Nat} (hl:l<2 ^ gs.length) (hc:l&&&c=0) (hs:cnt gs.length l≤sp) (hk:spr gs (c|||l) m&&&K=0) (h:(spr gs (c|||l) m=m∧n=cnt gs.length l)∨(spr gs (c|||l) m≠m∧n=cnt gs.length l+k∧Pl gs K sp (spr gs (c|||l) m) (c|||l) k)):Pl gs K sp m c n:=by
 rcases h with ⟨h1,rfl⟩ | ⟨h1,rfl,h2⟩
 · exact .stay hl hc hs h1 (by rw [h1] at hk;exact hk)
 · exact .go hl hc hs h1 hk h2
theorem Pl.first {gs:List Gp} {K sp m c n:Nat} (h:Pl gs K sp m c n):∃ l n',n'≤n∧l<2 ^ gs.length∧(∀ i,l.testBit i=true→(Z0l gs m c).testBit i=true)∧cnt gs.length l≤sp∧spr gs (c|||l) m&&&K=0∧((spr gs (c|||l) m=m∧n'=cnt gs.length l)∨(spr gs (c|||l) m≠m∧∃ k,n'=cnt gs.length l+k∧Pl gs K sp (spr gs (c|||l) m) (c|||l) k)):=by
 obtain ⟨l,hl,hc,hs,hk,h1⟩:=h.cons_inv
 have hsub:∀ i,(l&&&Z0l gs m c).testBit i=true→l.testBit i=true:=fun i hi=>by rw [Nat.testBit_and,Bool.and_eq_true] at hi;exact hi.1
 have hins:Ins gs m (c|||l) (c|||(l&&&Z0l gs m c)):=fun i g hg hne=>by
   rw [Nat.testBit_or,Nat.testBit_or,Nat.testBit_and] at hne
   cases hb:(Z0l gs m c).testBit i with
   | true=>rw [hb] at hne;simp at hne
   | false =>
     rw [hb] at hne
     have hli:l.testBit i=true:=by cases h2:l.testBit i with
       | true=>rfl
       | false=>rw [h2] at hne;simp at hne
     have hci:c.testBit i=false:=and_zero.1 hc i hli
     apply Classical.byContradiction
     intro hnb
     rw [usfM_test.2 ⟨g,hg,hci,hnb⟩] at hb;cases hb
 have e:=hins.spr
 have hcs:=ZiD (n:=gs.length) hsub
 refine ⟨l&&&Z0l gs m c,?_⟩
 rcases h1 with ⟨h2,rfl⟩ | ⟨h2,k,rfl,h3⟩
 · exact ⟨_,hcs,Nat.lt_of_le_of_lt Nat.and_le_left hl,fun i hi=>by rw [Nat.testBit_and,Bool.and_eq_true] at hi;exact hi.2,Nat.le_trans hcs hs,by rw [← e];exact hk,.inl ⟨by rw [← e];exact h2,rfl⟩⟩
 · refine ⟨cnt gs.length (l&&&Z0l gs m c)+k,by omega,Nat.lt_of_le_of_lt Nat.and_le_left hl,fun i hi=>by rw [Nat.testBit_and,Bool.and_eq_true] at hi;exact hi.2,Nat.le_trans hcs hs,by rw [← e];exact hk,.inr ⟨by rw [← e];exact h2,k,rfl,?_⟩⟩
   rw [← e]
   refine h3.ins (hins.mono fun v hv=>Z1q hv) fun i hi=>?_
   rw [Nat.testBit_or,Bool.or_eq_true] at hi ⊢
   exact hi.imp_right (hsub i)
def Stp (gs:List Gp) (op:Nat→Bool) (f:Nat→Int) (u i v:Nat):Prop:=∃ g,gs[i]?=some g∧op i=true∧((g.a.toNat=u∧g.b.toNat=v∧f i<1)∨(g.b.toNat=u∧g.a.toNat=v ∧ -1<f i))
structure Srch (gs:List Gp) (op:Nat→Bool) (f:Nat→Int) (S K:Nat) (V:List (Nat×Int)):Prop where
 nd:(V.map (·.1)).Nodup
 lt:∀ x∈V,x.1<7
 from_:∀ u,S.testBit u=true→(u,-1)∈V
 par:∀ q x,V[q]?=some x→(x.2=(-1:Int)∧S.testBit x.1=true)∨(S.testBit x.1=false∧∃ (i p:Nat) (y:Nat×Int),x.2=(i:Int)∧p<q∧V[p]?=some y∧K.testBit y.1=false∧Stp gs op f y.1 i x.1)
theorem Srch.few {gs:List Gp} {op:Nat→Bool} {f:Nat→Int} {S K:Nat} {V:List (Nat×Int)} (h:Srch gs op f S K V):V.length≤7:=by
 have h2:=h.nd.length_le_of_subset (l₂:=List.range 7) fun v hv=>by
   obtain ⟨x,hx,rfl⟩:=List.mem_map.1 hv
   exact List.mem_range.2 (h.lt x hx)
 simpa using h2
theorem Srch.start {gs:List Gp} {op:Nat→Bool} {f:Nat→Int} {S K:Nat} {l:List Nat} (hn:l.Nodup) (hl:∀ u∈l,u<7) (hS:∀ u,S.testBit u=true↔u∈l):Srch gs op f S K (l.map fun u=>(u,-1)):=by
 refine ⟨by rw [List.map_map];simpa [Function.comp_def] using hn,fun x hx=>?_,fun u hu=>List.mem_map.2 ⟨u,(hS u).1 hu,rfl⟩,fun q x hx=>?_⟩
 · obtain ⟨u,hu,rfl⟩:=List.mem_map.1 hx;exact hl u hu
 · obtain ⟨u,hu,rfl⟩:=List.mem_map.1 (List.mem_of_getElem? hx)
   exact .inl ⟨rfl,(hS u).2 hu⟩
theorem Srch.more {gs:List Gp} {op:Nat→Bool} {f:Nat→Int} {S K:Nat} {V:List (Nat×Int)} (h:Srch gs op f S K V) {j i v:Nat} {y:Nat×Int} (hj:V[j]?=some y) (hy:K.testBit y.1=false) (hs:Stp gs op f y.1 i v) (hv:v<7) (hn:v∉V.map (·.1)):Srch gs op f S K (V++[(v,(i:Int))]):=by
 have hjl:=(List.getElem?_eq_some_iff.1 hj).1
 refine ⟨?_,fun x hx=>?_,fun u hu=>List.mem_append_left _ (h.from_ u hu),fun q x hx=>?_⟩
 · rw [List.map_append]
   exact List.nodup_append.2 ⟨h.nd,by simp,fun a ha b hb=>by
     obtain rfl:b=v:=by simpa using hb
     intro e;exact hn (e▸ha)⟩
 · rcases List.mem_append.1 hx with h1 | h1
   · exact h.lt x h1
   · rw [List.mem_singleton.1 h1];exact hv
 · rcases Nat.lt_or_ge q V.length with h1 | h1
   · rw [List.getElem?_append_left h1] at hx
     rcases h.par q x hx with h2 | ⟨h2,i',p,z,h3,h4,h5,h6,h7⟩
     · exact .inl h2
     · exact .inr ⟨h2,i',p,z,h3,h4,by rw [List.getElem?_append_left (by omega)];exact h5,h6,h7⟩
   · rw [List.getElem?_append_right h1] at hx
     have hq:q=V.length:=by
       rcases Nat.eq_zero_or_pos (q-V.length) with h2 | h2
       · omega
       · rw [List.getElem?_eq_none (by simp;omega)] at hx;cases hx
     subst hq
     simp only [Nat.sub_self,List.getElem?_cons_zero,Option.some.injEq] at hx
     subst hx
     refine .inr ⟨?_,i,j,y,rfl,hjl,by rw [List.getElem?_append_left hjl];exact hj,hy,hs⟩
     cases hS:S.testBit v with
     | false=>rfl
     | true=>exact absurd (List.mem_map.2 ⟨_,h.from_ v hS,rfl⟩) hn
structure Back (gs:List Gp) (op:Nat→Bool) (f:Nat→Int) (S K:Nat) (V:List (Nat×Int)) (w q u:Nat) (l:List (Nat×Nat)):Prop where
 at_:∃ z,V[q]?=some (u,z)
 way:Way gs op f S K u l w
 nd:(l.map (·.1)).Nodup
 pos:∀ x∈l,∃ q',q<q'∧V[q']?=some (x.2,(x.1:Int))
theorem Back.start {gs:List Gp} {op:Nat→Bool} {f:Nat→Int} {S K:Nat} {V:List (Nat×Int)} {w q:Nat} {z:Int} (h:V[q]?=some (w,z)):Back gs op f S K V w q w []:=⟨⟨z,h⟩,.nil w,by simp,by simp⟩
theorem Zaz {V:List (Nat×Int)} (hn:(V.map (·.1)).Nodup) {q q' v:Nat} {z z':Int} (h:V[q]?=some (v,z)) (h':V[q']?=some (v,z')):q=q':=by
 have h1:(V.map (·.1))[q]?=some v:=by rw [List.getElem?_map,h];rfl
 have h2:(V.map (·.1))[q']?=some v:=by rw [List.getElem?_map,h'];rfl
 obtain ⟨k1,e1⟩:=List.getElem?_eq_some_iff.1 h1
 obtain ⟨k2,e2⟩:=List.getElem?_eq_some_iff.1 h2
 exact (List.getElem_inj hn).1 (e1.trans e2.symm)
theorem Back.more {gs:List Gp} {op:Nat→Bool} {f:Nat→Int} {S K:Nat} {V:List (Nat×Int)} (hs:Srch gs op f S K V) (hab:∀ (i:Nat) (g:Gp),gs[i]?=some g→g.a.toNat≠g.b.toNat) {w q u:Nat} {z:Int} {l:List (Nat×Nat)} (h:Back gs op f S K V w q u l) (hz:V[q]?=some (u,z)) (hne:z ≠ -1):∃ (i p y:Nat) (g:Gp),z=i∧p<q∧gs[i]?=some g∧((g.a.toNat=y∧g.b.toNat=u)∨(g.b.toNat=y∧g.a.toNat=u))∧Back gs op f S K V w p y ((i,u)::l):=by
 rcases hs.par q _ hz with ⟨h1,_⟩ | ⟨h1,i,p,⟨y,zy⟩,h2,h3,h4,h5,g,h6,h7,h8⟩
 · exact absurd h1 hne
 · dsimp only at h1 h2 h5 h8
   refine ⟨i,p,y,g,h2,h3,h6,h8.imp (fun h=>⟨h.1,h.2.1⟩) (fun h=>⟨h.1,h.2.1⟩),⟨⟨zy,h4⟩,.cons h6 h7 h5 h1 h8 h.way,?_,fun x hx=>?_⟩⟩
   · rw [List.map_cons,List.nodup_cons]
     refine ⟨fun hm=>?_,h.nd⟩
     obtain ⟨x,hx,e⟩:=List.mem_map.1 hm
     obtain ⟨q',h9,h10⟩:=h.pos x hx
     rcases hs.par q' _ h10 with ⟨h11,_⟩ | ⟨_,i',p',⟨y',zy'⟩,h12,h13,h14,_,g',h15,_,h16⟩
     · dsimp only at h11;omega
     · dsimp only at h12 h16
       have hi:i'=i:=by omega
       subst hi
       rw [h6] at h15
       obtain rfl:=Option.some.inj h15
       have hne:=hab i' g h6
       have hvu:x.2≠u:=fun e2=>by
         have:=Zaz hs.nd hz (e2▸h10)
         omega
       have hvy:x.2=y:=by
         rcases h8 with ⟨k1,k2,_⟩ | ⟨k1,k2,_⟩<;>rcases h16 with ⟨k3,k4,_⟩ | ⟨k3,k4,_⟩<;>omega
       have:=Zaz hs.nd h4 (hvy▸h10)
       omega
   · rcases List.mem_cons.1 hx with rfl | hx
     · exact ⟨q,h3,by rw [hz,h2]⟩
     · obtain ⟨q',h9,h10⟩:=h.pos x hx
       exact ⟨q',by omega,h10⟩
theorem Back.stop {gs:List Gp} {op:Nat→Bool} {f:Nat→Int} {S K:Nat} {V:List (Nat×Int)} (hs:Srch gs op f S K V) {w q u:Nat} {l:List (Nat×Nat)} (h:Back gs op f S K V w q u l) (hz:V[q]?=some (u,-1)) (hw:K.testBit w=true):WayK gs op f S K u l w:=by
 rcases hs.par q _ hz with ⟨_,h1⟩ | ⟨_,i,p,y,h2,_⟩
 · exact ⟨h.way,h.nd,h1,hw⟩
 · dsimp only at h2;omega
def Z2T (V:List (Nat×Int)):Nat:=V.foldl (fun n x=>n|||2 ^ x.1) 0
theorem ZdC (V:List (Nat×Int)) (n v:Nat):(V.foldl (fun n x=>n|||2 ^ x.1) n).testBit v=(n.testBit v||decide (v∈V.map (·.1))):=by
 induction V generalizing n with
 | nil=>simp
 | cons x V ih =>
   rw [List.foldl_cons,ih,Nat.testBit_or,Nat.testBit_two_pow,List.map_cons,Bool.or_assoc]
   congr 1
   rw [Bool.eq_iff_iff]
   simp only [Bool.or_eq_true,decide_eq_true_eq,List.mem_cons]
   exact or_congr ⟨fun h=>h.symm,fun h=>h.symm⟩ Iff.rfl
theorem Z01 (V:List (Nat×Int)) (v:Nat):(Z2T V).testBit v=true↔v∈V.map (·.1):=by
 unfold Z2T;rw [ZdC];simp
theorem Srch.met_lt {gs:List Gp} {op:Nat→Bool} {f:Nat→Int} {S K:Nat} {V:List (Nat×Int)} (h:Srch gs op f S K V):Z2T V<2 ^ 7:=Z0o fun v hv=>by
 obtain ⟨x,hx,rfl⟩:=List.mem_map.1 ((Z01 V v).1 hv)
 exact h.lt x hx
structure Shn (gs:List Gp) (op:Nat→Bool) (f:Nat→Int) (S K:Nat) (V:List (Nat×Int)):Prop where
 s:Srch gs op f S K V
 no:∀ x∈V,K.testBit x.1=false
 cl:∀ u v i,u∈V.map (·.1)→Stp gs op f u i v→v∈V.map (·.1)
theorem Shn.sub {gs:List Gp} {op:Nat→Bool} {f:Nat→Int} {S K:Nat} {V:List (Nat×Int)} (h:Shn gs op f S K V):(∀ v,S.testBit v=true→(Z2T V).testBit v=true)∧∀ v,K.testBit v=true→(Z2T V).testBit v=false:=by
 refine ⟨fun v hv=>(Z01 V v).2 (List.mem_map.2 ⟨_,h.s.from_ v hv,rfl⟩),fun v hv=>?_⟩
 cases hm:(Z2T V).testBit v with
 | false=>rfl
 | true =>
   obtain ⟨x,hx,rfl⟩:=List.mem_map.1 ((Z01 V v).1 hm)
   rw [h.no x hx] at hv;cases hv
theorem Shn.full {gs:List Gp} {f:Nat→Int} {S K:Nat} {V:List (Nat×Int)} (h:Shn gs (fun _=>true) f S K V) (hf:Flw f S K gs):Z1k f S gs=(cutM (Z2T V) gs).length:=by
 obtain ⟨h1,h2⟩:=h.sub
 rw [← Z6K hf.cons h.s.met_lt h1 h2,← Z6A]
 refine ZcL hf.one fun i g hg=>⟨fun h3 h4=>?_,fun h3 h4=>?_⟩
 · rcases Int.lt_or_le (f i) 1 with h5 | h5
   · have:=(Z01 V _).2 (h.cl _ _ i ((Z01 V _).1 h3) ⟨g,hg,rfl,.inl ⟨rfl,rfl,h5⟩⟩)
     rw [h4] at this;cases this
   · exact h5
 · rcases Int.lt_or_le (-1) (f i) with h5 | h5
   · have:=(Z01 V _).2 (h.cl _ _ i ((Z01 V _).1 h3) ⟨g,hg,rfl,.inr ⟨rfl,rfl,h5⟩⟩)
     rw [h4] at this;cases this
   · exact h5
theorem Shn.empty {gs:List Gp} {f:Nat→Int} {S K:Nat} {V:List (Nat×Int)} (h:Shn gs (fun i=>decide (f i≠0)) (fun i => -f i) S K V) (hf:Flw f S K gs):Z1k f S gs=0:=by
 obtain ⟨h1,h2⟩:=h.sub
 have h0:=ZiR hf.drc
 have h3:Z1k f (Z2T V) gs≤0:=ZcN fun i g hg=>⟨fun h3 h4=>by
     rcases Int.lt_or_le 0 (f i) with h5 | h5
     · have:=(Z01 V _).2 (h.cl _ _ i ((Z01 V _).1 h3) ⟨g,hg,decide_eq_true (by omega),.inl ⟨rfl,rfl,by dsimp only;omega⟩⟩)
       rw [h4] at this;cases this
     · exact h5,fun h3 h4=>by
     rcases Int.lt_or_le (f i) 0 with h5 | h5
     · have:=(Z01 V _).2 (h.cl _ _ i ((Z01 V _).1 h3) ⟨g,hg,decide_eq_true (by omega),.inr ⟨rfl,rfl,by dsimp only;omega⟩⟩)
       rw [h4] at this;cases this
     · exact h5⟩
 rw [Z6K hf.cons h.s.met_lt h1 h2] at h3
 omega
structure Two (gs:List Gp) (S K:Nat):Prop where
 w:Wth gs 7
 ab:∀ (i:Nat) (g:Gp),gs[i]?=some g→g.a.toNat≠g.b.toNat
 s:S<2 ^ 7
 k:K<2 ^ 7
 no:∀ v,S.testBit v=true→K.testBit v=false
theorem Z5V (n m:Nat):((List.range n).filter fun i=>m.testBit i).length=cnt n m:=by unfold cnt;rw [List.countP_eq_length_filter]
def Cut (gs:List Gp) (S K:Nat) (m:Nat):Prop:=Lst (fun n=>∃ C,C<2 ^ gs.length∧Shut gs C S K∧cnt gs.length C=n) m
theorem ZcB (X:Nat) (gs:List Gp):msk (cutM X gs)<2 ^ gs.length:=Z4l fun j hj=>by
 obtain ⟨i,g,h1,_,rfl⟩:=cutM_mem.1 hj
 have:=(List.getElem?_eq_some_iff.1 h1).1;omega
theorem Z9V (X:Nat) (gs:List Gp):cnt gs.length (msk (cutM X gs))=(cutM X gs).length:=by
 have e:∀ i,(msk (cutM X gs)).testBit i=match gs[i]? with | some g=>crs X g | none=>false:=fun i=>by
   rw [Bool.eq_iff_iff,ZU (fun j hj=>by obtain ⟨q,_,_,_,rfl⟩:=cutM_mem.1 hj;omega),cutM_mem]
   constructor
   · rintro ⟨q,g,h1,h2,e⟩
     obtain rfl:i=q:=by omega
     rw [h1];exact h2
   · intro h
     cases hg:gs[i]? with
     | none=>rw [hg] at h;cases h
     | some g=>rw [hg] at h;exact ⟨i,g,hg,h,rfl⟩
 unfold cutM
 rw [List.length_map,← Z5V]
 congr 1
 refine List.filter_congr fun i _=>?_
 have:=e i
 unfold cutM at this
 exact this
theorem Shn.cut {gs:List Gp} {f:Nat→Int} {S K:Nat} {V:List (Nat×Int)} (ht:Two gs S K) (h:Shn gs (fun _=>true) f S K V) (hf:Flw f S K gs):Cut gs S K (cutM (Z2T V) gs).length∧Shut gs (msk (cutM (Z2T V) gs)) S K:=by
 obtain ⟨h1,h2⟩:=h.sub
 have hs:=ZfC (gs:=gs) h1 h2
 refine ⟨⟨⟨_,ZcB _ _,hs,Z9V _ _⟩,?_⟩,hs⟩
 rintro n ⟨C,hC,h3,rfl⟩
 have h4:=ZjC ht.w ht.s hf.one hf.cons h3
 rw [h.full hf,Z5V] at h4
 omega
theorem Shut.mono {gs:List Gp} {C S S' K:Nat} (h:Shut gs C S' K) (hs:∀ v,S.testBit v=true→S'.testBit v=true):Shut gs C S K:=fun t v hv=>h t v (Zdy hs hv)
theorem Zam (gs:List Gp) (cl m:Nat):∀ t,lv gs cl (spr gs cl m) t=lv gs cl m (t+1)
 | 0=>rfl
 | t+1=>by show spr gs cl (lv gs cl (spr gs cl m) t)=spr gs cl (lv gs cl m (t+1));rw [Zam gs cl m t]
theorem Shut.next {gs:List Gp} {C S K:Nat} (h:Shut gs C S K):Shut gs C (spr gs C S) K:=fun t v hv=>h (t+1) v (by rw [← Zam];exact hv)
theorem Z2O {gs:List Gp} {C S K:Nat} (h:Shut gs C S K):S&&&K=0:=and_zero.2 fun v hv=>h 0 v hv
theorem cnt_zero (n:Nat):cnt n 0=0:=by unfold cnt;simp
theorem Pl.free {gs:List Gp} {K sp:Nat} (hw:Wth gs 7):∀ (d m c:Nat),m<2 ^ 7→7-cnt 7 m≤d→Shut gs c m K→Pl gs K sp m c 0:=by
 intro d
 induction d with
 | zero =>
   intro m c hm hd hs
   have e:spr gs c m=m:=Classical.byContradiction fun hne=>by
     have:=Z7i hw hm hne
     have:=Z7M 7 (spr gs c m)
     omega
   have:=Pl.stay (gs:=gs) (K:=K) (sp:=sp) (m:=m) (c:=c) (l:=0) (Nat.two_pow_pos _) (Nat.zero_and _) (by rw [cnt_zero];omega) (by rw [Nat.or_zero];exact e) (Z2O hs)
   rwa [cnt_zero] at this
 | succ d ih =>
   intro m c hm hd hs
   by_cases e:spr gs c m=m
   · have:=Pl.stay (gs:=gs) (K:=K) (sp:=sp) (m:=m) (c:=c) (l:=0) (Nat.two_pow_pos _) (Nat.zero_and _) (by rw [cnt_zero];omega) (by rw [Nat.or_zero];exact e) (Z2O hs)
     rwa [cnt_zero] at this
   · have h1:=Z7i hw hm e
     have h2:=ih (spr gs c m) c (Z6d hw hm) (by omega) hs.next
     have:=Pl.go (gs:=gs) (K:=K) (sp:=sp) (m:=m) (c:=c) (l:=0) (n:=0) (Nat.two_pow_pos _) (Nat.zero_and _) (by rw [cnt_zero];omega) (by rw [Nat.or_zero];exact e) (by rw [Nat.or_zero];exact Z2O hs.next) (by rw [Nat.or_zero];exact h2)
     rwa [cnt_zero] at this
theorem Pl.once {gs:List Gp} {K sp S C:Nat} (hw:Wth gs 7) (hS:S<2 ^ 7) (hC:C<2 ^ gs.length) (hs:Shut gs C S K) (hn:cnt gs.length C≤sp):Pl gs K sp S 0 (cnt gs.length C):=by
 by_cases e:spr gs C S=S
 · exact .stay hC (Nat.and_zero _) hn (by rw [Nat.zero_or];exact e) (Z2O hs)
 · have h2:=Pl.free (sp:=sp) hw 7 (spr gs C S) C (Z6d hw hS) (by omega) hs.next
   have:=Pl.go (gs:=gs) (K:=K) (sp:=sp) (m:=S) (c:=0) (l:=C) (n:=0) hC (Nat.and_zero _) hn (by rw [Nat.zero_or];exact e) (by rw [Nat.zero_or];exact Z2O hs.next) (by rw [Nat.zero_or];exact h2)
   rwa [Nat.add_zero] at this
theorem Z9T {n a b:Nat} (h:a&&&b=0):cnt n (a|||b)=cnt n a+cnt n b:=by
 unfold cnt
 have h:=and_zero.1 h
 induction (List.range n) with
 | nil=>rfl
 | cons x l ih =>
   simp only [List.countP_cons,ih,Nat.testBit_or]
   have:=h x
   cases ha:a.testBit x<;>cases hb:b.testBit x<;>simp_all<;>omega
theorem Znw {a b n:Nat} (ha:a<2 ^ n) (hb:b<2 ^ n):a|||b<2 ^ n:=Nat.or_lt_two_pow ha hb
theorem Pl.shut {gs:List Gp} {K sp m c n:Nat} (h:Pl gs K sp m c n):c<2 ^ gs.length→∃ C,C<2 ^ gs.length∧(∀ i,c.testBit i=true→C.testBit i=true)∧cnt gs.length C=cnt gs.length c+n∧Shut gs C m K:=by
 induction h with
 | @stay m c l hl hc hs he hk =>
   intro hcl
   refine ⟨c|||l,Znw hcl hl,fun i hi=>by rw [Nat.testBit_or,hi];rfl,Z9T (by rw [Nat.and_comm];exact hc),fun t v hv=>?_⟩
   have:lv gs (c|||l) m t=m:=by
     have:=Z5l (gs:=gs) (cl:=c|||l) (m:=m) (t:=0) he t
     rwa [Nat.zero_add] at this
   rw [this] at hv
   exact and_zero.1 hk v hv
 | @go m c l n hl hc hs hne hk h ih =>
   intro hcl
   obtain ⟨C,h1,h2,h3,h4⟩:=ih (Znw hcl hl)
   refine ⟨C,h1,fun i hi=>h2 i (by rw [Nat.testBit_or,hi];rfl),?_,h4.mono fun v hv=>Z1q hv⟩
   rw [h3,Z9T (by rw [Nat.and_comm];exact hc)];omega
theorem Pl.cut {gs:List Gp} {K sp S n m:Nat} (h:Pl gs K sp S 0 n) (hc:Cut gs S K m):m≤n:=by
 obtain ⟨C,h1,_,h3,h4⟩:=h.shut (Nat.two_pow_pos _)
 rw [cnt_zero,Nat.zero_add] at h3
 exact hc.2 n ⟨C,h1,h4,h3⟩
theorem Cut.plan {gs:List Gp} {K sp S m:Nat} (hw:Wth gs 7) (hS:S<2 ^ 7) (hc:Cut gs S K m) (hm:m≤sp):Lst (Pl gs K sp S 0) m:=by
 refine ⟨?_,fun n hn=>hn.cut hc⟩
 obtain ⟨⟨C,h1,h2,h3⟩,_⟩:=hc
 have:=Pl.once (sp:=sp) hw hS h1 h2 (by omega)
 rwa [h3] at this
theorem ZbC (a b:Nat):(a&&&b)%2=(a%2)*(b%2):=by
 have h:=Nat.testBit_and a b 0
 rw [Nat.testBit_zero,Nat.testBit_zero,Nat.testBit_zero] at h
 rcases Nat.mod_two_eq_zero_or_one a with ha | ha<;>rcases Nat.mod_two_eq_zero_or_one b with hb | hb<;>rcases Nat.mod_two_eq_zero_or_one (a&&&b) with hc | hc<;>rw [ha,hb,hc] at h<;>simp_all
theorem Z7l:∀ (n:Nat) {all now s:Nat},all<2 ^ n→now&&&all=now→s&&&all=s→s<now→s≤(now-1)&&&all
 | 0,all,now,s,h,h1,_,h3=>by
   obtain rfl:all=0:=by simpa using h
   rw [Nat.and_zero] at h1;omega
 | n+1,all,now,s,h,h1,h2,h3=>by
   have a1:=congrArg (· / 2) h1
   have a2:=congrArg (· / 2) h2
   have b1:=congrArg (· % 2) h1
   have b2:=congrArg (· % 2) h2
   simp only [Nat.and_div_two,ZbC] at a1 a2 b1 b2
   have hA:all / 2<2 ^ n:=by rw [Nat.pow_succ] at h;omega
   have e:(now-1)&&&all=2*(((now-1)&&&all) / 2)+((now-1)&&&all)%2:=by omega
   rw [e,Nat.and_div_two,ZbC]
   rcases Nat.mod_two_eq_zero_or_one now with hn | hn
   · have ih:=Z7l n hA a1 a2 (by omega)
     have e2:(now-1) / 2=now / 2-1:=by omega
     have e3:(now-1)%2=1:=by omega
     rw [e2,e3]
     have:s%2≤all%2:=by rw [← b2];rcases Nat.mod_two_eq_zero_or_one s with h4 | h4<;>rw [h4]<;>omega
     omega
   · have e2:(now-1) / 2=now / 2:=by omega
     have e3:(now-1)%2=0:=by omega
     rw [e2,e3,a1];omega
theorem Pl.few {gs:List Gp} {K sp m c n:Nat} (h:Pl gs K sp m c n):n+cnt gs.length c≤gs.length:=by
 induction h with
 | @stay m c l _ hc _ _ _ =>
   have:=Z9T (n:=gs.length) hc
   have:=Z7M gs.length (l|||c)
   omega
 | @go m c l n _ hc _ _ _ _ ih =>
   have:=Z9T (n:=gs.length) hc
   rw [Nat.or_comm] at this
   omega
theorem Lst.ex {P:Nat→Prop}:∀ {n:Nat},P n→∃ m,Lst P m∧m≤n:=by
 intro n
 induction n using Nat.strongRecOn with
 | ind n ih =>
   intro h
   by_cases hx:∃ k,k<n∧P k
   · obtain ⟨k,h1,h2⟩:=hx
     obtain ⟨m,h3,h4⟩:=ih k h1 h2
     exact ⟨m,h3,by omega⟩
   · exact ⟨n,⟨h,fun k hk=>Nat.le_of_not_lt fun hl=>hx ⟨k,hl,hk⟩⟩,Nat.le_refl _⟩
def Cnd (gs:List Gp) (K sp m c l n:Nat):Prop:=(∀ i,l.testBit i=true→(Z0l gs m c).testBit i=true)∧cnt gs.length l≤sp∧spr gs (c|||l) m&&&K=0∧((spr gs (c|||l) m=m∧n=cnt gs.length l)∨(spr gs (c|||l) m≠m∧∃ k,n=cnt gs.length l+k∧Lst (Pl gs K sp (spr gs (c|||l) m) (c|||l)) k))
theorem Cnd.unique {gs:List Gp} {K sp m c l n n':Nat} (h:Cnd gs K sp m c l n) (h':Cnd gs K sp m c l n'):n=n':=by
 rcases h.2.2.2 with ⟨h1,h2⟩ | ⟨h1,k,h2,h3⟩<;>rcases h'.2.2.2 with ⟨h4,h5⟩ | ⟨h4,k',h5,h6⟩
 · omega
 · exact absurd h1 h4
 · exact absurd h4 h1
 · rw [h2,h5,h3.unique h6]
theorem Cnd.pl {gs:List Gp} {K sp m c l n:Nat} (h:Cnd gs K sp m c l n):Pl gs K sp m c n:=by
 obtain ⟨h1,h2,h3,h4⟩:=h
 have hl:l<2 ^ gs.length:=Z0o fun i hi=>by
   obtain ⟨g,h5,_⟩:=usfM_test.1 (h1 i hi)
   exact (List.getElem?_eq_some_iff.1 h5).1
 have hc:l&&&c=0:=and0_iff.2 fun i=>by
   cases hi:l.testBit i with
   | false=>rfl
   | true =>
     obtain ⟨g,_,h6,_⟩:=usfM_test.1 (h1 i hi)
     rw [h6];rfl
 rcases h4 with ⟨h5,h6⟩ | ⟨h5,k,h6,h7⟩
 · exact Pl.of (k:=0) hl hc h2 h3 (.inl ⟨h5,h6⟩)
 · exact Pl.of hl hc h2 h3 (.inr ⟨h5,h6,h7.1⟩)
theorem Cnd.sub {gs:List Gp} {K sp m c l n:Nat} (h:Cnd gs K sp m c l n):l&&&Z0l gs m c=l:=Z0K fun i=>by
 rw [Nat.testBit_and]
 cases hi:l.testBit i with
 | false=>rfl
 | true=>rw [h.1 i hi];rfl
def Z5E (gs:List Gp) (K sp m c n l:Nat) (lost:Bool):Prop:=(lost=true∧n=11∧l=0∧∀ k,¬ Pl gs K sp m c k)∨(lost=false∧n≤10∧Lst (Pl gs K sp m c) n∧Cnd gs K sp m c l n)
structure BI (gs:List Gp) (K sp m c now n l:Nat) (lost:Bool):Prop where
 min:∀ s n',now<s→Cnd gs K sp m c s n'→n≤n'
 is:(lost=true∧n=11∧l=0)∨(lost=false∧n≤10∧Cnd gs K sp m c l n)
theorem Z0a (gs:List Gp) (m c:Nat):Z0l gs m c<2 ^ gs.length:=Z0o fun i hi=>by
 obtain ⟨g,h5,_⟩:=usfM_test.1 hi
 exact (List.getElem?_eq_some_iff.1 h5).1
theorem Zer {a b:Nat} (h:a&&&b=a):a≤b:=h▸Nat.and_le_right
theorem BI.start (gs:List Gp) (K sp m c:Nat):BI gs K sp m c (Z0l gs m c) 11 0 true:=⟨fun s n' h1 h2=>absurd (Zer h2.sub) (by omega),.inl ⟨rfl,rfl,rfl⟩⟩
theorem BI.le {gs:List Gp} {K sp m c now n l:Nat} {lost:Bool} (h:BI gs K sp m c now n l lost):n≤11:=by rcases h.is with ⟨_,h1,_⟩ | ⟨_,h1,_⟩<;>omega
theorem BI.no {gs:List Gp} {K sp m c now n l:Nat} {lost:Bool} (h:BI gs K sp m c now n l lost) (hu:now&&&Z0l gs m c=now) (h0:now≠0) (hx:∀ n',Cnd gs K sp m c now n'→n≤n'):BI gs K sp m c ((now-1)&&&Z0l gs m c) n l lost:=⟨fun s n' h1 h2=>by
 rcases Nat.lt_trichotomy s now with h3 | h3 | h3
 · have:=Z7l gs.length (Z0a gs m c) hu h2.sub h3;omega
 · subst h3;exact hx n' h2
 · exact h.min s n' h3 h2,h.is⟩
theorem BI.take {gs:List Gp} {K sp m c now n l n2:Nat} {lost:Bool} (h:BI gs K sp m c now n l lost) (hu:now&&&Z0l gs m c=now) (h0:now≠0) (hc:Cnd gs K sp m c now n2) (hl:n2<n):BI gs K sp m c ((now-1)&&&Z0l gs m c) n2 now false:=⟨fun s n' h1 h2=>by
 rcases Nat.lt_trichotomy s now with h3 | h3 | h3
 · have:=Z7l gs.length (Z0a gs m c) hu h2.sub h3;omega
 · subst h3;rw [hc.unique h2];exact Nat.le_refl _
 · have:=h.min s n' h3 h2;omega,.inr ⟨rfl,by have:=h.le;omega,hc⟩⟩
theorem BI.done {gs:List Gp} {K sp m c n l:Nat} {lost:Bool} (hg:gs.length≤10) (hmin:∀ s n',Cnd gs K sp m c s n'→n≤n') (is:(lost=true∧n=11∧l=0)∨(lost=false∧n≤10∧Cnd gs K sp m c l n)):Z5E gs K sp m c n l lost:=by
 have key:∀ k,Pl gs K sp m c k→∃ s n',Cnd gs K sp m c s n'∧n'≤k:=fun k hk=>by
   obtain ⟨s,n',h1,h2,h3,h4,h5,h6⟩:=hk.first
   rcases h6 with ⟨h7,h8⟩ | ⟨h7,k2,h8,h9⟩
   · exact ⟨s,n',⟨h3,h4,h5,.inl ⟨h7,h8⟩⟩,h1⟩
   · obtain ⟨k3,h10,h11⟩:=Lst.ex h9
     exact ⟨s,cnt gs.length s+k3,⟨h3,h4,h5,.inr ⟨h7,k3,rfl,h10⟩⟩,by omega⟩
 rcases is with ⟨h1,h2,h3⟩ | ⟨h1,h2,h3⟩
 · refine .inl ⟨h1,h2,h3,fun k hk=>?_⟩
   obtain ⟨s,n',h4,h5⟩:=key k hk
   have:=hmin s n' h4
   have:=h4.pl.few
   omega
 · refine .inr ⟨h1,h2,⟨h3.pl,fun k hk=>?_⟩,h3⟩
   obtain ⟨s,n',h4,h5⟩:=key k hk
   have:=hmin s n' h4
   omega
theorem BI.endNo {gs:List Gp} {K sp m c n l:Nat} {lost:Bool} (hg:gs.length≤10) (h:BI gs K sp m c 0 n l lost) (hx:∀ n',Cnd gs K sp m c 0 n'→n≤n'):Z5E gs K sp m c n l lost:=BI.done hg (fun s n' h2=>by
 rcases Nat.eq_zero_or_pos s with h3 | h3
 · subst h3;exact hx n' h2
 · exact h.min s n' h3 h2) h.is
theorem BI.endTake {gs:List Gp} {K sp m c n l n2:Nat} {lost:Bool} (hg:gs.length≤10) (h:BI gs K sp m c 0 n l lost) (hc:Cnd gs K sp m c 0 n2) (hl:n2<n):Z5E gs K sp m c n2 0 false:=BI.done hg (fun s n' h2=>by
 rcases Nat.eq_zero_or_pos s with h3 | h3
 · subst h3;rw [hc.unique h2];exact Nat.le_refl _
 · have:=h.min s n' h3 h2;omega) (.inr ⟨rfl,by have:=h.le;omega,hc⟩)
theorem Z4I {gs:List Gp} {cl m:Nat} (h:spr gs cl m≠m):m<spr gs cl m:=by
 have h1:m&&&spr gs cl m=m:=Z0K fun i=>by
   rw [Nat.testBit_and]
   cases hi:m.testBit i with
   | false=>rfl
   | true=>rw [Z1q hi];rfl
 have:=Zer h1
 omega
def Zq2 (gs:List Gp) (K sp m c l:Nat):Prop:=l<2 ^ gs.length∧l&&&c=0∧cnt gs.length l≤sp∧spr gs (c|||l) m&&&K=0
def Seg (gs:List Gp) (K sp:Nat):Nat→Nat→List Nat→Nat→Nat→Prop
 | m,c,[],m',c'=>m'=m∧c'=c
 | m,c,l::ls,m',c'=>Zq2 gs K sp m c l∧Seg gs K sp (spr gs (c|||l) m) (c|||l) ls m' c'
theorem Seg.snoc {gs:List Gp} {K sp:Nat}:∀ {ls:List Nat} {m c m' c' l:Nat},Seg gs K sp m c ls m' c'→Zq2 gs K sp m' c' l→Seg gs K sp m c (ls++[l]) (spr gs (c'|||l) m') (c'|||l)
 | [],m,c,m',c',l,⟨h1,h2⟩,hw=>by subst h1;subst h2;exact ⟨hw,rfl,rfl⟩
 | x::ls,m,c,m',c',l,⟨h1,h2⟩,hw=>⟨h1,Seg.snoc h2 hw⟩
def ZeS (gs:List Gp):List Nat→Nat
 | []=>0
 | l::ls=>cnt gs.length l+ZeS gs ls
theorem Z2y (gs:List Gp) (l:Nat):∀ ls,ZeS gs (ls++[l])=ZeS gs ls+cnt gs.length l
 | []=>by simp [ZeS]
 | x::ls=>by
   rw [List.cons_append]
   unfold ZeS
   rw [Z2y gs l ls];omega
def RunP (gs:List Gp) (K sp m c:Nat) (ls:List Nat):Prop:=∃ m' c',Seg gs K sp m c ls m' c'∧Shut gs c' m' K
theorem Cnd.wk {gs:List Gp} {K sp m c l n:Nat} (h:Cnd gs K sp m c l n):Zq2 gs K sp m c l:=by
 obtain ⟨h1,h2,h3,_⟩:=h
 refine ⟨Z0o fun i hi=>by
   obtain ⟨g,h5,_⟩:=usfM_test.1 (h1 i hi)
   exact (List.getElem?_eq_some_iff.1 h5).1,and0_iff.2 fun i=>?_,h2,h3⟩
 cases hi:l.testBit i with
 | false=>rfl
 | true =>
   obtain ⟨g,_,h6,_⟩:=usfM_test.1 (h1 i hi)
   rw [h6];rfl
theorem RunP.once {gs:List Gp} {K sp S C:Nat} (hs:Shut gs C S K) (hC:C<2 ^ gs.length) (hn:cnt gs.length C≤sp):RunP gs K sp S 0 [C] :=
 ⟨spr gs (0|||C) S,0|||C,⟨⟨hC,Nat.and_zero _,hn,by rw [Nat.zero_or];exact Z2O hs.next⟩,rfl,rfl⟩,by rw [Nat.zero_or];exact hs.next⟩
theorem RunP.stop {gs:List Gp} {K sp S c0 m c l n:Nat} {ls:List Nat} (h:Seg gs K sp S c0 ls m c) (hc:Cnd gs K sp m c l n) (he:spr gs (c|||l) m=m):RunP gs K sp S c0 (ls++[l]):=by
 refine ⟨_,_,h.snoc hc.wk,fun t v hv=>?_⟩
 have h0:=hc.2.2.1
 rw [he] at hv h0
 have hst:=Z5l (gs:=gs) (cl:=c|||l) (m:=m) (t:=0) he t
 rw [Nat.zero_add] at hst
 rw [hst] at hv
 exact and_zero.1 h0 v hv
theorem ZcC {gs:List Gp} (hg:gs.length≤10) (X:Nat):Z3s (msk (cutM X gs))=cutM X gs:=by
 obtain ⟨t,h1,h2,_⟩:=Zjg (y:=(List.range gs.length).filter fun i=>match gs[i]? with | some g=>crs X g | none=>false) hg (List.pairwise_lt_range.filter _) (fun j hj=>List.mem_range.1 (List.mem_filter.1 hj).1)
 have h3:Z3s t=cutM X gs:=h2
 rw [← h3,Zg1 (Nat.lt_of_lt_of_le h1 (Nat.pow_le_pow_right (by decide) hg))]
def lvp (gs:List Gp) (cl:Nat→Nat) (m:Nat):Nat→Nat
 | 0=>m
 | t+1=>spr gs (cl t) (lvp gs cl m t)
theorem Z8a {gs:List Gp} {cl:Nat→Nat} {m:Nat}:∀ {t t':Nat},t≤t'→∀ {v:Nat},(lvp gs cl m t).testBit v=true→(lvp gs cl m t').testBit v=true
 | t, 0, h, v, hv => by obtain rfl : t = 0 := by omega
                        exact hv
 | t,t'+1,h,v,hv=>by
   rcases Nat.lt_or_ge t' t with h1 | h1
   · obtain rfl:t=t'+1:=by omega
     exact hv
   · exact Z1q (Z8a h1 hv)
def fol (gs:List Gp) (cl:Nat→Nat) (m n k:Nat):Int:=match (List.range (n+1)).find? fun t=>(lvp gs cl m t).testBit k with
 | some t=>(t:Int)
 | none=>100
theorem Z82 (gs:List Gp) (cl:Nat→Nat) (m n k:Nat):(∃ t:Nat,t≤n∧fol gs cl m n k=t∧(lvp gs cl m t).testBit k=true∧∀ i:Nat,i<t→(lvp gs cl m i).testBit k=false)∨(fol gs cl m n k=100∧∀ i:Nat,i≤n→(lvp gs cl m i).testBit k=false):=by
 unfold fol
 rcases hf:(List.range (n+1)).find? fun t=>(lvp gs cl m t).testBit k with _ | t
 · refine .inr ⟨rfl,fun i hi=>?_⟩
   have:=List.find?_eq_none.1 hf i (List.mem_range.2 (by omega))
   simpa using this
 · obtain ⟨h1,lp,lq,h2,h3⟩:=List.find?_eq_some_iff_append.1 hf
   have hm:t∈List.range (n+1):=by rw [h2];simp
   refine .inl ⟨t,by have:=List.mem_range.1 hm;omega,rfl,h1,fun i hi=>?_⟩
   have hi7:i∈List.range (n+1):=List.mem_range.2 (by have:=List.mem_range.1 hm;omega)
   have hp:=List.pairwise_lt_range (n:=n+1)
   rw [h2] at hi7 hp
   rw [List.pairwise_append] at hp
   rcases List.mem_append.1 hi7 with h4 | h4
   · have:=h3 i h4;simpa using this
   · rcases List.mem_cons.1 h4 with rfl | h4
     · omega
     · have:=(List.pairwise_cons.1 hp.2.1).1 i h4;omega
theorem Zaa {gs:List Gp} {cl:Nat→Nat} {m n k:Nat} (h:(lvp gs cl m n).testBit k=true):∃ t:Nat,t≤n∧fol gs cl m n k=t∧(lvp gs cl m t).testBit k=true∧∀ i:Nat,i<t→(lvp gs cl m i).testBit k=false:=by
 rcases Z82 gs cl m n k with h1 | ⟨_,h1⟩
 · exact h1
 · rw [h1 n (Nat.le_refl _)] at h;cases h
theorem Zda {gs:List Gp} {cl:Nat→Nat} {m n k:Nat} (h:(lvp gs cl m n).testBit k=false):fol gs cl m n k=100:=by
 rcases Z82 gs cl m n k with ⟨t,h1,_,h3,_⟩ | ⟨h1,_⟩
 · rw [Z8a h1 h3] at h;cases h
 · exact h1
theorem Zd9 {gs:List Gp} {cl:Nat→Nat} {m n k t:Nat} (h1:t≤n) (h2:(lvp gs cl m t).testBit k=true) (h3:∀ i:Nat,i<t→(lvp gs cl m i).testBit k=false):fol gs cl m n k=t:=by
 obtain ⟨t',_,h5,h6,h7⟩:=Zaa (Z8a h1 h2)
 rw [h5]
 rcases Nat.lt_trichotomy t t' with h | h | h
 · rw [h7 t h] at h2;cases h2
 · rw [h]
 · rw [h3 t' h] at h6;cases h6
theorem ZfM {gs:List Gp} {cl:Nat→Nat} {m n k:Nat}:fol gs cl m (n+1) k=bif (lvp gs cl m n).testBit k then fol gs cl m n k else bif (lvp gs cl m (n+1)).testBit k then ((n+1:Nat):Int) else 100:=by
 cases h:(lvp gs cl m n).testBit k with
 | true =>
   obtain ⟨t,h1,h2,h3,h4⟩:=Zaa h
   rw [cond_true,h2]
   exact Zd9 (by omega) h3 h4
 | false =>
   rw [cond_false]
   cases h5:(lvp gs cl m (n+1)).testBit k with
   | true =>
     rw [cond_true]
     refine Zd9 (Nat.le_refl _) h5 fun i hi=>?_
     cases h6:(lvp gs cl m i).testBit k with
     | false=>rfl
     | true=>rw [Z8a (show i≤n by omega) h6] at h;cases h
   | false=>exact Zda h5
def Z8x (gs:List Gp) (cl s:Nat):Nat→Nat
 | 0=>s
 | i+1=>match gs[i]? with
   | some g=>bif cl.testBit i then Z8x gs cl s i else Z8x gs cl s i|||gpo s g
   | none=>Z8x gs cl s i
theorem Z7C {gs:List Gp} {cl s v:Nat}:∀ i,(Z8x gs cl s i).testBit v=true↔s.testBit v=true∨∃ j g,j<i∧gs[j]?=some g∧cl.testBit j=false∧(gpo s g).testBit v=true
 | 0=>by
   show s.testBit v=true↔_
   exact ⟨.inl,fun h=>h.elim id fun ⟨j,_,hj,_⟩=>absurd hj (Nat.not_lt_zero _)⟩
 | i+1=>by
   have ih:=Z7C (gs:=gs) (cl:=cl) (s:=s) (v:=v) i
   have up:(Z8x gs cl s i).testBit v=true→(s.testBit v=true∨∃ j g,j<i+1∧gs[j]?=some g∧cl.testBit j=false∧(gpo s g).testBit v=true):=fun h=>(ih.1 h).imp id fun ⟨j,g,h1,h2⟩=>⟨j,g,by omega,h2⟩
   unfold Z8x
   cases hg:gs[i]? with
   | none =>
     refine ⟨up,fun h=>ih.2 (h.imp id fun ⟨j,g,h1,h2,h3⟩=>⟨j,g,?_,h2,h3⟩)⟩
     rcases Nat.lt_or_ge j i with h4 | h4
     · exact h4
     · obtain rfl:j=i:=by omega
       rw [hg] at h2;cases h2
   | some g0 =>
     dsimp only
     cases hc:cl.testBit i with
     | true =>
       rw [cond_true]
       refine ⟨up,fun h=>ih.2 (h.imp id fun ⟨j,g,h1,h2,h3⟩=>⟨j,g,?_,h2,h3⟩)⟩
       rcases Nat.lt_or_ge j i with h4 | h4
       · exact h4
       · obtain rfl:j=i:=by omega
         rw [hc] at h3;cases h3.1
     | false =>
       rw [cond_false,Nat.testBit_or,Bool.or_eq_true]
       refine ⟨fun h=>h.elim up fun h=>.inr ⟨i,g0,by omega,hg,hc,h⟩,fun h=>?_⟩
       rcases h with h | ⟨j,g,h1,h2,h3,h4⟩
       · exact .inl (ih.2 (.inl h))
       · rcases Nat.lt_or_ge j i with h5 | h5
         · exact .inl (ih.2 (.inr ⟨j,g,h5,h2,h3,h4⟩))
         · obtain rfl:j=i:=by omega
           rw [hg] at h2
           obtain rfl:=Option.some.inj h2
           exact .inr h4
theorem ZeU (gs:List Gp) (cl s:Nat):Z8x gs cl s gs.length=spr gs cl s:=Z0K fun v=>by
 rw [Bool.eq_iff_iff,Z7C]
 unfold spr
 rw [Z3y]
 refine or_congr Iff.rfl ⟨fun ⟨j,g,_,h2,h3,h4⟩=>⟨j,g,h2,by rw [Nat.zero_add];exact h3,h4⟩,fun ⟨j,g,h2,h3,h4⟩=>⟨j,g,(List.getElem?_eq_some_iff.1 h2).1,h2,by rw [Nat.zero_add] at h3;exact h3,h4⟩⟩
structure FolI (gs:List Gp) (cl:Nat→Nat) (m n w acc:Nat) (o:List Int):Prop where
 len:o.length=n
 at_:∀ k<n,na o k=bif (lvp gs cl m w).testBit k then fol gs cl m w k else bif acc.testBit k then ((w+1:Nat):Int) else 100
theorem FolI.reached {gs:List Gp} {cl:Nat→Nat} {m n w acc:Nat} {o:List Int} (h:FolI gs cl m n w acc o) (hw:w<99) {k:Nat} (hk:k<n):na o k≤w↔(lvp gs cl m w).testBit k=true:=by
 have h1:=h.at_ k hk
 cases hb:(lvp gs cl m w).testBit k with
 | true =>
   rw [hb,cond_true] at h1
   obtain ⟨t,h2,h3,_⟩:=Zaa hb
   exact ⟨fun _=>rfl,fun _=>by omega⟩
 | false =>
   rw [hb,cond_false] at h1
   refine ⟨fun h2=>?_,fun h2=>by cases h2⟩
   cases ha:acc.testBit k with
   | true=>rw [ha,cond_true] at h1;omega
   | false=>rw [ha,cond_false] at h1;omega
theorem FolI.bd {gs:List Gp} {cl:Nat→Nat} {m n w acc:Nat} {o:List Int} (h:FolI gs cl m n w acc o) (hw:w<99) {k:Nat} (hk:k<n):0≤na o k∧na o k≤100:=by
 have h1:=h.at_ k hk
 cases hb:(lvp gs cl m w).testBit k with
 | true =>
   rw [hb,cond_true] at h1
   obtain ⟨t,h2,h3,_⟩:=Zaa hb
   omega
 | false =>
   rw [hb,cond_false] at h1
   cases ha:acc.testBit k with
   | true=>rw [ha,cond_true] at h1;omega
   | false=>rw [ha,cond_false] at h1;omega
theorem FolI.way {gs:List Gp} {cl:Nat→Nat} {m n w acc:Nat} {o:List Int} (h:FolI gs cl m n w acc o) (hw:w<99) {u v:Nat} (hu:u<n) (hv:v<n) (h1:na o u≤w) (h2:(w:Int)<na o v):FolI gs cl m n w (acc|||(bif (lvp gs cl m w).testBit u then 2 ^ v else 0)) (o.set v (min (na o v) ((w:Int)+1))):=by
 have hl:=h.len
 refine ⟨by rw [List.length_set];exact hl,fun k hk=>?_⟩
 have hub:=(h.reached hw hu).1 h1
 have hvb:(lvp gs cl m w).testBit v=false:=by
   cases hb:(lvp gs cl m w).testBit v with
   | false=>rfl
   | true=>have:=(h.reached hw hv).2 hb;omega
 rw [hub,cond_true,Nat.testBit_or,Nat.testBit_two_pow]
 by_cases e:v=k
 · subst e
   have h3:=h.at_ v hv
   rw [hvb,cond_false] at h3 ⊢
   rw [show decide (v=v)=true from decide_eq_true rfl,Bool.or_true,cond_true]
   have:na (o.set v (min (na o v) ((w:Int)+1))) v=min (na o v) ((w:Int)+1):=by
     unfold na;rw [List.getD_eq_getElem?_getD,List.getElem?_set_self (by omega)];rfl
   rw [this]
   cases ha:acc.testBit v with
   | true=>rw [ha,cond_true] at h3;omega
   | false=>rw [ha,cond_false] at h3;omega
 · have:na (o.set v (min (na o v) ((w:Int)+1))) k=na o k:=by
     unfold na;simp only [List.getD_eq_getElem?_getD,List.getElem?_set_ne e]
   rw [this,show decide (v=k)=false from decide_eq_false e,Bool.or_false]
   exact h.at_ k hk
theorem FolI.shut {gs:List Gp} {cl:Nat→Nat} {m n w i:Nat} {o:List Int} (hc:(cl w).testBit i=true) (h:FolI gs cl m n w (Z8x gs (cl w) (lvp gs cl m w) i) o):FolI gs cl m n w (Z8x gs (cl w) (lvp gs cl m w) (i+1)) o:=by
 have:Z8x gs (cl w) (lvp gs cl m w) (i+1)=Z8x gs (cl w) (lvp gs cl m w) i:=by
   rw [Z8x]
   cases gs[i]? with
   | none=>rfl
   | some g=>dsimp only;rw [hc];rfl
 rw [this];exact h
theorem FolI.week {gs:List Gp} {cl:Nat→Nat} {m n w:Nat} {o:List Int} (h:FolI gs cl m n w (Z8x gs (cl w) (lvp gs cl m w) gs.length) o):FolI gs cl m n (w+1) (Z8x gs (cl (w+1)) (lvp gs cl m (w+1)) 0) o:=by
 rw [ZeU] at h
 refine ⟨h.len,fun k hk=>?_⟩
 rw [h.at_ k hk]
 have hs:=ZfM (gs:=gs) (cl:=cl) (m:=m) (n:=w) (k:=k)
 show _=bif (lvp gs cl m (w+1)).testBit k then fol gs cl m (w+1) k else bif (lvp gs cl m (w+1)).testBit k then _ else 100
 rw [hs,show spr gs (cl w) (lvp gs cl m w)=lvp gs cl m (w+1) from rfl]
 cases h1:(lvp gs cl m (w+1)).testBit k with
 | true=>rw [cond_true,cond_true]
 | false =>
   cases h2:(lvp gs cl m w).testBit k with
   | true=>rw [Z8a (Nat.le_succ w) h2] at h1;cases h1
   | false=>rfl
def Zod (gs:List Gp) (cl:Nat→Nat) (m n:Nat):List Int:=(List.range n).map (fol gs cl m 20)
theorem ZfL (gs:List Gp) (cl:Nat→Nat) (m n:Nat):(Zod gs cl m n).length=n:=by simp [Zod]
theorem FolI.done {gs:List Gp} {cl:Nat→Nat} {m n acc:Nat} {o:List Int} (h:FolI gs cl m n 20 acc o) (ha:acc=lvp gs cl m 20):o=Zod gs cl m n:=by
 subst ha
 apply List.ext_getElem?
 intro k
 rcases Nat.lt_or_ge k n with hk | hk
 · have h1:=h.at_ k hk
   have h2:o[k]?=some (na o k):=by unfold na;rw [List.getD_eq_getElem?_getD,List.getElem?_eq_getElem (by rw [h.len];exact hk)];rfl
   rw [h2,h1]
   unfold Zod
   rw [List.getElem?_map,List.getElem?_range hk]
   show _=some (fol gs cl m 20 k)
   cases hb:(lvp gs cl m 20).testBit k with
   | true=>rfl
   | false=>rw [Zda hb];rfl
 · rw [List.getElem?_eq_none (by rw [h.len];exact hk),List.getElem?_eq_none (by rw [ZfL];exact hk)]
theorem ZhR {h:Hse} (hk:h.ok) {ss:List Sgt} (hs:SOk h ss) (hy:∀ s∈ss,s.seen=true):h.agr ss=true:=by
 refine (Z8z hk hs).2 ⟨2 ^ h.bins.toNat-1,by have:=Nat.two_pow_pos h.bins.toNat;omega,List.all_eq_true.2 fun s h1=>?_⟩
 have h2:=hs s h1
 unfold exS
 rw [hy s h1,ZjM (by rw [Nat.testBit_two_pow_sub_one];exact decide_eq_true (by omega)),decide_eq_true h2.1.1];rfl
theorem ZjO (gs:List Gp) (k:Nat):wk gs 0 0 k=far:=by
 rcases Z3H gs 0 0 k with ⟨t,_,_,h3,_⟩ | ⟨h1,_⟩
 · rw [Z70,Nat.zero_testBit] at h3;cases h3
 · exact h1
theorem Zkf {h:Hse} (hk:h.ok) {ss:List Sgt} (hs:SOk h ss) (hn:∀ s∈ss,s.seen=false):h.agr ss=true:=by
 refine (Z8z hk hs).2 ⟨0,Nat.two_pow_pos _,List.all_eq_true.2 fun s h1=>?_⟩
 have h2:=hs s h1
 unfold exS
 rw [hn s h1,ZjO,decide_eq_false (by unfold far;omega)];rfl
def Z77 (ss:List Sgt) (l:List Int):List Sgt:=l.filterMap fun i=>ss[i.toNat]?
theorem Zg8 {ss:List Sgt} {l:List Int} {s:Sgt} (h:s∈Z77 ss l):s∈ss:=by
 obtain ⟨i,_,h2⟩:=List.mem_filterMap.1 h
 exact List.mem_of_getElem? h2
structure Cla (h:Hse) (x:List Int):Prop where
 lt:∀ i∈x,0≤i∧i<h.sights.length
 srt:x.Pairwise (· < ·)
 no:h.agr (Z77 h.sights x)=false
 less:∀ k<x.length,h.agr (Z77 h.sights (x.eraseIdx k))=true
theorem Cla.two {h:Hse} (hk:h.ok) {x:List Int} (hc:Cla h x):(∃ s∈Z77 h.sights x,s.seen=true)∧∃ s∈Z77 h.sights x,s.seen=false:=by
 have hs:SOk h (Z77 h.sights x):=fun s h1=>hk.sights s (Zg8 h1)
 constructor
 · apply Classical.byContradiction
   intro hn
   have:=Zkf hk hs fun s h1=>by
     cases hb:s.seen with
     | false=>rfl
     | true=>exact absurd ⟨s,h1,hb⟩ hn
   rw [hc.no] at this;cases this
 · apply Classical.byContradiction
   intro hn
   have:=ZhR hk hs fun s h1=>by
     cases hb:s.seen with
     | true=>rfl
     | false=>exact absurd ⟨s,h1,hb⟩ hn
   rw [hc.no] at this;cases this
theorem Cla.len {h:Hse} (hk:h.ok) {x:List Int} (hc:Cla h x):2≤x.length:=by
 obtain ⟨⟨s,h1,h2⟩,t,h3,h4⟩:=hc.two hk
 have hle:(Z77 h.sights x).length≤x.length:=List.length_filterMap_le _ _
 rcases Nat.lt_or_ge (Z77 h.sights x).length 2 with h5 | h5
 · match hp:Z77 h.sights x,h5 with
   | [],_=>rw [hp] at h1;simp at h1
   | [a],_ =>
     rw [hp] at h1 h3
     rw [List.mem_singleton] at h1 h3
     rw [h1] at h2;rw [h3] at h4;rw [h2] at h4;cases h4
 · omega
structure Tru (h:Hse) (l:List Int) (ss:List Sgt):Prop where
 ok:SOk h ss
 ex:ZeQ h.gaps (msk l) ss=true
theorem Tru.snoc {h:Hse} {l:List Int} {ss:List Sgt} (ht:Tru h l ss) {s:Sgt} (hs:(0≤s.week∧s.week≤9)∧0≤s.bin∧s.bin<h.bins) (he:exS h.gaps (msk l) s=true):Tru h l (ss++[s]):=by
 refine ⟨fun x hx=>?_,?_⟩
 · rcases List.mem_append.1 hx with h1 | h1
   · exact ht.ok x h1
   · rw [List.mem_singleton.1 h1];exact hs
 · unfold ZeQ
   rw [List.all_append]
   have:=ht.ex
   unfold ZeQ at this
   rw [this,List.all_cons,he];rfl
theorem Tru.agr {h:Hse} {l:List Int} {ss:List Sgt} (hk:h.ok) (hl:∀ x∈l,0≤x∧x<h.bins) (ht:Tru h l ss):h.agr ss=true:=(Z8z hk ht.ok).2 ⟨msk l,Z4l (fun x hx=>by have:=hl x hx;have:=hk.bins;omega),ht.ex⟩
theorem Pl.idle {gs:List Gp} {K m c n:Nat} (h:Pl gs K 0 m c n):n=0:=by
 have key:∀ {sp m c n:Nat},Pl gs K sp m c n→sp=0→n=0:=by
   intro sp m c n h
   induction h with
   | stay hl hc hs he hk=>intro e;omega
   | go hl hc hs hne hk _ ih=>intro e;have:=ih e;omega
 exact key h rfl
def Spd (gs:List Gp) (S K s:Nat):Prop:=(∃ n,Pl gs K s S 0 n)∧∀ s',s'<s→∀ n,¬ Pl gs K s' S 0 n
theorem Spd.cut {gs:List Gp} {S K s m:Nat} (hw:Wth gs 7) (hS:S<2 ^ 7) (h:Spd gs S K s) (hc:Cut gs S K m):s≤m∧(s=0↔m=0):=by
 have h1:s≤m:=Nat.le_of_not_lt fun hlt=>h.2 m hlt m (hc.plan hw hS (Nat.le_refl _)).1
 refine ⟨h1,fun e=>?_,fun e=>by omega⟩
 subst e
 obtain ⟨n,hn⟩:=h.1
 have h2:=hn.idle
 have h3:=hn.cut hc
 omega
end Go.Proofs.YtcfdanhklbklkaaGreat.Wv
