/- Walks of the functions of the program, and the laws that join them: what the last theorem of this claim needs, in order. -/
import Derived.Test.YtclnhdkneegfkaaGreatWs4
namespace Go.Proofs.YtclnhdkneegfkaaGreat
set_option linter.unusedSimpArgs false
set_option linter.unusedVariables false
open Go
theorem Zh6:apT Tryz.prog 23=some (22,1,24):=by kernel_rfl
theorem ZhZ:cal Tryz.prog 38=true:=by kernel_rfl
theorem Zb6:Z2X Tryz.prog 98 1=some 1:=by kernel_rfl
structure PL where
 a:Option Addr
 c:Nat
 l:List Int
def Z3j (x:PL):List Value:=[.slice x.a x.l.length x.c]
def Zg (l:List PL):List (List Value):=l.map Z3j
def Inn (l:List PL) (w:World):Prop:=∀ x∈l,RowsA x.a 1 (Z3 x.l) w
def lls (l:List PL):List (List Int):=l.map (·.l)
theorem Zt (l:List PL):(Zg l).length=l.length:=List.length_map _
theorem Z0M {l:List PL} {k:Nat} {x:PL} (h:l[k]?=some x):(Zg l)[k]?=some (Z3j x):=by simp [Zg,h]
theorem Z1m {l:List PL} {k:Nat} {x:PL} (h:l[k]?=some x):(lls l)[k]?=some x.l:=by simp [lls,h]
theorem Z04 (l:List PL):(lls l).length=l.length:=List.length_map _
theorem St.inn {H:Zf} {R:Z6} {w:World} {l:List PL} {x:PL} [m:MemF (Inn l) R] (h:St H R w) (hx:x∈l):St H (RowsA x.a 1 (Z3 x.l)::R) w :=
 h.also fun _ hw=>hw _ m.mem x hx
theorem PE.fieldV {P:Program} {L:Zv} {d:Option Tmp} {ty:TypeId} {pos:String} {af:Array Edge} {gg:Option (Nat×Bool)} {T k e o:Nat} {x:Operand} {vs:List Value} {v:Value} (hF:fTy P T k=some (e,o)) (hE:Z3n P e=true) (hx:ev L x=some (.agg vs.toArray)) (hv:vs[o]?=some v) :
   PE P L ⟨d,.field T x k,ty,pos,af,gg⟩ v:=fun ρ hρ w=>by
 unfold fTy at hF
 split at hF
 · rename_i fs hu
   obtain ⟨f,hf,he⟩:=Option.map_eq_some_iff.1 hF
   cases he
   simp [execOp,hρ _ _ hx,Instr.field,Sem.run_bind,Sem.run_pure,run_underlying hu,Result.andThen,hf,asAgg,part,Z0X hE,hv]
 · cases hF
theorem St.innSnoc {H:Zf} {R:Z6} {w:World} {l:List PL} (x:PL) [m:MemF (Inn l) R] [n:MemRows x.a 1 (Z3 x.l) R] (h:St H R w):St H (Inn (l++[x])::R) w:=h.also fun w' hw y hy=>by
 rcases List.mem_append.1 hy with h1 | h1
 · exact hw _ m.mem y h1
 · rw [List.mem_singleton.1 h1];exact hw _ n.mem
theorem St.inn0 {H:Zf} {R:Z6} {w:World} (h:St H R w):St H (Inn []::R) w:=h.also fun w' hw y hy=>by cases hy
theorem Z8n {gs:List Gp} {c m:Nat} (hw:Wth gs 7) (hm:m<2 ^ 7) (h:spr gs c m≠m):cnt 7 m<cnt 7 (spr gs c m):=by
 have hex:∃ k,(spr gs c m).testBit k=true∧m.testBit k=false:=Classical.byContradiction fun hn=>h (Z0i fun k=>by
   cases hb:m.testBit k with
   | true=>exact Z18 hb
   | false =>
     cases hb2:(spr gs c m).testBit k with
     | false=>rfl
     | true=>exact absurd ⟨k,hb2,hb⟩ hn)
 obtain ⟨k,h3,h4⟩:=hex
 unfold cnt
 exact Z2j (fun x _ hx=>Z18 hx) ⟨k,List.mem_range.2 (Z0n (Z3q hw hm) h3),h3,h4⟩
theorem Z1Q (l:List PL) (x:PL):Zg l++[Z3j x]=Zg (l++[x]):=by simp [Zg]
theorem Z3G (l:List PL) (x:PL):lls (l++[x])=lls l++[x.l]:=by simp [lls]
def Zjk (h:Hse) (fr to_:List Int) (spd:Int) (H:Zf) (R:Z6):Value→Zf→Z6→Prop:=fun v H' R'=>H'=H∧((h.rcE fr to_ spd≠0∧v = .tuple #[.slice none 0 0,.int .i64 (h.rcE fr to_ spd)]∧R'=R) ∨
 (h.rcE fr to_ spd=0∧(∀ n,¬ Pl h.gaps (msk to_) spd.toNat (msk fr) 0 n)∧v = .tuple #[.slice none 0 0,.int .i64 6]∧R'=R) ∨
 (h.rcE fr to_ spd=0∧∃ (ls:List Nat) (pl:List PL) (a:Option Addr) (c:Nat),lls pl=ls.map Zs∧pl.length≤8∧pl.length≤c∧(∀ l∈ls,l<2 ^ h.gaps.length)∧RunP h.gaps (msk to_) spd.toNat (msk fr) 0 ls∧Lst (Pl h.gaps (msk to_) spd.toNat (msk fr) 0) (Z9L h.gaps ls)∧v = .tuple #[.slice a pl.length c,.int .i64 0]∧R'=RowsA a 1 (Zg pl)::Inn pl::R))
theorem ZdO {h:Hse} {fr to_:List Int} {spd:Int} (he:h.rcE fr to_ spd=0):h.Bot fr to_∧0≤spd∧spd≤10:=by
 unfold Hse.rcE at he
 by_cases h1:h.botE fr to_=0
 · rw [decide_eq_false (fun e=>e h1),cond_false] at he
   cases h2:inB spd 0 10 with
   | false=>rw [h2] at he;cases he
   | true=>exact ⟨Z0A h1,by simpa [inB] using h2⟩
 · rw [decide_eq_true h1,cond_true] at he;exact absurd he h1
theorem Seg.lt {gs:List Gp} {K sp:Nat} (hw:Wth gs 7):∀ {ls:List Nat} {m c m' c':Nat},Seg gs K sp m c ls m' c'→m<2 ^ 7→c<2 ^ gs.length→m'<2 ^ 7∧c'<2 ^ gs.length
 | [],m,c,m',c',⟨h1,h2⟩,h3,h4=>by subst h1;subst h2;exact ⟨h3,h4⟩
 | l::ls,m,c,m',c',⟨h1,h2⟩,h3,h4=>Seg.lt hw h2 (Z3q hw h3) (Nat.or_lt_two_pow h4 h1.1)
set_option maxHeartbeats 1000000 in
theorem Z8c (h:Hse) (ag as_:Option Addr) (cg cs:Nat) (hlg:h.gaps.length≤9223372036854775807) (hls:h.sights.length≤9223372036854775807) (fr to_:List Int) (af at_:Option Addr) (cf ct:Nat) (hlf:fr.length≤1000000) (hlt:to_.length≤1000000) (hfc:fr.length≤cf) (htc:to_.length≤ct) (spd:Int) (H:Zf) (R:Z6) [hG:MemRows ag 2 (Z7 h.gaps) R] [hS:MemRows as_ 3 (Z8 h.sights) R] [hF:MemRows af 1 (Z3 fr) R] [hT:MemRows at_ 1 (Z3 to_) R] :
    Fn Tryz.prog 9 [h.v (h.sg ag cg) (h.ss as_ cs),.slice af fr.length cf,.slice at_ to_.length ct,.int .i64 spd] H R (Zjk h fr to_ spd H R):=by
 refine Zl Tryz.func9 rfl Tryz.ntmps9 rfl ?_
 refine sqt 3 rfl (bx rfl rfl rfl (fun b4=>pur 2 rfl (sqt 10 rfl (spL rfl rfl (lhA (htl h (h.sg ag cg) (h.ss as_ cs)) ZA rfl rfl rfl) rfl (pur 3 rfl ?_)))))
 refine cl rfl ZhZ rfl rfl (Zat h ag as_ cg cs hlg hls fr to_ af at_ cf ct hlf hlt hfc htc spd _ _) ?_
 rintro _ _ R1 (⟨hre,rfl,rfl,hR1⟩ | ⟨hre,bd,br,mm,rfl,rfl,hR1⟩)<;>obtain rfl:=hR1.symm<;>clear hR1
 refine pur 5 rfl (Z0 (sqt 2 rfl (pur 2 rfl ?_)))
 refine Z1 rfl ?_ ?_<;>intro hc0
 refine sqt 3 rfl (pur 3 rfl (Z5 ?_))
 exact rtB rfl rfl rfl rfl ⟨rfl,.inl ⟨hre,rfl,rfl⟩⟩ (fun w h9=>h9.del b4)
 exact absurd hc0 (by simp [hre])
 refine pur 5 rfl (Z0 (sqt 2 rfl (pur 2 rfl ?_)))
 refine Z1 rfl ?_ ?_<;>intro hc0
 exact absurd hc0 (by simp)
 obtain ⟨hb,hs0,hs10⟩:=ZdO hre
 obtain ⟨q1,q2,q3,q4,q5,q6⟩:=ZV hb
 have hok:=hb.ok
 have hgl:=hok.gl
 have hw7:Wth h.gaps 7:=fun g hg=>by have:=hok.gaps g hg;have:=hok.bins;omega
 have hS7:msk fr<2 ^ 7:=Z0Y fun x hx=>q1 x hx
 have hK7:msk to_<2 ^ 7:=Z0Y fun x hx=>q2 x hx
 have htwo:Two h.gaps (msk fr) (msk to_):=⟨hw7,fun i g hg=>by have:=hok.gaps g (List.mem_of_getElem? hg);omega,hS7,hK7,fun v hv=>by
   cases hk:(msk to_).testBit v with
   | false=>rfl
   | true=>exact absurd ((ZK (fun k hk=>(q2 k hk).1) v).1 hk) (hb.no _ ((ZK (fun k hk=>(q1 k hk).1) v).1 hv))⟩
 have hK:(rcD h ag as_ cg cs to_ spd bd br mm).K<2 ^ 7:=hK7
 have hsp:(rcD h ag as_ cg cs to_ spd bd br mm).sp≤1000:=by show spd.toNat≤1000;omega
 refine Z2 (Z0 (sqt 8 rfl (pur 1 rfl (sp rfl (PE.nilCheck rfl) rfl (sp rfl (PE.fA Zb4 rfl) rfl (spL rfl rfl (lfB (sz:=4) Z9B rfl) rfl (pur 2 rfl ?_)))))))
 refine cl rfl ZhW rfl rfl (Zhl (dkA h ag as_ cg cs bd) (Z0l h ag as_ cg cs hb.ok bd) fr to_ af at_ cf ct q1 q2 q3 (by omega) hb.no _ _) ?_
 rintro _ _ R1 ⟨fl,V,a,c,hfl,hfw,hsh,rfl,hcc,rfl,hR1⟩
 obtain rfl:=hR1.symm
 clear hR1
 have hop:=ZaR h ag as_ cg cs bd
 rw [hop] at hsh
 have hCM:ZfV (dkA h ag as_ cg cs bd).h.gaps (dkA h ag as_ cg cs bd).cl (Z1F V)=Z1C (Z1F V) h.gaps:=Z6J _ _
 rw [hCM] at hcc ⊢
 obtain ⟨hcut,hshut⟩:=Shn.cut htwo hsh hfw
 obtain ⟨CU,hCU⟩:∃ CU,CU=Z1C (Z1F V) h.gaps:=⟨_,rfl⟩
 have hcl:=ZaQ (Z1F V) h.gaps
 have hcn:=Z8p (Z1F V) h.gaps
 have hcm:=Z6K hgl (Z1F V)
 rw [← hCU] at hcc hcut hshut hcl hcn hcm ⊢
 refine pur 1 rfl (sqt 4 rfl (pur 1 rfl (sp rfl (PE.lenSl Zy rfl) rfl (pur 2 rfl ?_))))
 refine Z1 rfl ?_ ?_<;>intro hc1<;>try simp only [cS] at hc1
 refine sqt 4 rfl (pur 1 rfl ?_)
 refine bsl (out:=[_]) rfl Z7T Z5c rfl rfl rfl rfl rfl rfl (fun b40=>?_)
 refine pur 2 rfl (Z5 ?_)
 refine Sy.heap (fun w h9=>St.rows (sz:=1) (rows:=Zg [⟨a,c,CU⟩]) (rest:=[]) (h9.pull b40) (by simp [Zg,Z3j])) ?_
 refine Sy.heap (fun w h9=>St.inn0 h9) ?_
 refine Sy.heap (fun w h9=>(show St _ (Inn [⟨a,c,CU⟩]::_) w from St.innSnoc (l:=[]) ⟨a,c,CU⟩ h9)) ?_
 exact rtB rfl rfl rfl rfl ⟨rfl,.inr (.inr ⟨hre,[msk CU],[⟨a,c,CU⟩],some ⟨b40,0,none⟩,1,by show [CU]=[Zs (msk CU)];rw [hcm],by show 1≤8;decide,Nat.le_refl _,fun l hl=>by rw [List.mem_singleton.1 hl];exact hcl,RunP.once hshut hcl (by omega),by show Lst _ (cnt _ _+0);rw [hcn];exact Cut.plan hw7 hS7 hcut (by omega),rfl,rfl⟩)⟩ (fun w h9=>St.sub ((h9.del mm).del b4))
 refine Z2 (sqt 5 rfl (pur 1 rfl ?_))
 refine clV rfl ZcV rfl rfl (ZcQ fr (fun k hk=>by have:=q1 k hk;omega) hlf af cf _ _) ?_
 refine sp rfl (PE.build (out:=[_,_]) ZeN Z9d rfl rfl) rfl (alc rfl Z9d rfl (fun b13=>?_))
 refine ZG (l':=plc (msk fr) (0)) rfl rfl rfl Zes rfl rfl rfl rfl (nl rfl) ?_
 refine Z0 (sqt 4 rfl (pur 1 rfl ?_))
 refine Z0p mm ?_
 refine spL rfl rfl (lhA (plc (msk fr) 0) Z43 rfl rfl rfl) rfl ?_
 refine cl rfl ZcW rfl rfl (Zac (rcD h ag as_ cg cs to_ spd bd br mm) (Z0l h ag as_ cg cs hb.ok bd) hK hsp 128 (msk fr) (0) [] _ _ hS7 (by decide) (by omega) (Memo.nil _ _ _)) ?_
 rintro _ _ R1 ⟨n,l0,lost,kv,rfl,hbs,hme,rfl,hR1⟩
 obtain rfl:=hR1.symm
 clear hR1
 rw [show svv n l0 lost = .agg (svl n l0 lost).toArray from rfl]
 refine sp rfl (PE.fieldV (vs:=svl n l0 lost) (show fTy Tryz.prog 98 2=some (4,2) from by kernel_rfl) sc4 rfl rfl) rfl ?_
 refine Z1 rfl ?_ ?_<;>intro hc2
 obtain rfl:lost=true:=hc2
 have hnp:=(hbs.resolve_right (fun h=>by cases h.1)).2.2.2
 refine sqt 2 rfl (pur 2 rfl (Z5 ?_))
 exact rtB rfl rfl rfl rfl ⟨rfl,.inr (.inl ⟨hre,hnp,rfl,rfl⟩)⟩ (fun w h9=>St.sub (((h9.del mm).del b13).del b4))
 obtain rfl:lost=false:=hc2
 have hls:=(hbs.resolve_left (fun h=>by cases h.1)).2.2.1
 clear hbs
 refine Z2 (sqt 1 rfl (pur 1 rfl (Z4 ?_)))
 skip
 refine Sy.heap (fun w h9=>St.inn0 h9) ?_
 refine Ze (ι:=(x:{x:List Nat×List PL×Nat×Nat×KV // lls x.2.1=x.1.map Zs∧(∀ l∈x.1,l<2 ^ h.gaps.length)∧Seg h.gaps (msk to_) spd.toNat (msk fr) 0 x.1 x.2.2.1 x.2.2.2.1∧x.1.length≤cnt 7 x.2.2.1∧(∃ k,Lst (Pl h.gaps (msk to_) spd.toNat x.2.2.1 x.2.2.2.1) k∧Lst (Pl h.gaps (msk to_) spd.toNat (msk fr) 0) (Z9L h.gaps x.1+k))∧Memo h.gaps (msk to_) spd.toNat x.2.2.2.2})×OSl 22 1 (Zg x.1.2.1)) (fun y=>⟨[(4,.pointer (some ⟨b4,0,none⟩)),(10,.pointer (some ⟨br,0,none⟩)),(13,.pointer (some ⟨b13,0,none⟩)),(14,y.2.fs)],y.2.G++((mm,Z0Q true y.1.1.2.2.2.2)::(b13,cel 96 (plc y.1.1.2.2.1 y.1.1.2.2.2.1))::(b4,cel 27 (htl h (h.sg ag cg) (h.ss as_ cs)))::H),Inn y.1.1.2.1::RowsA (some ⟨br,0,none⟩) 4 [(rcD h ag as_ cg cs to_ spd bd br mm).row]::RowsA (some ⟨bd,0,none⟩) 4 [(dkA h ag as_ cg cs bd).row]::R⟩) (fun y=>128-y.1.1.2.2.1) ⟨⟨([],[],msk fr,0,kv),rfl,(fun l hl=>by cases hl),⟨rfl,rfl⟩,Nat.zero_le _,⟨n,hls,by show Lst _ (0+n);rw [Nat.zero_add];exact hls⟩,hme⟩,OSl.nil _ _⟩ ?_ (fun y=>?_)
 exact Zi (fun w h9=>St.sub h9)
 clear hme hls
 obtain ⟨⟨⟨ls,pl,m,c,kv⟩,hll,hlb,hseg,hlm,⟨k,hk,hN⟩,hme⟩,o⟩:=y
 dsimp only at hll hlb hseg hlm hk hN hme o ⊢
 have hmc:=hseg.lt hw7 hS7 (Nat.two_pow_pos _)
 have hm7:=hmc.1
 have hm128:m<128:=hm7
 have hc10:c<2 ^ 10:=Nat.lt_of_lt_of_le hmc.2 (Nat.pow_le_pow_right (by decide) hgl)
 have hc79:=Z1O 7 m
 have hpl:pl.length=ls.length:=by have:=congrArg List.length hll;rw [Z04,List.length_map] at this;exact this
 refine Z4 (sqt 5 rfl (pur 1 rfl (spL rfl rfl (lhA (plc m c) Z43 rfl rfl rfl) rfl ?_)))
 refine Z0p mm ?_
 refine cl rfl ZcW rfl rfl (Zac (rcD h ag as_ cg cs to_ spd bd br mm) (Z0l h ag as_ cg cs hb.ok bd) hK hsp 128 (m) (c) kv _ _ hm7 hc10 (by omega) hme) ?_
 rintro _ _ R1 ⟨n9,l,lost,kv2,rfl,hbs,hme2,rfl,hR1⟩
 obtain rfl:=hR1.symm
 clear hR1
 obtain ⟨hlo,hn10,hlst,hcnd⟩:=hbs.resolve_left (fun h=>h.2.2.2 k hk.1)
 obtain rfl:=hlo
 have hnk:=hlst.unique hk
 have hwk:=hcnd.wk
 have hl10:l<2 ^ 10:=Nat.lt_of_lt_of_le hwk.1 (Nat.pow_le_pow_right (by decide) hgl)
 have hc210:=Zbw hc10 hl10
 refine alc rfl Zcn rfl (fun b15=>?_)
 refine ZG (l':=svl n9 l false) rfl rfl rfl Z4b rfl rfl rfl rfl (nl rfl) ?_
 refine sqt 7 rfl (pur 1 rfl (sp rfl (PE.fA Zb6 rfl) rfl (spL rfl rfl (lh sc3 rfl rfl) rfl ?_)))
 refine cl rfl Zi0 rfl rfl (Zee l hl10 _ _) ?_
 rintro _ _ _ ⟨o9,rfl,rfl,rfl⟩
 obtain ⟨ao,co,heo,hfz⟩:=o9.freeze
 rw [heo,irl]
 refine Sy.heap (fun w h=>hfz h) ?_
 clear hfz heo
 refine bsl (out:=[_]) rfl Z7T Z5c rfl rfl rfl rfl rfl rfl (fun b55=>?_)
 refine apO (o) rfl Zh6 rfl rfl (Z02 (row:=Z3j ⟨ao,co,Zs l⟩) rfl) rfl rfl ((by rw [Zt];simp only [List.length_singleton];omega)) rfl (fun o56=>?_)
 refine pur 1 rfl (Z0 ?_)
 refine Zo [0,0,2,0,8,0,32,120,254,511,0,1024,0,4096,15360,32767,0,131071] (.tk 0 (.tk 1 (.ld 2 (.tk 3 (.ld 4 (.tk 5 (.ld 6 (.tk 7 (.tk 8 (.tk 10 (.ld 11 (.tk 12 (.ld 13 (.tk 14 (.any (.alt 9 (.tk 15 (.big 16 (.big 17 .done))) (.alt 16 (.big 9 (.tk 15 (.big 17 .done))) .stop))))))))))))))))) ZF (by kernel_rfl) ?_
 refine Sy.heap (fun w h=>St.innSnoc (l:=pl) ⟨ao,co,Zs l⟩ h) ?_
 refine Zu 1 rfl (tk rfl (PE.fA Z0s rfl) rfl (ld rfl rfl (lh sc3 rfl rfl) rfl (tk rfl (PE.fA Z3V rfl) rfl (ld rfl rfl (lh sc3 rfl rfl) rfl (tk rfl (PE.fA Zb6 rfl) rfl (ld rfl rfl (lh sc3 rfl rfl) rfl (tk rfl (PE.orN (m:=c) (n:=l) rfl rfl (Zcq hc10 (Nat.le_refl _)) (Zcq hl10 (Nat.le_refl _))) rfl (tk rfl (PE.build (out:=[_,_]) ZeN Z9d rfl rfl) rfl (tk rfl (PE.fA Z3V rfl) rfl (ld rfl rfl (lh sc3 rfl rfl) rfl (tk rfl (PE.fA Zb6 rfl) rfl (ld rfl rfl (lh sc3 rfl rfl) rfl (tk rfl (PE.orN (m:=c) (n:=l) rfl rfl (Zcq hc10 (Nat.le_refl _)) (Zcq hl10 (Nat.le_refl _))) rfl ?_)))))))))))))
 refine Z0u ?_ ?_
 refine clV rfl Z9k rfl rfl (Z2y (rcD h ag as_ cg cs to_ spd bd br mm) (Z0l h ag as_ cg cs hb.ok bd) m (c|||l) hm7 hc210 _ _) ?_
 refine bg (fun w hs=>⟨(lh sc3 rfl rfl) w hs,(lh sc3 rfl rfl) w hs,trivial,trivial,trivial,trivial⟩) ?_
 refine tk rfl (PE.build (out:=[_,_]) ZeN Z9d rfl rfl) rfl (alc rfl Z9d rfl (fun b16=>?_))
 refine bg (fun w hs=>⟨(lh sc3 rfl rfl) w hs,(lh sc3 rfl rfl) w hs,trivial⟩) ?_
 refine ZG (l':=plc ((spr h.gaps (c|||l) m)) ((c|||l))) rfl rfl rfl Zes rfl rfl rfl rfl (nl rfl) ?_
 refine bgT (Z0 (sqt 5 rfl (sp rfl (PE.fA Z0s rfl) rfl (spL rfl rfl (lh sc3 rfl rfl) rfl (sp rfl (PE.fA Z0s rfl) rfl (spL rfl rfl (lh sc3 rfl rfl) rfl (pur 1 rfl ?_)))))))
 refine Z1 rfl ?_ ?_<;>intro hc3<;>try simp only [cS] at hc3
 have he2:(spr h.gaps (c|||l) m)=m:=by omega
 have hnl:n9=cnt h.gaps.length l:=by
   rcases hcnd.2.2.2 with ⟨_,h5⟩ | ⟨h5,_⟩
   · exact h5
   · exact absurd he2 h5
 obtain ⟨ac,cc,hfe,hcc9,hff⟩:=(o56.cast (Z1Q pl ⟨ao,co,Zs l⟩)).freezeC
 rw [Zt] at hcc9 hfe
 rw [show o56.fs=_ from hfe]
 refine Sy.heap (fun w h=>hff (St.pullG o56.G h)) ?_
 refine sqt 3 rfl (pur 3 rfl (Z5 ?_))
 exact rtB rfl rfl rfl rfl ⟨rfl,.inr (.inr ⟨hre,ls++[l],pl++[⟨ao,co,Zs l⟩],ac,cc,by rw [Z3G,hll,List.map_append];rfl,by rw [List.length_append,List.length_singleton];omega,hcc9,fun x hx=>(List.mem_append.1 hx).elim (hlb x) (fun h=>by rw [List.mem_singleton.1 h];exact hwk.1),RunP.stop hseg hcnd he2,by rw [Z2r,← hnl,hnk];exact hN,rfl,rfl⟩)⟩ (fun w h9=>St.sub (((((h9.del b16).del b55).del b15).del mm).del b13 |>.del b4))
 have he2:(spr h.gaps (c|||l) m)≠m:=by omega
 have hgr:=Z4j he2
 have hcg9:=Z8n hw7 hm7 he2
 obtain ⟨k2,hn2,hk2⟩:∃ k2,n9=cnt h.gaps.length l+k2∧Lst (Pl h.gaps (msk to_) spd.toNat (spr h.gaps (c|||l) m) (c|||l)) k2:=by
   rcases hcnd.2.2.2 with ⟨h5,_⟩ | ⟨_,k2,h6,h7⟩
   · exact absurd h5 he2
   · exact ⟨k2,h6,h7⟩
 refine Z2 (sqr 2 rfl (spL rfl rfl (lhA (plc (spr h.gaps (c|||l) m) (c|||l)) Z43 rfl rfl rfl) rfl ?_))
 refine ZG (l':=plc ((spr h.gaps (c|||l) m)) ((c|||l))) rfl rfl rfl Zes rfl rfl rfl rfl (nl rfl) ?_
 exact Zb ⟨⟨(ls++[l],pl++[⟨ao,co,Zs l⟩],(spr h.gaps (c|||l) m),(c|||l),kv2),by rw [Z3G,hll,List.map_append];rfl,fun x hx=>(List.mem_append.1 hx).elim (hlb x) (fun h=>by rw [List.mem_singleton.1 h];exact hwk.1),hseg.snoc hwk,by dsimp only;rw [List.length_append,List.length_singleton];omega,⟨k2,hk2,by dsimp only;rw [Z2r,Nat.add_assoc,← hn2,hnk];exact hN⟩,hme2⟩,o56.cast (Z1Q pl ⟨ao,co,Zs l⟩)⟩ (fun w h=>St.sub ((((h.del b16).del b55).del b15).perm (ZI [_] o56.G _)))
 refine Z0u ?_ ?_
 refine alc rfl Z9d rfl (fun b16=>?_)
 refine bg (fun w hs=>⟨(lh sc3 rfl rfl) w hs,(lh sc3 rfl rfl) w hs,(lh sc3 rfl rfl) w hs,(lh sc3 rfl rfl) w hs,(lh sc3 rfl rfl) w hs,trivial⟩) ?_
 refine clV rfl Z9k rfl rfl (Z2y (rcD h ag as_ cg cs to_ spd bd br mm) (Z0l h ag as_ cg cs hb.ok bd) m (c|||l) hm7 hc210 _ _) ?_
 refine bg (fun w hs=>⟨(lh sc3 rfl rfl) w hs,(lh sc3 rfl rfl) w hs,trivial,trivial,trivial,trivial⟩) ?_
 refine tk rfl (PE.build (out:=[_,_]) ZeN Z9d rfl rfl) rfl ?_
 refine ZG (l':=plc ((spr h.gaps (c|||l) m)) ((c|||l))) rfl rfl rfl Zes rfl rfl rfl rfl (nl rfl) ?_
 refine bgT (Z0 (sqt 5 rfl (sp rfl (PE.fA Z0s rfl) rfl (spL rfl rfl (lh sc3 rfl rfl) rfl (sp rfl (PE.fA Z0s rfl) rfl (spL rfl rfl (lh sc3 rfl rfl) rfl (pur 1 rfl ?_)))))))
 refine Z1 rfl ?_ ?_<;>intro hc3<;>try simp only [cS] at hc3
 have he2:(spr h.gaps (c|||l) m)=m:=by omega
 have hnl:n9=cnt h.gaps.length l:=by
   rcases hcnd.2.2.2 with ⟨_,h5⟩ | ⟨h5,_⟩
   · exact h5
   · exact absurd he2 h5
 obtain ⟨ac,cc,hfe,hcc9,hff⟩:=(o56.cast (Z1Q pl ⟨ao,co,Zs l⟩)).freezeC
 rw [Zt] at hcc9 hfe
 rw [show o56.fs=_ from hfe]
 refine Sy.heap (fun w h=>hff (St.pullG o56.G h)) ?_
 refine sqt 3 rfl (pur 3 rfl (Z5 ?_))
 exact rtB rfl rfl rfl rfl ⟨rfl,.inr (.inr ⟨hre,ls++[l],pl++[⟨ao,co,Zs l⟩],ac,cc,by rw [Z3G,hll,List.map_append];rfl,by rw [List.length_append,List.length_singleton];omega,hcc9,fun x hx=>(List.mem_append.1 hx).elim (hlb x) (fun h=>by rw [List.mem_singleton.1 h];exact hwk.1),RunP.stop hseg hcnd he2,by rw [Z2r,← hnl,hnk];exact hN,rfl,rfl⟩)⟩ (fun w h9=>St.sub (((((h9.del b16).del b55).del b15).del mm).del b13 |>.del b4))
 have he2:(spr h.gaps (c|||l) m)≠m:=by omega
 have hgr:=Z4j he2
 have hcg9:=Z8n hw7 hm7 he2
 obtain ⟨k2,hn2,hk2⟩:∃ k2,n9=cnt h.gaps.length l+k2∧Lst (Pl h.gaps (msk to_) spd.toNat (spr h.gaps (c|||l) m) (c|||l)) k2:=by
   rcases hcnd.2.2.2 with ⟨h5,_⟩ | ⟨_,k2,h6,h7⟩
   · exact absurd h5 he2
   · exact ⟨k2,h6,h7⟩
 refine Z2 (sqr 2 rfl (spL rfl rfl (lhA (plc (spr h.gaps (c|||l) m) (c|||l)) Z43 rfl rfl rfl) rfl ?_))
 refine ZG (l':=plc ((spr h.gaps (c|||l) m)) ((c|||l))) rfl rfl rfl Zes rfl rfl rfl rfl (nl rfl) ?_
 exact Zb ⟨⟨(ls++[l],pl++[⟨ao,co,Zs l⟩],(spr h.gaps (c|||l) m),(c|||l),kv2),by rw [Z3G,hll,List.map_append];rfl,fun x hx=>(List.mem_append.1 hx).elim (hlb x) (fun h=>by rw [List.mem_singleton.1 h];exact hwk.1),hseg.snoc hwk,by dsimp only;rw [List.length_append,List.length_singleton];omega,⟨k2,hk2,by dsimp only;rw [Z2r,Nat.add_assoc,← hn2,hnk];exact hN⟩,hme2⟩,o56.cast (Z1Q pl ⟨ao,co,Zs l⟩)⟩ (fun w h=>St.sub ((((h.del b16).del b55).del b15).perm (ZI [_] o56.G _)))
 exact Z1G
theorem Zj7:cal Tryz.prog 9=true:=by kernel_rfl
def Zkv (h:Hse) (fr to_:List Int) (H:Zf) (R:Z6):Value→Zf→Z6→Prop:=fun v H' R'=>H'=H∧R'=R∧((h.botE fr to_≠0∧v = .tuple #[.int .i64 0,.int .i64 (h.botE fr to_)]) ∨
 (h.botE fr to_=0∧∃ s:Nat,s≤10∧(∃ n,Pl h.gaps (msk to_) s (msk fr) 0 n)∧(∀ s',s'<s→∀ n,¬ Pl h.gaps (msk to_) s' (msk fr) 0 n)∧v = .tuple #[.int .i64 (s:Int),.int .i64 0]))
theorem ZbF {h:Hse} {fr to_:List Int} {s:Nat} (hb:h.botE fr to_=0) (hs:s≤10):h.rcE fr to_ (s:Int)=0:=by
 have:inB (s:Int) 0 10=true:=by simp [inB];omega
 unfold Hse.rcE;rw [hb,this];rfl
theorem Z3x {h:Hse} {fr to_:List Int} (hb:h.Bot fr to_):Two h.gaps (msk fr) (msk to_):=by
 obtain ⟨q1,q2,q3,q4,q5,q6⟩:=ZV hb
 have hok:=hb.ok
 exact ⟨fun g hg=>by have:=hok.gaps g hg;have:=hok.bins;omega,fun i g hg=>by have:=hok.gaps g (List.mem_of_getElem? hg);omega,Z0Y fun x hx=>q1 x hx,Z0Y fun x hx=>q2 x hx,fun v hv=>by
   cases hk:(msk to_).testBit v with
   | false=>rfl
   | true=>exact absurd ((ZK (fun k hk=>(q2 k hk).1) v).1 hk) (hb.no _ ((ZK (fun k hk=>(q1 k hk).1) v).1 hv))⟩
theorem Z5F {h:Hse} {fr to_:List Int} (hb:h.Bot fr to_):∃ n,Pl h.gaps (msk to_) 10 (msk fr) 0 n:=by
 have ht:=Z3x hb
 have hp:=Nat.two_pow_pos h.gaps.length
 exact ⟨_,Pl.once ht.w ht.s (show 2 ^ h.gaps.length-1<2 ^ h.gaps.length by omega) (Z93 ht) (Nat.le_trans (Z1O _ _) hb.ok.gl)⟩
set_option maxHeartbeats 400000 in
theorem Za8 (h:Hse) (ag as_:Option Addr) (cg cs:Nat) (hlg:h.gaps.length≤9223372036854775807) (hls:h.sights.length≤9223372036854775807) (fr to_:List Int) (af at_:Option Addr) (cf ct:Nat) (hlf:fr.length≤1000000) (hlt:to_.length≤1000000) (hfc:fr.length≤cf) (htc:to_.length≤ct) (H:Zf) (R:Z6) [hG:MemRows ag 2 (Z7 h.gaps) R] [hS:MemRows as_ 3 (Z8 h.sights) R] [hF:MemRows af 1 (Z3 fr) R] [hT:MemRows at_ 1 (Z3 to_) R] :
    Fn Tryz.prog 28 [h.v (h.sg ag cg) (h.ss as_ cs),.slice af fr.length cf,.slice at_ to_.length ct] H R (Zkv h fr to_ H R):=by
 refine Zl Tryz.func28 rfl Tryz.ntmps28 rfl ?_
 refine sqt 3 rfl (bx rfl rfl rfl (fun b3=>pur 2 rfl (Z0 (sqt 5 rfl (spL rfl rfl (lhA (htl h (h.sg ag cg) (h.ss as_ cs)) ZA rfl rfl rfl) rfl (pur 2 rfl ?_))))))
 refine clV rfl Z9j rfl rfl (Z5h h ag as_ cg cs hlg hls fr to_ af at_ cf ct (by omega) (by omega) hfc htc _ _) ?_
 refine pur 1 rfl (sqt 2 rfl (pur 2 rfl ?_))
 refine Z1 rfl ?_ ?_<;>intro hc0
 have hbe:h.botE fr to_≠0:=of_decide_eq_true hc0
 refine sqt 3 rfl (pur 3 rfl (Z5 ?_))
 exact rtB rfl rfl rfl rfl ⟨rfl,rfl,.inl ⟨hbe,rfl⟩⟩ (fun w h9=>h9.del b3)
 ·
  have hbe:h.botE fr to_=0:=Classical.byContradiction fun e=>by rw [decide_eq_true e] at hc0;cases hc0
  have hb:=Z0A hbe
  obtain ⟨n0,hn0⟩:=Z5F hb
  refine Z2 (sqt 1 rfl (pur 1 rfl (Z4 ?_)))
  refine Ze (ι:={s:Nat // s≤10∧∀ s',s'<s→∀ n,¬ Pl h.gaps (msk to_) s' (msk fr) 0 n}) (fun s=>⟨[(1,.slice af fr.length cf),(2,.slice at_ to_.length ct),(3,.pointer (some ⟨b3,0,none⟩)),(9,.int .i64 (s.1:Int))],(b3,cel 27 (htl h (h.sg ag cg) (h.ss as_ cs)))::H,R⟩) (fun s=>11-s.1) ⟨0,by omega,fun s' h9=>absurd h9 (Nat.not_lt_zero _)⟩ ?_ (fun s=>?_)
  exact Zi idH
  ·
   obtain ⟨s,hs,hno⟩:=s
   dsimp only at hs hno ⊢
   have hrz:=ZbF hbe hs
   refine Z0 (Z4 (sqt 10 rfl (spL rfl rfl (lhA (htl h (h.sg ag cg) (h.ss as_ cs)) ZA rfl rfl rfl) rfl (pur 3 rfl ?_))))
   refine cl rfl Zj7 rfl rfl (Z8c h ag as_ cg cs hlg hls fr to_ af at_ cf ct hlf hlt hfc htc (s:Int) _ _) ?_
   rintro _ _ R1 ⟨rfl,hq⟩
   rcases hq with ⟨h9,_⟩ | ⟨_,hnp,rfl,hR1⟩ | ⟨_,ls,pl,a,c,_,_,_,_,_,hls2,rfl,hR1⟩
   · exact absurd hrz h9
   all_goals obtain rfl:=hR1.symm
   all_goals clear hR1
   all_goals rw [Int.toNat_natCast] at *
   refine pur 5 rfl (sqt 2 rfl (pur 2 rfl ?_))
   refine Z1 rfl ?_ ?_<;>intro hc1
   exact absurd hc1 (by decide)
   have hs10:s≠10:=fun e=>hnp n0 (by rw [e];exact hn0)
   refine Z2 (sqr 3 rfl (pur 1 rfl (sp rfl (PE.add rfl rfl (by omega)) rfl (pur 1 rfl ?_))))
   exact Zb ⟨s+1,by omega,fun s' h9=>(Nat.lt_succ_iff_lt_or_eq.1 h9).elim (hno s') (fun e=>by subst e;exact hnp)⟩ idH
   refine pur 5 rfl (sqt 2 rfl (pur 2 rfl ?_))
   refine Z1 rfl ?_ ?_<;>intro hc1
   refine sqt 3 rfl (pur 3 rfl (Z5 ?_))
   exact rtB rfl rfl rfl rfl ⟨rfl,rfl,.inr ⟨hbe,s,hs,⟨_,hls2.1⟩,hno,rfl⟩⟩ (fun w h9=>St.sub (h9.del b3))
   exact absurd hc1 (by decide)
theorem ZhD:cal Tryz.prog 123=true:=by kernel_rfl
theorem ik3:Zk4 Tryz.prog 3=some .i64:=by kernel_rfl
section steps
variable {P:Program} {r:Option Nat} {ops:Array Oper} {n:Nat} {L:Zv} {D:List Deferred} {H:Zf} {R:Z6} {K:Act→World→Prop}
 {i d:Nat} {ty:TypeId} {pos:String} {af:Array Edge}
theorem ZkB {t tn e sz by_ k:Nat} {kq kn:IntKind} {s x:Operand} {zl:List Value} (ho:ops[i]?=some ⟨some d,.call { callee:=.builtin .append,args := #[s,x],argTypes := #[t,tn] },ty,pos,af,none⟩)
   (ht:apT P t=some (e,sz,by_)) (htn:Zk4 P tn=some kn) (hz:Z09 P e=some zl) (hs:ev L s=some (.slice none 0 0)) (hx:ev L x=some (.int kq k))
   (hk:0<k) (hs0:0<sz) (hb:k*by_≤140737488355328∧k≤9223372036854775807) (hd:Nat.blt d n=true)
   (h:∀ (b' cap':Nat) (junk:List Value),k≤cap'→cap'≤9223372036854775807→k*sz+junk.length=cap'*sz→Sy n ((d,.slice (some ⟨b',0,none⟩) k cap')::L) D ((b',cel e (Z0q k zl++junk))::H) R K):Sy n L D H R (stp P r ops i K):=fun a w ha hD hw=>by
 unfold apT at ht
 split at ht
 case h_2=>cases ht
 rename_i e' hu
 split at ht
 case h_2=>cases ht
 rename_i ie hi
 split at ht
 case h_2=>cases ht
 rename_i z hzz
 cases hzs:Nat.beq z.cells.size ie.size with
 | false=>rw [hzs] at ht;cases ht
 | true =>
 rw [hzs,cond_true] at ht
 cases ht
 have hzs:=Nat.eq_of_beq_eq_true hzs
 have hzl:z.cells.toList=zl:=by
   have:Z09 P e=some z.cells.toList:=by simp [Z09,hi,hzz]
   rw [this] at hz;exact Option.some.inj hz
 have hun:P.underlying tn=some (.int kn):=by
   unfold Zk4 at htn
   split at htn
   · rename_i q hq;cases htn;exact hq
   · cases htn
 have hold:(Builtin.firstCells ie.size 0 (.slice none 0 0)).run P w.drew = .ok ([]:List Value).toArray w.drew:=by
   simp [Builtin.firstCells,Sem.run_pure]
 have h2:=Lib.run_append_grow_zeros (P:=P) w t tn ty e ie z kq kn hu hun hi hzz none 0 0 [] hold k hk hs0 (by omega) (by omega) (by omega) (growslice_fits (by omega) (by rw [Nat.zero_add];exact hb.1))
 rw [Nat.zero_add] at h2
 have hge:=grownCap_ge w k 0 e
 have hcm:grownCap w k 0 e≤maxLen:=grownCap_le_maxLen w _ 0 e (by simp only [maxLen];omega)
 have hrep:∀ q,(Builtin.zeroCells z.cells q).toList=Z0q q zl:=fun q=>by rw [← hzl];simp [Builtin.zeroCells,Z0q]
 have e1:(.cells (([]:List Value).toArray++Builtin.zeroCells z.cells k++Builtin.zeroCells z.cells (grownCap w k 0 e-k)) e:Obj)=cel e (Z0q k zl++(Builtin.zeroCells z.cells (grownCap w k 0 e-k)).toList):=by
   unfold cel;congr 1;apply Array.toList_inj.1;simp [hrep]
 refine ZC ho (Zq _ rfl _) (v:=.slice (some ⟨w.heap.size,0,none⟩) k (grownCap w k 0 e)) (w':=w.drew.alloc (cel e (Z0q k zl++(Builtin.zeroCells z.cells (grownCap w k 0 e-k)).toList))) ?_
   (h w.heap.size (grownCap w k 0 e) (Builtin.zeroCells z.cells (grownCap w k 0 e-k)).toList hge (by simp only [maxLen] at hcm;omega) ?_ _ _ (ha.put (by simpa using hd) _) hD (hw.drew.alloc _))
 · simp only [execOp,resolve,invoke,builtin,Sem.run_bind,Sem.run_pure,Result.andThen,List.map_toArray,List.map_cons,List.map_nil,ha.reads _ _ hs,ha.reads _ _ hx]
   rw [e1] at h2
   rw [h2]
 · simp only [Array.length_toList,size_zeroCells,hzs,← Nat.add_mul]
   congr 1;omega
end steps
theorem Z6Y {k:Nat} {v:Value}:(Z0q k [v]).length=k:=by simp [Z0q]
def Z2h (pl:List PL) (k:Nat):List Int:=(lls (pl.take k)).flatten
theorem Z1h {pl:List PL} {k:Nat} {x:PL} (h:pl[k]?=some x):Z2h pl (k+1)=Z2h pl k++x.l:=by
 unfold Z2h lls
 rw [List.take_add_one,h,Option.toList_some,List.map_append,List.flatten_append];simp
theorem Z0B (pl:List PL):∀ k,(Z2h pl k).length≤(lls pl).flatten.length:=fun k=>by
 unfold Z2h lls
 have h:pl.map (·.l)=(pl.take k).map (·.l)++(pl.drop k).map (·.l):=by rw [← List.map_append,List.take_append_drop]
 rw [h,List.flatten_append,List.length_append];omega
theorem Zfm (k:Nat) (hk:k≤1000000) (H:Zf) (R:Z6) :
    Fn Tryz.prog 123 [.slice none 0 0,.int .i64 (k:Int)] H R (fun v H' R'=>∃ o:OSl 3 1 [],v=o.fs∧H'=o.G++H∧R'=R):=by
 refine Zl Tryz.func123 rfl Tryz.ntmps123 rfl ?_
 refine sqt 1 rfl (pur 1 rfl (Z0 (sqt 2 rfl (pur 2 rfl ?_))))
 refine Z1 rfl ?_ ?_<;>intro hc0
 simp only [decide_eq_true_eq] at hc0
 omega
 refine Z2 (Z0 (sqt 8 rfl (pur 2 rfl (sp rfl (PE.capSl Zy rfl) rfl (pur 1 rfl (sp rfl (PE.lenSl Zy rfl) rfl (sp rfl (PE.sub rfl rfl (by omega)) rfl (sp rfl (PE.sub rfl rfl (by omega)) rfl ?_))))))))
 rw [show (k:Int)-(((0:Nat):Int)-((0:Nat):Int))=(k:Int) by omega]
 refine pur 1 rfl (sqt 2 rfl (pur 2 rfl ?_))
 refine Z1 rfl ?_ ?_<;>intro hc1
 try simp only [cS] at hc1
 refine sqr 10 rfl (pur 2 rfl (sp rfl (PE.capSl Zy rfl) rfl (sp rfl (PE.slHi (h:=0) Z03 rfl rfl (by omega)) rfl (pur 1 rfl ?_))))
 refine ZkB rfl Z1v ik3 zl3 rfl rfl (by omega) (by omega) (by omega) rfl (fun b2 cap2 jk2 hc1 hc2 hc3=>?_)
 refine pur 1 rfl (sp rfl (PE.lenSl Zy rfl) rfl (sp rfl (PE.slHi (h:=0) Z03 rfl rfl (by omega)) rfl (pur 1 rfl (sqt 2 rfl (pur 2 rfl (Z5 ?_))))))
 exact rtA rfl rfl rfl ⟨⟨.slice (some ⟨b2,0,none⟩) 0 cap2,[(b2,cel 3 (Z0q k [.int .i64 0]++jk2))],by simp,.inr ⟨b2,cap2,Z0q k [.int .i64 0]++jk2,rfl,rfl,by rw [List.length_append,Z6Y];simp only [List.length_nil];omega,Nat.zero_le _,hc2⟩⟩,rfl,rfl,rfl⟩ idH
 refine Z2 (sqt 2 rfl (pur 2 rfl (Z5 ?_)))
 exact rtA rfl rfl rfl ⟨OSl.nil _ _,rfl,rfl,rfl⟩ idH
set_option maxHeartbeats 400000 in
theorem Z3b (pl:List PL) (ap:Option Addr) (cp:Nat) (hpl:pl.length≤1000000) (htl:(lls pl).flatten.length≤1000000) (H:Zf) (R:Z6) [hP:MemRows ap 1 (Zg pl) R] [hI:MemF (Inn pl) R] :
    Fn Tryz.prog 81 [.slice ap pl.length cp] H R (fun v H' R'=>∃ o:OSl 3 1 (Z3 (lls pl).flatten),v=o.fs∧H'=o.G++H∧R'=R):=by
 refine Zl Tryz.func81 rfl Tryz.ntmps81 rfl ?_
 refine sqt 1 rfl (pur 1 rfl (sqt 1 rfl (pur 1 rfl (Z0 (sqt 3 rfl (pur 1 rfl (sp rfl (PE.lenSl Z0J rfl) rfl (pur 1 rfl (Z4 ?_)))))))))
 refine Ze (ι:={k:Nat // k≤pl.length}) (fun k=>⟨[(0,.slice ap pl.length cp),(3,.int .i64 ((Z2h pl k.1).length:Nat)),(9,.slice ap pl.length cp),(10,.int .i64 pl.length),(11,.int .i64 k.1)],H,R⟩) (fun k=>pl.length-k.1) ⟨0,Nat.zero_le _⟩ ?_ (fun k=>?_)
 exact Zi idH
 obtain ⟨k,hk⟩:=k
 dsimp only at hk ⊢
 have hcl:=Z0B pl k
 have hcl2:=Z0B pl (k+1)
 refine sqt 1 rfl (pur 1 rfl (Z0 ?_))
 refine Z1 rfl ?_ ?_<;>intro hc0<;>try simp only [cS] at hc0
 obtain ⟨x,hx⟩:∃ x,pl[k]?=some x:=⟨_,List.getElem?_eq_getElem (by omega)⟩
 have hst:=congrArg List.length (Z1h hx)
 rw [List.length_append] at hst
 refine Zh (a:=ap) (sz:=1) (rows:=Zg pl) (ne0 (by rw [Zt];omega)) (fun ba oa he=>?_)
 subst he
 refine Z2 (Z0 (Z4 (sqt 3 rfl (sp rfl (PE.indexAddr Z4A rfl rfl (by omega) (by omega)) rfl (spL rfl rfl (lf0 Z1t (Z0M hx) rfl) rfl (pur 1 rfl (sqt 5 rfl (pur 2 rfl (sp rfl (PE.lenSl Zy rfl) rfl (sp rfl (PE.add rfl rfl (by omega)) rfl ?_))))))))))
 rw [show ((Z2h pl k).length:Int)+(x.l.length:Int)=((Z2h pl (k+1)).length:Int) by omega]
 refine pur 1 rfl (sqt 2 rfl (pur 2 rfl ?_))
 refine Z1 rfl ?_ ?_<;>intro hc1
 simp only [decide_eq_true_eq] at hc1
 omega
 refine Z2 (sqr 2 rfl (sp rfl (PE.add rfl rfl (by omega)) rfl (pur 1 rfl ?_)))
 exact Zb ⟨k+1,by omega⟩ idH
 obtain rfl:k=pl.length:=by omega
 refine Z9 (Za (Za (Zm (sqt 3 rfl (pur 1 rfl ?_)))))
 refine cl rfl ZhD rfl rfl (Zfm (Z2h pl pl.length).length (by omega) _ _) ?_
 rintro _ _ R1 ⟨o0,rfl,rfl,hR1⟩
 obtain rfl:=hR1.symm
 clear hR1
 refine pur 1 rfl (Z0 (sqt 3 rfl (pur 1 rfl (sp rfl (PE.lenSl Z0J rfl) rfl (pur 1 rfl (Z4 ?_))))))
 refine Ze (ι:=(k:{k:Nat // k≤pl.length})×OSl 3 1 (Z3 (Z2h pl k.1))) (fun y=>⟨[(6,y.2.fs),(25,.slice ap pl.length cp),(26,.int .i64 pl.length),(27,.int .i64 y.1.1)],y.2.G++H,R⟩) (fun y=>pl.length-y.1.1) ⟨⟨0,Nat.zero_le _⟩,o0⟩ ?_ (fun y=>?_)
 exact Zi idH
 obtain ⟨⟨k,hk⟩,o⟩:=y
 dsimp only at hk o ⊢
 have hcl:=Z0B pl k
 have hcl2:=Z0B pl (k+1)
 refine sqt 1 rfl (pur 1 rfl (Z0 ?_))
 refine Z1 rfl ?_ ?_<;>intro hc2<;>try simp only [cS] at hc2
 obtain ⟨x,hx⟩:∃ x,pl[k]?=some x:=⟨_,List.getElem?_eq_getElem (by omega)⟩
 have hst:=Z1h hx
 have hsl:=congrArg List.length hst
 rw [List.length_append] at hsl
 refine Zh (a:=ap) (sz:=1) (rows:=Zg pl) (ne0 (by rw [Zt];omega)) (fun ba oa he=>?_)
 subst he
 refine Sy.heap (fun w h=>St.inn (x:=x) h (List.mem_of_getElem? hx)) ?_
 refine Z2 (Z0 (Z4 (sqt 3 rfl (sp rfl (PE.indexAddr Z4A rfl rfl (by omega) (by omega)) rfl (spL rfl rfl (lf0 Z1t (Z0M hx) rfl) rfl (pur 1 rfl (sqr 4 rfl (pur 2 rfl ?_))))))))
 refine apO (news:=Z3 x.l) o rfl Z1v rfl rfl (Z2o) (irl _) (by simp [ZO,Z3,Value.oneCell']) (by rw [irl,irl];omega) rfl (fun o33=>?_)
 refine pur 1 rfl (sqr 2 rfl (sp rfl (PE.add rfl rfl (by omega)) rfl (pur 1 rfl ?_)))
 exact Zb ⟨⟨k+1,by omega⟩,o33.cast (by rw [hst];simp [Z3])⟩ (fun w h=>h.ftail)
 obtain rfl:k=pl.length:=by omega
 refine Z9 (Za (Za (Zm (sqt 2 rfl (pur 2 rfl (Z5 ?_))))))
 exact rtA rfl rfl rfl ⟨o.cast (by unfold Z2h;rw [List.take_length]),rfl,rfl,rfl⟩ idH
theorem ZaC:cal Tryz.prog 81=true:=by kernel_rfl
def Zku (h:Hse) (fr to_:List Int) (spd:Int) (H:Zf) (R:Z6):Value→Zf→Z6→Prop:=fun v H' R'=>H'=H∧R'=R∧((h.rcE fr to_ spd≠0∧v = .tuple #[.int .i64 0,.int .i64 (h.rcE fr to_ spd)]) ∨
 (h.rcE fr to_ spd=0∧(∀ n,¬ Pl h.gaps (msk to_) spd.toNat (msk fr) 0 n)∧v = .tuple #[.int .i64 0,.int .i64 6]) ∨
 (h.rcE fr to_ spd=0∧∃ n:Nat,n≤10∧Lst (Pl h.gaps (msk to_) spd.toNat (msk fr) 0) n∧v = .tuple #[.int .i64 (n:Int),.int .i64 0]))
theorem Z6l {gs:List Gp} (hg:gs.length≤10):∀ {ls:List Nat},(∀ l∈ls,l<2 ^ gs.length)→((ls.map Zs).flatten).length=Z9L gs ls
 | [],_=>rfl
 | l::ls,h=>by
   rw [List.map_cons,List.flatten_cons,List.length_append,Z6l hg (fun x hx=>h x (List.mem_cons_of_mem _ hx)),Z2C (h l (by simp)) hg];rfl
theorem St.norows9 {sz:Nat} {H:Zf} {R:Z6} {w:World} (h:St H R w):St H (Inn []::RowsA none sz (Zg [])::R) w:=St.inn0 (St.norows (sz:=sz) h)
set_option maxHeartbeats 400000 in
theorem Z8a (h:Hse) (ag as_:Option Addr) (cg cs:Nat) (hlg:h.gaps.length≤9223372036854775807) (hls:h.sights.length≤9223372036854775807) (fr to_:List Int) (af at_:Option Addr) (cf ct:Nat) (hlf:fr.length≤1000000) (hlt:to_.length≤1000000) (hfc:fr.length≤cf) (htc:to_.length≤ct) (spd:Int) (H:Zf) (R:Z6) [hG:MemRows ag 2 (Z7 h.gaps) R] [hS:MemRows as_ 3 (Z8 h.sights) R] [hF:MemRows af 1 (Z3 fr) R] [hT:MemRows at_ 1 (Z3 to_) R] :
    Fn Tryz.prog 26 [h.v (h.sg ag cg) (h.ss as_ cs),.slice af fr.length cf,.slice at_ to_.length ct,.int .i64 spd] H R (Zku h fr to_ spd H R):=by
 refine Zl Tryz.func26 rfl Tryz.ntmps26 rfl ?_
 refine sqt 3 rfl (bx rfl rfl rfl (fun b4=>pur 2 rfl (sqt 10 rfl (spL rfl rfl (lhA (htl h (h.sg ag cg) (h.ss as_ cs)) ZA rfl rfl rfl) rfl (pur 3 rfl ?_)))))
 refine cl rfl Zj7 rfl rfl (Z8c h ag as_ cg cs hlg hls fr to_ af at_ cf ct hlf hlt hfc htc spd _ _) ?_
 rintro _ _ R1 ⟨rfl,hq⟩
 rcases hq with ⟨h9,rfl,hR1⟩ | ⟨h9,hnp,rfl,hR1⟩ | ⟨h9,ls,pl,a,c,hll,hpk,hpc,hlb,hrun,hlst,rfl,hR1⟩
 all_goals obtain rfl:=hR1.symm
 all_goals clear hR1
 refine pur 5 rfl (sqt 6 rfl ?_)
 refine Sy.heap (fun w h=>St.norows9 (sz:=1) h) ?_
 refine pur 1 rfl ?_
 refine cl rfl ZaC rfl rfl (Z3b [] none 0 (by decide) (by decide) _ _) ?_
 rintro _ _ R1 ⟨o,rfl,rfl,hR1⟩
 obtain rfl:=hR1.symm
 clear hR1
 obtain ⟨ao,co,heo,hfz⟩:=o.freeze
 rw [heo,irl]
 refine Sy.heap (fun w h=>hfz h) ?_
 clear hfz heo
 refine sp rfl (PE.lenSl Zy rfl) rfl (pur 3 rfl (Z5 ?_))
 exact rtB rfl rfl rfl rfl ⟨rfl,rfl,.inl ⟨h9,rfl⟩⟩ (fun w h9=>St.sub (h9.del b4))
 refine pur 5 rfl (sqt 6 rfl ?_)
 refine Sy.heap (fun w h=>St.norows9 (sz:=1) h) ?_
 refine pur 1 rfl ?_
 refine cl rfl ZaC rfl rfl (Z3b [] none 0 (by decide) (by decide) _ _) ?_
 rintro _ _ R1 ⟨o,rfl,rfl,hR1⟩
 obtain rfl:=hR1.symm
 clear hR1
 obtain ⟨ao,co,heo,hfz⟩:=o.freeze
 rw [heo,irl]
 refine Sy.heap (fun w h=>hfz h) ?_
 clear hfz heo
 refine sp rfl (PE.lenSl Zy rfl) rfl (pur 3 rfl (Z5 ?_))
 exact rtB rfl rfl rfl rfl ⟨rfl,rfl,.inr (.inl ⟨h9,hnp,rfl⟩)⟩ (fun w h9=>St.sub (h9.del b4))
 refine pur 5 rfl (sqt 6 rfl ?_)
 have hgl:=(ZdO h9).1.ok.gl
 have hlen:(lls pl).flatten.length=Z9L h.gaps ls:=by rw [hll];exact Z6l hgl hlb
 have hs10:=hlst.1.few
 have hpl:pl.length=ls.length:=by have:=congrArg List.length hll;rw [Z04,List.length_map] at this;exact this
 refine pur 1 rfl ?_
 refine cl rfl ZaC rfl rfl (Z3b pl a c (by omega) (by omega) _ _) ?_
 rintro _ _ R1 ⟨o,rfl,rfl,hR1⟩
 obtain rfl:=hR1.symm
 clear hR1
 obtain ⟨ao,co,heo,hfz⟩:=o.freeze
 rw [heo,irl,hlen]
 refine Sy.heap (fun w h=>hfz h) ?_
 clear hfz heo
 refine sp rfl (PE.lenSl Zy rfl) rfl (pur 3 rfl (Z5 ?_))
 exact rtB rfl rfl rfl rfl ⟨rfl,rfl,.inr (.inr ⟨h9,Z9L h.gaps ls,by omega,hlst,rfl⟩)⟩ (fun w h9=>St.sub (h9.del b4))
theorem Zht:cal Tryz.prog 109=true:=by kernel_rfl
theorem Zhu:cal Tryz.prog 110=true:=by kernel_rfl
theorem Zhv:cal Tryz.prog 111=true:=by kernel_rfl
theorem ZhM:cal Tryz.prog 136=true:=by kernel_rfl
theorem ZhN:cal Tryz.prog 137=true:=by kernel_rfl
theorem ZhR:cal Tryz.prog 141=true:=by kernel_rfl
theorem ZaD:cal Tryz.prog 83=true:=by kernel_rfl
def Hse.ledE (h:Hse) (fr to_:List Int) (ls:List (List Int)):Int:=bif decide (h.botE fr to_≠0) then h.botE fr to_ else bif decide (ZM h.gaps.length ls.flatten≠0) then ZM h.gaps.length ls.flatten else bif !(ls.all fun l=>Z59 h.gaps 0 fr to_ l) then 8 else 0
def Hse.ledR (h:Hse) (fr to_:List Int) (ls:List (List Int)):Int:=bif decide (h.ledE fr to_ ls=0) then ls.length else 0
theorem Zbh (pl:List PL) (p:List Int→Bool):(pl.all fun x=>p x.l)=(lls pl).all p:=by unfold lls;rw [List.all_map];rfl
theorem Z3E {h:Hse} {fr to_:List Int} {ls:List (List Int)} {e:Int} (he:h.ledE fr to_ ls=e) (h0:e≠0):h.ledR fr to_ ls=0:=by unfold Hse.ledR;rw [he,decide_eq_false h0];rfl
theorem Zao (xs:List PL) (a:Option Addr) (c g:Nat) (fst cap:List Value) (p:PL→Bool) (hg:cal Tryz.prog g=true) (hl:xs.length≤9223372036854775807) (H:Zf) (R:Z6) [hR:MemRows a 1 (Zg xs) R] (hp:∀ x,x∈xs→FnV Tryz.prog g (fst++[.slice x.a x.l.length x.c]++cap) H R (.bool (p x))) :
    FnV Tryz.prog 141 [.slice a xs.length c,.func (.func g) fst.toArray cap.toArray] H R (.int .i64 (match xs.findIdx? p with | some k=>(k:Int) | none => -1)):=by
 refine Zl Tryz.func141 rfl Tryz.ntmps141 rfl ?_
 refine sqt 1 rfl (pur 1 rfl (Z0 (sqt 3 rfl (pur 1 rfl (sp rfl (PE.lenSl Z0J rfl) rfl (pur 1 rfl (Z4 ?_)))))))
 refine Ze (ι:={k:Nat // k≤xs.length∧∀ x∈xs.take k,p x=false}) (fun k=>⟨[(0,.slice a xs.length c),(1,.func (.func g) fst.toArray cap.toArray),(7,.int .i64 xs.length),(8,.int .i64 k.1)],H,R⟩) (fun k=>xs.length-k.1) ⟨0,by simp⟩ ?_ (fun k=>?_)
 exact Zi idH
 obtain ⟨k,hk,hn⟩:=k
 dsimp only
 refine sqt 1 rfl (pur 1 rfl (Z0 ?_))
 refine Z1 rfl ?_ ?_<;>intro hc0
 simp only [cS] at hc0
 obtain ⟨x,hx⟩:∃ x,xs[k]?=some x:=⟨_,List.getElem?_eq_getElem (by omega)⟩
 have hxm:=List.mem_of_getElem? hx
 refine Zh (a:=a) (sz:=1) (rows:=Zg xs) (by cases xs<;>simp_all [Zg]) (fun b off he=>?_)
 subst he
 refine Z2 (Z0 (Z4 (sqt 2 rfl (pur 2 rfl (sqt 6 rfl (pur 3 rfl (sp rfl (PE.indexAddr Z4A rfl rfl (by omega) (by omega)) rfl (spL rfl rfl (lf0 Z1t (by simp [Zg,hx];rfl) rfl) rfl ?_))))))))
 refine Z9o rfl rfl (hg) rfl rfl (hp x hxm) ?_
 refine Z1 rfl ?_ ?_<;>intro hc1
 refine sqt 2 rfl (pur 2 rfl (Z5 ?_))
 first | (exact rtA rfl rfl rfl ⟨by rw [Z0W hx hn hc1];rfl,rfl,rfl⟩ idH) | (exact rtA rfl rfl rfl ⟨by rw [Z0r (by simpa using hn)];rfl,rfl,rfl⟩ idH)
 refine Z2 (sqr 2 rfl (sp rfl (PE.add rfl rfl (by omega)) rfl (pur 1 rfl ?_)))
 exact Zb ⟨k+1,by omega,Z2t hx hn hc1⟩ idH
 simp only [cS] at hc0
 obtain rfl:k=xs.length:=by omega
 refine Z9 (Za (Za (Zm (sqt 1 rfl (pur 1 rfl (Z5 ?_))))))
 first | (exact rtA rfl rfl rfl ⟨by rw [Z0W hx hn hc1];rfl,rfl,rfl⟩ idH) | (exact rtA rfl rfl rfl ⟨by rw [Z0r (by simpa using hn)];rfl,rfl,rfl⟩ idH)
theorem Zal (xs:List PL) (a:Option Addr) (c g:Nat) (fst cap:List Value) (p:PL→Bool) (hg:cal Tryz.prog g=true) (hl:xs.length≤9223372036854775807) (H:Zf) (R:Z6) [hR:MemRows a 1 (Zg xs) R] (hp:∀ x,x∈xs→FnV Tryz.prog g (fst++[.slice x.a x.l.length x.c]++cap) H R (.bool (p x))) :
    FnV Tryz.prog 136 [.slice a xs.length c,.func (.func g) fst.toArray cap.toArray] H R (.bool (xs.any p)):=by
 refine Zl Tryz.func136 rfl Tryz.ntmps136 rfl ?_
 refine sqt 1 rfl (pur 1 rfl (sqt 5 rfl (pur 2 rfl ?_)))
 refine clV rfl ZhR rfl rfl (Zao xs a c g fst cap p hg hl _ _ hp) ?_
 refine pur 2 rfl (Z5 ?_)
 exact rtA rfl rfl rfl ⟨by simp only [ZU];exact Z4G _ _,rfl,rfl⟩ drp
theorem Zah (x:PL) (g bf:Nat) (fst cap:List Value) (p:Bool) (hg:cal Tryz.prog g=true) (H:Zf) (R:Z6) [hM:Mem1 bf (cel 152 [.func (.func g) fst.toArray cap.toArray]) H] (hp:FnV Tryz.prog g (fst++[.slice x.a x.l.length x.c]++cap) H R (.bool p)) :
    FnV Tryz.prog 137 [.slice x.a x.l.length x.c,.pointer (some ⟨bf,0,none⟩)] H R (.bool !p):=by
 refine Zl Tryz.func137 rfl Tryz.ntmps137 rfl ?_
 refine sqt 1 rfl (pur 1 rfl (sqt 5 rfl (spL rfl rfl (lh ZiM rfl rfl) rfl (pur 1 rfl ?_))))
 refine Z9o rfl rfl (hg) rfl rfl (hp) ?_
 refine pur 2 rfl (Z5 ?_)
 exact rtA rfl rfl rfl ⟨rfl,rfl,rfl⟩ drp
theorem Z7q (xs:List PL) (a:Option Addr) (c g:Nat) (fst cap:List Value) (p:PL→Bool) (hg:cal Tryz.prog g=true) (hl:xs.length≤9223372036854775807) (H:Zf) (R:Z6) [hR:MemRows a 1 (Zg xs) R] (hp:∀ b x,x∈xs→FnV Tryz.prog g (fst++[.slice x.a x.l.length x.c]++cap) ((b,cel 152 [.func (.func g) fst.toArray cap.toArray])::H) R (.bool (p x))) :
    FnV Tryz.prog 109 [.slice a xs.length c,.func (.func g) fst.toArray cap.toArray] H R (.bool (xs.all p)):=by
 refine Zl Tryz.func109 rfl Tryz.ntmps109 rfl ?_
 refine sqt 2 rfl (bx rfl rfl rfl (fun b3=>pur 1 rfl (sqt 5 rfl (pur 1 rfl (sp rfl (PE.makeFunc rfl rfl) rfl ?_)))))
 refine clV rfl ZhM rfl rfl (Zal xs a c 137 [] [_] (fun x=>!p x) ZhN hl _ _ (hp:=fun x hx=>Zah x g _ fst cap (p x) hg _ _ (hp:=hp _ x hx))) ?_
 refine pur 2 rfl (Z5 ?_)
 exact rtA rfl rfl rfl ⟨by simp only [ZU];rw [Z24],rfl,rfl⟩ drp
theorem ZcG (h:Hse) (ag as_:Option Addr) (cg cs:Nat) (hok:h.ok) (fr to_:List Int) (af at_:Option Addr) (cf ct b4 b5 b6:Nat) (hfr:∀ x∈fr,0≤x∧x<7) (hfl:fr.length≤1000) (hnt:to_.length≤1000000) (x:PL) (pl:List PL) (hxm:x∈pl) (hp:∀ k∈x.l,0≤k) (hpl:x.l.length≤1000000) (H:Zf) (R:Z6) [hG:MemRows ag 2 (Z7 h.gaps) R] [hS:MemRows as_ 3 (Z8 h.sights) R] [hF:MemRows af 1 (Z3 fr) R] [hT:MemRows at_ 1 (Z3 to_) R] [m4:Mem1 b4 (cel 27 (htl h (h.sg ag cg) (h.ss as_ cs))) H] [m5:Mem1 b5 (cel 22 [.slice af fr.length cf]) H] [m6:Mem1 b6 (cel 22 [.slice at_ to_.length ct]) H] [hI:MemF (Inn pl) R] :
    FnV Tryz.prog 110 [.slice x.a x.l.length x.c,.pointer (some ⟨b4,0,none⟩),.pointer (some ⟨b5,0,none⟩),.pointer (some ⟨b6,0,none⟩)] H R (.bool (Z59 h.gaps 0 fr to_ x.l)):=by
 refine Zl Tryz.func110 rfl Tryz.ntmps110 rfl ?_
 refine sqt 1 rfl ?_
 refine Sy.heap (fun w h=>St.inn (x:=x) h hxm) ?_
 refine pur 1 rfl (Z0 ?_)
 refine Zo [0,1,0,0,0,31,63] (.ld 0 (.ld 2 (.ld 3 (.tk 4 (.big 1 (.big 5 (.tk 6 .done))))))) ZF (by kernel_rfl) ?_
 refine ld rfl rfl (lhA (htl h (h.sg ag cg) (h.ss as_ cs)) ZA rfl rfl rfl) rfl (ld rfl rfl (lh Z1t rfl rfl) rfl (ld rfl rfl (lh Z1t rfl rfl) rfl (Zu 1 rfl ?_)))
 refine cl rfl Z5O rfl rfl (Z5K h ag as_ cg cs _ _) ?_
 rintro _ _ _ ⟨bd,rfl,rfl,rfl⟩
 refine bg (fun w hs=>⟨(lh Z1t rfl rfl) w hs,(lh Z1t rfl rfl) w hs,trivial,trivial⟩) ?_
 refine clV rfl Zhv rfl rfl (Zfz (dkA h ag as_ cg cs bd) (Z0l h ag as_ cg cs hok bd) fr to_ x.l af at_ x.a cf ct x.c hfr hfl hnt hp hpl _ _) ?_
 refine bgT (Zu 1 rfl (Z5 ?_))
 exact rtA rfl rfl rfl ⟨rfl,rfl,rfl⟩ (fun w h9=>h9.ftail.ftail)
set_option maxHeartbeats 400000 in
theorem Za4 (h:Hse) (ag as_:Option Addr) (cg cs:Nat) (hlg:h.gaps.length≤9223372036854775807) (hls:h.sights.length≤9223372036854775807) (fr to_:List Int) (af at_:Option Addr) (cf ct:Nat) (hlf:fr.length≤1000000) (hlt:to_.length≤1000000) (hfc:fr.length≤cf) (htc:to_.length≤ct) (pl:List PL) (ap:Option Addr) (cp:Nat) (hpl:pl.length≤1000000) (htot:(lls pl).flatten.length≤1000000) (H:Zf) (R:Z6) [hG:MemRows ag 2 (Z7 h.gaps) R] [hS:MemRows as_ 3 (Z8 h.sights) R] [hF:MemRows af 1 (Z3 fr) R] [hT:MemRows at_ 1 (Z3 to_) R] [hP:MemRows ap 1 (Zg pl) R] [hI:MemF (Inn pl) R] :
    FnV Tryz.prog 55 [h.v (h.sg ag cg) (h.ss as_ cs),.slice af fr.length cf,.slice at_ to_.length ct,.slice ap pl.length cp] H R (.tuple #[.int .i64 (h.ledR fr to_ (lls pl)),.int .i64 (h.ledE fr to_ (lls pl))]):=by
 refine Zl Tryz.func55 rfl Tryz.ntmps55 rfl ?_
 refine sqt 5 rfl (bx rfl rfl rfl (fun b4=>bx rfl rfl rfl (fun b5=>bx rfl rfl rfl (fun b6=>pur 2 rfl (Z0 (sqt 5 rfl (spL rfl rfl (lhA (htl h (h.sg ag cg) (h.ss as_ cs)) ZA rfl rfl rfl) rfl (spL rfl rfl (lh Z1t rfl rfl) rfl (spL rfl rfl (lh Z1t rfl rfl) rfl ?_)))))))))
 refine clV rfl Z9j rfl rfl (Z5h h ag as_ cg cs hlg hls fr to_ af at_ cf ct (by omega) (by omega) hfc htc _ _) ?_
 refine pur 1 rfl (sqt 2 rfl (pur 2 rfl ?_))
 refine Z1 rfl ?_ ?_<;>intro hc0
 have hbe:h.botE fr to_≠0:=of_decide_eq_true hc0
 have e:h.ledE fr to_ (lls pl)=h.botE fr to_:=by unfold Hse.ledE;rw [dT hbe];rfl
 refine sqt 3 rfl (pur 3 rfl (Z5 ?_))
 exact rtB rfl rfl rfl rfl ⟨by rw [Z3E e (by assumption),e]<;>rfl,rfl,rfl⟩ drp
 have hbe:h.botE fr to_=0:=Classical.byContradiction fun e=>by rw [decide_eq_true e] at hc0;cases hc0
 have hb:=Z0A hbe
 obtain ⟨q1,q2,q3,q4,q5,q6⟩:=ZV hb
 have hok:=hb.ok
 refine Z2 (Z0 (Z0 ?_))
 refine Zo [0,1,0,4,15,31] (.tk 0 (.ld 2 (.tk 3 (.big 1 (.big 4 (.tk 5 .done)))))) ZF (by kernel_rfl) ?_
 refine Zu 1 rfl (ld rfl rfl (lhA (htl h (h.sg ag cg) (h.ss as_ cs)) ZA rfl rfl rfl) rfl (tk rfl (PE.makeFunc rfl rfl) rfl ?_))
 refine cl rfl ZaC rfl rfl (Z3b pl ap cp hpl htot _ _) ?_
 rintro _ _ R1 ⟨o,rfl,rfl,hR1⟩
 obtain rfl:=hR1.symm
 clear hR1
 obtain ⟨ac,cc,heo,hcc,hfz⟩:=o.freezeC
 rw [irl] at hcc
 rw [heo,irl]
 refine Sy.heap (fun w h=>hfz h) ?_
 clear hfz heo
 refine bg (fun w hs=>⟨(lhA (htl h (h.sg ag cg) (h.ss as_ cs)) ZA rfl rfl rfl) w hs,trivial⟩) ?_
 refine clV rfl Z9n rfl rfl (Z2x (lls pl).flatten ac cc 83 [h.v (h.sg ag cg) (h.ss as_ cs)] [] (fun k=>inB k 0 ((h.gaps.length:Int)-1)) ZaD (by omega) hcc _ _ (fun _ z _=>Zaj h (by have:=hok.gl;omega) ag cg (h.ss as_ cs) z _ _)) ?_
 refine bgT (Zu 1 rfl (sqt 2 rfl (pur 2 rfl ?_)))
 refine Z1 rfl ?_ ?_<;>intro hc1
 have hle:ZM h.gaps.length (lls pl).flatten≠0:=of_decide_eq_true hc1
 have e:h.ledE fr to_ (lls pl)=ZM h.gaps.length (lls pl).flatten:=by unfold Hse.ledE;rw [hbe,dT hle];rfl
 refine sqt 3 rfl (pur 3 rfl (Z5 ?_))
 exact rtB rfl rfl rfl rfl ⟨by rw [Z3E e (by assumption),e]<;>rfl,rfl,rfl⟩ (fun w h9=>St.sub (((h9.del b6).del b5).del b4))
 have hle:ZM h.gaps.length (lls pl).flatten=0:=Classical.byContradiction fun e=>by rw [show decide (Zdu (fun k=>inB k 0 ((h.gaps.length:Int)-1)) (lls pl).flatten≠0)=true from decide_eq_true e] at hc1;cases hc1
 have hlx:=(ZQ hle).1
 have hin:∀ x∈pl,(∀ k∈x.l,0≤k)∧x.l.length≤1000000:=fun x hx=>by
   have hm:x.l∈lls pl:=List.mem_map.2 ⟨x,hx,rfl⟩
   refine ⟨fun k hk=>(hlx k (List.mem_flatten.2 ⟨_,hm,hk⟩)).1,?_⟩
   have:=List.Sublist.length_le (List.sublist_flatten_of_mem hm)
   omega
 refine Z2 (Z0 (sqt 4 rfl (pur 1 rfl (sp rfl (PE.makeFunc rfl rfl) rfl ?_))))
 refine clV rfl Zht rfl rfl (Z7q pl ap cp 110 [] [_,_,_] (fun x=>Z59 h.gaps 0 fr to_ x.l) Zhu (by omega) _ _ (fun _ x hx=>ZcG h ag as_ cg cs hok fr to_ af at_ cf ct b4 b5 b6 q1 (by omega) hlt x pl hx (hin x hx).1 (hin x hx).2 _ _)) ?_
 refine pur 1 rfl ?_
 refine Z1 rfl ?_ ?_<;>intro hc2
 have hc9:(!(pl.all fun x=>Z59 h.gaps 0 fr to_ x.l))=true:=hc2
 rw [Zbh pl (fun l=>Z59 h.gaps 0 fr to_ l)] at hc9
 have h8:(8:Int)≠0:=by decide
 have e:h.ledE fr to_ (lls pl)=8:=by unfold Hse.ledE;rw [hbe,hle,hc9];rfl
 refine sqt 2 rfl (pur 2 rfl (Z5 ?_))
 exact rtB rfl rfl rfl rfl ⟨by rw [Z3E e (by assumption),e]<;>rfl,rfl,rfl⟩ (fun w h9=>St.sub (((h9.del b6).del b5).del b4))
 have hc9:(!(pl.all fun x=>Z59 h.gaps 0 fr to_ x.l))=false:=hc2
 rw [Zbh pl (fun l=>Z59 h.gaps 0 fr to_ l)] at hc9
 have e:h.ledE fr to_ (lls pl)=0:=by unfold Hse.ledE;rw [hbe,hle,hc9];rfl
 have er:h.ledR fr to_ (lls pl)=pl.length:=by unfold Hse.ledR;rw [e,Z04];rfl
 refine Z2 (sqt 4 rfl (pur 1 rfl (sp rfl (PE.lenSl Z0J rfl) rfl (pur 2 rfl (Z5 ?_)))))
 exact rtB rfl rfl rfl rfl ⟨by rw [er,e]<;>rfl,rfl,rfl⟩ (fun w h9=>St.sub (((h9.del b6).del b5).del b4))
theorem Z1i:Z0O Tryz.prog 27=some 3:=by kernel_rfl
theorem Z3J:Z2m Tryz.prog 27=some [(0,1),(1,1),(2,1)]:=by kernel_rfl
theorem ZdL:Z2m Tryz.prog 30=some [(0,1),(1,1),(2,1)]:=by kernel_rfl
theorem Z7U:slE Tryz.prog 24=some (34,2):=by kernel_rfl
theorem Z0V:Z09 Tryz.prog 27=some ([.int .i64 0,.slice none 0 0,.slice none 0 0]):=by kernel_rfl
def Z4Q:List Gp:=[⟨0,1⟩,⟨0,2⟩,⟨1,3⟩,⟨2,3⟩,⟨3,4⟩,⟨4,5⟩,⟨1,2⟩]
def sixS:List Sgt:=[⟨2,3,true⟩,⟨1,1,false⟩,⟨2,4,false⟩]
abbrev six (k:Nat):Hse:=⟨6,Z4Q,sixS.take k⟩
theorem Z5y (l:List Sgt) (k:Nat):(Z8 l).take k=Z8 (l.take k):=(List.map_take).symm
theorem ZgD {k:Nat} (hk:k≤3):(six k).sights.length=k:=by
 show (sixS.take k).length=k
 rw [List.length_take];show min k 3=k;omega
set_option maxHeartbeats 400000 in
theorem Za7 (k:Nat) (hk:k≤3) (H:Zf) (R:Z6) :
    Fn Tryz.prog 4 [.int .i64 (k:Int)] H R (fun v H' R'=>∃ bg bs,v=(six k).v (.slice (some ⟨bg,0,none⟩) 7 7) (.slice (some ⟨bs,0,none⟩) k 3)∧H'=(bg,cel 34 (Z7 Z4Q).flatten)::(bs,cel 30 (Z8 sixS).flatten)::H∧R'=R):=by
 refine Zl Tryz.func4 rfl Tryz.ntmps4 rfl ?_
 refine sqt 1 rfl (alc rfl Z0V rfl (fun b2=>sqt 5 rfl (sp rfl (PE.build (out:=[_,_,_]) ZdL Z41 rfl rfl) rfl (sp rfl (PE.build (out:=[_,_,_]) ZdL Z41 rfl rfl) rfl (sp rfl (PE.build (out:=[_,_,_]) ZdL Z41 rfl rfl) rfl ?_)))))
 refine bsl (out:=[_,_,_,_,_,_,_,_,_]) rfl Z7j Z41 rfl rfl rfl rfl rfl rfl (fun b7=>?_)
 refine pur 1 rfl (sqt 17 rfl (sp rfl (PE.build (out:=[_,_]) Zcr Z51 rfl rfl) rfl (sp rfl (PE.build (out:=[_,_]) Zcr Z51 rfl rfl) rfl (sp rfl (PE.build (out:=[_,_]) Zcr Z51 rfl rfl) rfl (sp rfl (PE.build (out:=[_,_]) Zcr Z51 rfl rfl) rfl (sp rfl (PE.build (out:=[_,_]) Zcr Z51 rfl rfl) rfl (sp rfl (PE.build (out:=[_,_]) Zcr Z51 rfl rfl) rfl (sp rfl (PE.build (out:=[_,_]) Zcr Z51 rfl rfl) rfl ?_))))))))
 refine bsl (out:=[_,_,_,_,_,_,_,_,_,_,_,_,_,_]) rfl Z7U Z51 rfl rfl rfl rfl rfl rfl (fun b15=>?_)
 refine pur 3 rfl (sp rfl (PE.lenSl Z2l rfl) rfl (sp rfl (PE.min rfl rfl) rfl (sp rfl (PE.max rfl rfl) rfl ?_)))
 rw [show max (0:Int) (min (k:Int) ((3:Nat):Int))=(k:Int) by omega]
 refine sp rfl (PE.slHi (h:=k) Z7j rfl rfl (by omega)) rfl (sp rfl (PE.build (out:=[_,_,_]) Z3J Z0V rfl rfl) rfl ?_)
 refine ZG (l':=[.int .i64 6,.slice (some ⟨b15,0,none⟩) 7 7,.slice (some ⟨b7,0,none⟩) k 3]) rfl rfl rfl Z1i rfl rfl rfl rfl (nl rfl) ?_
 refine Z5 ?_
 exact Zn (vs:=[_]) rfl (.cons (RV.cell rfl (lhA [_,_,_] ZA rfl rfl rfl)) .nil) rfl ⟨b15,b7,rfl,rfl,rfl⟩ (fun w h9=>h9.del b2)
theorem Fn.weakH {P:Program} {f:FuncId} {args:List Value} {H:Zf} {R:Z6} {Q Q':Value→Zf→Z6→Prop} (h:Fn P f args H R Q) (hq:∀ v H' R',Q v H' R'→∃ H2 R2,Q' v H2 R2∧∀ w,St H' R' w→St H2 R2 w):Fn P f args H R Q':=fun w hw =>
 CallsIn.mono (h w hw) (by
   rintro e w' ⟨v,H',R',h1,he,hs⟩
   obtain ⟨H2,R2,h2,h3⟩:=hq v H' R' h1
   exact ⟨v,H2,R2,h2,he,h3 w' hs⟩)
theorem Z6z (k:Nat) (hk:k≤3) (H:Zf) (R:Z6):Fn Tryz.prog 4 [.int .i64 (k:Int)] H R (fun v H' R'=>∃ (ag as_:Option Addr) (cg cs:Nat),v=(six k).v ((six k).sg ag cg) ((six k).ss as_ cs)∧k≤cs∧H'=H∧R'=RowsA ag 2 (Z7 (six k).gaps)::RowsA as_ 3 (Z8 (six k).sights)::R) :=
 Fn.weakH (Za7 k hk H R) fun v H' R' hq=>by
   obtain ⟨bg,bs,rfl,rfl,rfl⟩:=hq
   refine ⟨H,_,⟨some ⟨bg,0,none⟩,some ⟨bs,0,none⟩,7,3,by unfold Hse.sg Hse.ss;rw [ZgD hk];rfl,hk,rfl,rfl⟩,fun w h=>?_⟩
   have h1:=St.rows (sz:=2) (rows:=Z7 Z4Q) (rest:=[]) (by rw [List.append_nil];exact h) (Z2N _)
   have h2:=St.rows (sz:=3) (rows:=Z8 sixS) (rest:=[]) (by rw [List.append_nil];exact h1) (Z3r _)
   have h3:=St.rowsTake (a:=some ⟨bs,0,none⟩) (sz:=3) (rows:=Z8 sixS) h2 k
   rw [Z5y] at h3
   exact h3.facts (fun g hg=>by simp only [List.mem_cons] at hg ⊢;rcases hg with h8 | h8 | h8<;>simp [h8])
theorem Zia:cal Tryz.prog 87=true:=by kernel_rfl
theorem Z6f:Wth Z4Q 7:=by
 intro g hg
 simp only [Z4Q,List.mem_cons,List.not_mem_nil,or_false] at hg
 rcases hg with rfl | rfl | rfl | rfl | rfl | rfl | rfl<;>decide
theorem six_w:((six 0).weeksR [0]).1=[0,1,1,2,3,4]∧((six 0).weeksR [0]).2=0:=⟨by kernel_rfl,by kernel_rfl⟩
theorem six_o:((six 2).orgR).1=[4]∧((six 2).orgR).2=0:=⟨by kernel_rfl,by kernel_rfl⟩
theorem six_s:((six 2).surR 1).1=[4,5]∧((six 2).surR 1).2=0:=⟨by kernel_rfl,by kernel_rfl⟩
theorem six_c:((six 3).claR).1=[0,1,2]∧((six 3).claR).2=0:=⟨by kernel_rfl,by kernel_rfl⟩
theorem six_l:(six 0).ledR [0] [3] [[0,2],[1,3]]=2∧(six 0).ledE [0] [3] [[0,2],[1,3]]=0:=⟨by kernel_rfl,by kernel_rfl⟩
theorem six_b:(six 0).botE [0] [5]=0∧(six 0).botE [0] [3]=0∧(six 0).rcE [0] [1] 1=0:=⟨by kernel_rfl,by kernel_rfl,by kernel_rfl⟩
theorem ZiR:plD Z4Q 2 1 8 1 0 3=true:=by kernel_rfl
theorem ZiS:plD Z4Q 2 1 8 1 0 2=false:=by kernel_rfl
theorem ZiT:plD Z4Q 8 0 8 1 0 10=false:=by kernel_rfl
theorem ZiU:plD Z4Q 8 1 8 1 0 10=true:=by kernel_rfl
theorem ZiP:plD Z4Q 32 10 8 1 0 1=true:=by kernel_rfl
theorem ZiQ:plD Z4Q 32 10 8 1 0 0=false:=by kernel_rfl
theorem six_few:Lst (Pl (six 0).gaps (msk [1]) (1:Int).toNat (msk [0]) 0) 3:=ZbA Z6f (by decide) ZiR ZiS
theorem ZgC:Lst (Pl (six 0).gaps (msk [5]) 10 (msk [0]) 0) 1:=ZbA Z6f (by decide) ZiP ZiQ
theorem ZgE {s:Nat} (h1:∃ n,Pl (six 0).gaps (msk [3]) s (msk [0]) 0 n) (h2:∀ s',s'<s→∀ n,¬ Pl (six 0).gaps (msk [3]) s' (msk [0]) 0 n):s=1:=by
 rcases Nat.lt_trichotomy s 1 with h3 | h3 | h3
 · obtain rfl:s=0:=by omega
   obtain ⟨n,hn⟩:=h1
   have hf:=hn.few
   have h4:=Z7L (n:=10) (f:=8) Z6f (by decide) (by omega) hn (by have:(six 0).gaps.length=7:=rfl;omega)
   have h5:plD Z4Q 8 0 8 1 0 10=true:=h4
   rw [ZiT] at h5
   cases h5
 · exact h3
 · obtain ⟨k,_,hk⟩:=Z69 ZiU
   exact absurd hk (h2 1 h3 k)
theorem Z9D {f:Nat→Int} {V:List (Nat×Int)} (hf:Flw f (msk [0]) (msk [5]) (six 0).gaps) (hs:Shn (six 0).gaps (fun _=>true) f (msk [0]) (msk [5]) V):(Z1C (Z1F V) (six 0).gaps).length=1:=by
 have hc:=(hs.cut (Z3x (Z0A six_b.1)) hf).1
 have hl:(Z1C (Z1F V) (six 0).gaps).length≤7:=by
   unfold Z1C
   rw [List.length_map]
   exact Nat.le_trans (List.length_filter_le _ _) (by decide)
 exact (Cut.plan (sp:=10) Z6f (by decide) hc (by omega)).unique ZgC
theorem Z8e (xs ys:List Int) (a a2:Option Addr) (c c2:Nat) (hl:xs.length≤9223372036854775807) (hl2:ys.length≤9223372036854775807) (H:Zf) (R:Z6) [hR:MemRows a 1 (Z3 xs) R] [hR2:MemRows a2 1 (Z3 ys) R] :
    FnV Tryz.prog 87 [.slice a xs.length c,.slice a2 ys.length c2] H R (.bool (decide (xs=ys))):=by
 refine Zl Tryz.func87 rfl Tryz.ntmps87 rfl ?_
 refine sqt 1 rfl (pur 1 rfl (Z0 (sqt 5 rfl (pur 1 rfl (sp rfl (PE.lenSl Zy rfl) rfl (pur 1 rfl (sp rfl (PE.lenSl Zy rfl) rfl (pur 1 rfl ?_))))))))
 refine Z1 rfl ?_ ?_<;>intro hc0
 have hne:xs≠ys:=fun e=>by subst e;simp at hc0
 refine sqt 1 rfl (pur 1 rfl (Z5 ?_))
 exact rtA rfl rfl rfl ⟨by first | (simp only [ZU];rw [dT heq];done) | (simp only [ZU];rw [dF hne]),rfl,rfl⟩ idH
 have hle:xs.length=ys.length:=by simp only [cS] at hc0;omega
 refine Z2 (Z0 (sqt 3 rfl (pur 1 rfl (sp rfl (PE.lenSl Zy rfl) rfl (pur 1 rfl (Z4 ?_))))))
 refine Ze (ι:={k:Nat // k≤xs.length∧xs.take k=ys.take k}) (fun k=>⟨[(0,.slice a xs.length c),(1,.slice a2 ys.length c2),(12,.int .i64 xs.length),(13,.int .i64 k.1)],H,R⟩) (fun k=>xs.length-k.1) ⟨0,by simp⟩ ?_ (fun k=>?_)
 exact Zi idH
 obtain ⟨k,hk,hn⟩:=k
 dsimp only
 refine sqt 1 rfl (pur 1 rfl (Z0 ?_))
 refine Z1 rfl ?_ ?_<;>intro hc1
 simp only [cS] at hc1
 obtain ⟨x,hx⟩:∃ x,xs[k]?=some x:=⟨_,List.getElem?_eq_getElem (by omega)⟩
 obtain ⟨z,hz⟩:∃ z,ys[k]?=some z:=⟨_,List.getElem?_eq_getElem (by omega)⟩
 refine Zh (a:=a) (sz:=1) (rows:=Z3 xs) (by intro h0;simp [Z3] at h0;simp [h0] at hx) (fun b off he=>?_)
 subst he
 refine Zh (a:=a2) (sz:=1) (rows:=Z3 ys) (by intro h0;simp [Z3] at h0;simp [h0] at hz) (fun b2 off2 he=>?_)
 subst he
 refine Z2 (Z0 (Z4 (sqt 2 rfl (pur 2 rfl (Z0 ?_)))))
 refine Zo [0,0,3,7,0,0,48,112,255] (tks 0 3 (.ld 3 (tks 4 3 (.ld 7 (.tk 8 .done))))) ZF (by kernel_rfl) ?_
 refine Zu 2 rfl (tk rfl (PE.indexAddr Z0c rfl rfl (by omega) (by omega)) rfl (ld rfl rfl (lf0 sc3 (by simp [Z3,hx];rfl) rfl) rfl (Zu 2 rfl (tk rfl (PE.indexAddr Z0c rfl rfl (by omega) (by omega)) rfl (ld rfl rfl (lf0 sc3 (by simp [Z3,hz];rfl) rfl) rfl (Zu 1 rfl ?_))))))
 refine Z1 rfl ?_ ?_<;>intro hc2
 have hne:xs≠ys:=fun e=>by subst e;rw [hx] at hz;cases hz;simp at hc2
 refine sqt 1 rfl (pur 1 rfl (Z5 ?_))
 exact rtA rfl rfl rfl ⟨by first | (simp only [ZU];rw [dT heq];done) | (simp only [ZU];rw [dF hne]),rfl,rfl⟩ idH
 have hxz:x=z:=by simpa using hc2
 refine Z2 (sqr 2 rfl (sp rfl (PE.add rfl rfl (by omega)) rfl (pur 1 rfl ?_)))
 exact Zb ⟨k+1,by omega,by rw [List.take_add_one,List.take_add_one,hn,hx,hz,hxz]⟩ idH
 simp only [cS] at hc1
 obtain rfl:k=xs.length:=by omega
 have heq:xs=ys:=by
   rw [List.take_length] at hn
   exact hn.trans (by rw [hle];exact List.take_length)
 refine Z9 (Za (Za (Zm (sqt 1 rfl (pur 1 rfl (Z5 ?_))))))
 exact rtA rfl rfl rfl ⟨by first | (simp only [ZU];rw [dT heq];done) | (simp only [ZU];rw [dF hne]),rfl,rfl⟩ idH
theorem ZW (xs ys:List Int) (a a2:Option Addr) (c c2:Nat) (hl:xs.length≤9223372036854775807) (hl2:ys.length≤9223372036854775807) (H:Zf) (R:Z6) [hR:MemRows a 1 (Z3 xs) R] [hR2:MemRows a2 1 (Z3 ys) R] :
    FnV Tryz.prog 30 [.slice a xs.length c,.slice a2 ys.length c2] H R (.bool (decide (xs=ys))):=by
 refine Zl Tryz.func30 rfl Tryz.ntmps30 rfl ?_
 refine sqt 1 rfl (pur 1 rfl (sqt 4 rfl (pur 2 rfl ?_)))
 refine clV rfl Zia rfl rfl (Z8e xs ys a a2 c c2 hl hl2 _ _) ?_
 refine pur 1 rfl (Z5 ?_)
 exact rtA rfl rfl rfl ⟨rfl,rfl,rfl⟩ drp
theorem ZhU:cal Tryz.prog 26=true:=by kernel_rfl
theorem ZhV:cal Tryz.prog 28=true:=by kernel_rfl
theorem Z1Y:cal Tryz.prog 30=true:=by kernel_rfl
theorem Zcp:cal Tryz.prog 4=true:=by kernel_rfl
theorem Zi2:cal Tryz.prog 51=true:=by kernel_rfl
theorem Zi3:cal Tryz.prog 52=true:=by kernel_rfl
theorem Zi4:cal Tryz.prog 53=true:=by kernel_rfl
theorem Zi5:cal Tryz.prog 54=true:=by kernel_rfl
theorem Zi6:cal Tryz.prog 55=true:=by kernel_rfl
theorem ZjI:cal Tryz.prog 7=true:=by kernel_rfl
set_option maxHeartbeats 1000000 in
theorem Z0x (H:Zf) (R:Z6) :
    FnV Tryz.prog 11 [] H R (.bool true):=by
 refine Zl Tryz.func11 rfl Tryz.ntmps11 rfl ?_
 refine sqt 1 rfl (pur 1 rfl (sqt 8 rfl ?_))
 refine cl rfl Zcp rfl rfl (Z6z 0 (by decide) _ _) ?_
 rintro _ _ R1 ⟨ag18,as18,cg18,cs18,rfl,_,rfl,hR1⟩
 obtain rfl:=hR1.symm
 clear hR1
 refine bsl (out:=[_]) rfl Z03 zl3 rfl rfl rfl rfl rfl rfl (fun b19=>?_)
 refine Sy.heap (fun w h9=>St.rows (sz:=1) (rows:=Z3 [0]) (rest:=[]) (h9.pull b19) (by simp)) ?_
 refine cl rfl Zi2 rfl rfl (Zaa (six 0) ag18 as18 cg18 cs18 (by decide) (by decide) [0] (some ⟨b19,0,none⟩) 1 (by decide) (by decide) _ _) ?_
 rintro _ _ R1 ⟨a1,c1,_,rfl,rfl,hR1⟩
 obtain rfl:=hR1.symm
 clear hR1
 rw [six_w.1,six_w.2]
 refine pur 5 rfl (sqt 7 rfl ?_)
 refine cl rfl Zcp rfl rfl (Z6z 2 (by decide) _ _) ?_
 rintro _ _ R1 ⟨ag24,as24,cg24,cs24,rfl,_,rfl,hR1⟩
 obtain rfl:=hR1.symm
 clear hR1
 refine cl rfl Zi3 rfl rfl (Z6y (six 2) ag24 as24 cg24 cs24 (by decide) (by decide) _ _) ?_
 rintro _ _ R1 ⟨a2,c2,_,rfl,rfl,hR1⟩
 obtain rfl:=hR1.symm
 clear hR1
 rw [six_o.1,six_o.2]
 refine pur 5 rfl (sqt 7 rfl ?_)
 refine cl rfl Zcp rfl rfl (Z6z 2 (by decide) _ _) ?_
 rintro _ _ R1 ⟨ag29,as29,cg29,cs29,rfl,_,rfl,hR1⟩
 obtain rfl:=hR1.symm
 clear hR1
 refine cl rfl Zi4 rfl rfl (Z8d (six 2) ag29 as29 cg29 cs29 (by decide) (by decide) 1 _ _) ?_
 rintro _ _ R1 ⟨a3,c3,_,rfl,rfl,hR1⟩
 obtain rfl:=hR1.symm
 clear hR1
 rw [six_s.1,six_s.2]
 refine pur 5 rfl (sqt 7 rfl ?_)
 refine cl rfl Zcp rfl rfl (Z6z 3 (by decide) _ _) ?_
 rintro _ _ R1 ⟨Z7d,as34,cg34,cs34,rfl,_,rfl,hR1⟩
 obtain rfl:=hR1.symm
 clear hR1
 refine cl rfl Zi5 rfl rfl (Za1 (six 3) Z7d as34 cg34 cs34 (by decide) (by decide) _ _) ?_
 rintro _ _ R1 ⟨a4,c4,_,rfl,rfl,hR1⟩
 obtain rfl:=hR1.symm
 clear hR1
 rw [six_c.1,six_c.2]
 refine pur 5 rfl (sqt 9 rfl ?_)
 refine cl rfl Zcp rfl rfl (Z6z 0 (by decide) _ _) ?_
 rintro _ _ R1 ⟨ag39,as39,cg39,cs39,rfl,_,rfl,hR1⟩
 obtain rfl:=hR1.symm
 clear hR1
 refine bsl (out:=[_]) rfl Z03 zl3 rfl rfl rfl rfl rfl rfl (fun b40=>?_)
 refine bsl (out:=[_]) rfl Z03 zl3 rfl rfl rfl rfl rfl rfl (fun b41=>?_)
 refine Sy.heap (fun w h9=>St.rows (sz:=1) (rows:=Z3 [0]) (rest:=[]) (h9.pull b40) (by simp)) ?_
 refine Sy.heap (fun w h9=>St.rows (sz:=1) (rows:=Z3 [1]) (rest:=[]) (h9.pull b41) (by simp)) ?_
 refine cl rfl ZhU rfl rfl (Z8a (six 0) ag39 as39 cg39 cs39 (by decide) (by decide) [0] [1] (some ⟨b40,0,none⟩) (some ⟨b41,0,none⟩) 1 1 (by decide) (by decide) (by decide) (by decide) 1 _ _) ?_
 rintro _ _ R1 ⟨rfl,hR1,hq⟩
 obtain rfl:=hR1.symm
 clear hR1
 rcases hq with ⟨h9,_⟩ | ⟨_,hn,_⟩ | ⟨_,n,_,hn,rfl⟩
 · exact absurd six_b.2.2 h9
 · exact absurd six_few.1 (hn 3)
 obtain rfl:=hn.unique six_few
 refine pur 5 rfl (sqt 12 rfl ?_)
 refine cl rfl Zcp rfl rfl (Z6z 0 (by decide) _ _) ?_
 rintro _ _ R1 ⟨ag46,as46,cg46,cs46,rfl,_,rfl,hR1⟩
 obtain rfl:=hR1.symm
 clear hR1
 refine bsl (out:=[_]) rfl Z03 zl3 rfl rfl rfl rfl rfl rfl (fun b47=>?_)
 refine bsl (out:=[_]) rfl Z03 zl3 rfl rfl rfl rfl rfl rfl (fun b48=>?_)
 refine bsl (out:=[_,_]) rfl Z03 zl3 rfl rfl rfl rfl rfl rfl (fun b49=>?_)
 refine bsl (out:=[_,_]) rfl Z03 zl3 rfl rfl rfl rfl rfl rfl (fun b50=>?_)
 refine bsl (out:=[_,_]) rfl Z7T Z5c rfl rfl rfl rfl rfl rfl (fun b51=>?_)
 refine Sy.heap (fun w h9=>St.rows (sz:=1) (rows:=Z3 [0]) (rest:=[]) (h9.pull b47) (by simp)) ?_
 refine Sy.heap (fun w h9=>St.rows (sz:=1) (rows:=Z3 [3]) (rest:=[]) (h9.pull b48) (by simp)) ?_
 refine Sy.heap (fun w h9=>St.rows (sz:=1) (rows:=Z3 [0,2]) (rest:=[]) (h9.pull b49) (by simp)) ?_
 refine Sy.heap (fun w h9=>St.rows (sz:=1) (rows:=Z3 [1,3]) (rest:=[]) (h9.pull b50) (by simp)) ?_
 refine Sy.heap (fun w h9=>St.rows (sz:=1) (rows:=Zg [⟨some ⟨b49,0,none⟩,2,[0,2]⟩,⟨some ⟨b50,0,none⟩,2,[1,3]⟩]) (rest:=[]) (h9.pull b51) (by simp [Zg,Z3j])) ?_
 refine Sy.heap (fun w h9=>St.inn0 h9) ?_
 refine Sy.heap (fun w h9=>(show St _ (Inn [⟨some ⟨b49,0,none⟩,2,[0,2]⟩]::_) w from St.innSnoc (l:=[]) ⟨some ⟨b49,0,none⟩,2,[0,2]⟩ h9)) ?_
 refine Sy.heap (fun w h9=>(show St _ (Inn [⟨some ⟨b49,0,none⟩,2,[0,2]⟩,⟨some ⟨b50,0,none⟩,2,[1,3]⟩]::_) w from St.innSnoc (l:=[⟨some ⟨b49,0,none⟩,2,[0,2]⟩]) ⟨some ⟨b50,0,none⟩,2,[1,3]⟩ h9)) ?_
 refine cl rfl Zi6 rfl rfl (Za4 (six 0) ag46 as46 cg46 cs46 (by decide) (by decide) [0] [3] (some ⟨b47,0,none⟩) (some ⟨b48,0,none⟩) 1 1 (by decide) (by decide) (by decide) (by decide) [⟨some ⟨b49,0,none⟩,2,[0,2]⟩,⟨some ⟨b50,0,none⟩,2,[1,3]⟩] (some ⟨b51,0,none⟩) 2 (by show 2≤1000000;decide) (by show 4≤1000000;decide) _ _) ?_
 rintro _ _ _ ⟨rfl,rfl,rfl⟩
 rw [show lls [⟨some ⟨b49,0,none⟩,2,[0,2]⟩,⟨some ⟨b50,0,none⟩,2,[1,3]⟩]=[[0,2],[1,3]] from rfl,six_l.1,six_l.2]
 refine pur 5 rfl (sqt 9 rfl ?_)
 refine cl rfl Zcp rfl rfl (Z6z 0 (by decide) _ _) ?_
 rintro _ _ R1 ⟨ag56,as56,cg56,cs56,rfl,_,rfl,hR1⟩
 obtain rfl:=hR1.symm
 clear hR1
 refine bsl (out:=[_]) rfl Z03 zl3 rfl rfl rfl rfl rfl rfl (fun b57=>?_)
 refine bsl (out:=[_]) rfl Z03 zl3 rfl rfl rfl rfl rfl rfl (fun b58=>?_)
 refine Sy.heap (fun w h9=>St.rows (sz:=1) (rows:=Z3 [0]) (rest:=[]) (h9.pull b57) (by simp)) ?_
 refine Sy.heap (fun w h9=>St.rows (sz:=1) (rows:=Z3 [5]) (rest:=[]) (h9.pull b58) (by simp)) ?_
 refine cl rfl ZjI rfl rfl (Zfl (six 0) ag56 as56 cg56 cs56 (by decide) (by decide) [0] [5] (some ⟨b57,0,none⟩) (some ⟨b58,0,none⟩) 1 1 (by decide) (by decide) (by decide) (by decide) _ _) ?_
 rintro _ _ R1 ⟨rfl,hq⟩
 rcases hq with ⟨h9,_⟩ | ⟨_,f,V,a5,c5,hf,hs,_,rfl,hR1⟩
 · exact absurd six_b.1 h9
 obtain rfl:=hR1.symm
 clear hR1
 rw [Z9D hf hs]
 refine pur 5 rfl (sqt 9 rfl ?_)
 refine cl rfl Zcp rfl rfl (Z6z 0 (by decide) _ _) ?_
 rintro _ _ R1 ⟨ag63,as63,cg63,cs63,rfl,_,rfl,hR1⟩
 obtain rfl:=hR1.symm
 clear hR1
 refine bsl (out:=[_]) rfl Z03 zl3 rfl rfl rfl rfl rfl rfl (fun b64=>?_)
 refine bsl (out:=[_]) rfl Z03 zl3 rfl rfl rfl rfl rfl rfl (fun b65=>?_)
 refine Sy.heap (fun w h9=>St.rows (sz:=1) (rows:=Z3 [0]) (rest:=[]) (h9.pull b64) (by simp)) ?_
 refine Sy.heap (fun w h9=>St.rows (sz:=1) (rows:=Z3 [3]) (rest:=[]) (h9.pull b65) (by simp)) ?_
 refine cl rfl ZhV rfl rfl (Za8 (six 0) ag63 as63 cg63 cs63 (by decide) (by decide) [0] [3] (some ⟨b64,0,none⟩) (some ⟨b65,0,none⟩) 1 1 (by decide) (by decide) (by decide) (by decide) _ _) ?_
 rintro _ _ R1 ⟨rfl,hR1,hq⟩
 obtain rfl:=hR1.symm
 clear hR1
 rcases hq with ⟨h9,_⟩ | ⟨_,n,_,hn1,hn2,rfl⟩
 · exact absurd six_b.2.1 h9
 obtain rfl:=ZgE hn1 hn2
 refine pur 5 rfl (sqt 68 rfl (pur 3 rfl ?_))
 refine Zj 71 rfl ?_ ?_<;>intro g71
 refine pur 4 rfl ?_
 refine Zj 75 rfl ?_ ?_<;>intro g75
 refine pur 4 rfl ?_
 refine Zj 79 rfl ?_ ?_<;>intro g79
 refine pur 4 rfl ?_
 refine Zj 83 rfl ?_ ?_<;>intro g83
 refine pur 4 rfl ?_
 refine Zj 87 rfl ?_ ?_<;>intro g87
 refine pur 4 rfl ?_
 refine Zj 91 rfl ?_ ?_<;>intro g91
 refine pur 4 rfl ?_
 refine Zj 95 rfl ?_ ?_<;>intro g95
 refine pur 4 rfl ?_
 refine Zj 99 rfl ?_ ?_<;>intro g99
 refine pur 1 rfl ?_
 refine Za0 (out:=[_,_,_,_,_,_]) rfl rfl rfl rfl Z03 zl3 rfl rfl rfl rfl rfl rfl (fun b101=>?_)
 refine Sy.heap (fun w h9=>St.rows (sz:=1) (rows:=Z3 [0,1,1,2,3,4]) (rest:=[]) (h9.pull b101) (by simp)) ?_
 refine Z0C rfl rfl rfl rfl Z1Y rfl rfl (ZW [0,1,1,2,3,4] [0,1,1,2,3,4] a1 (some ⟨b101,0,none⟩) c1 6 (by decide) (by decide) _ _) ?_
 refine pur 2 rfl ?_
 refine Zj 104 rfl ?_ ?_<;>intro g104
 refine pur 1 rfl ?_
 refine Za0 (out:=[_]) rfl rfl rfl rfl Z03 zl3 rfl rfl rfl rfl rfl rfl (fun b106=>?_)
 refine Sy.heap (fun w h9=>St.rows (sz:=1) (rows:=Z3 [4]) (rest:=[]) (h9.pull b106) (by simp)) ?_
 refine Z0C rfl rfl rfl rfl Z1Y rfl rfl (ZW [4] [4] a2 (some ⟨b106,0,none⟩) c2 1 (by decide) (by decide) _ _) ?_
 refine pur 2 rfl ?_
 refine Zj 109 rfl ?_ ?_<;>intro g109
 refine pur 1 rfl ?_
 refine Za0 (out:=[_,_]) rfl rfl rfl rfl Z03 zl3 rfl rfl rfl rfl rfl rfl (fun b111=>?_)
 refine Sy.heap (fun w h9=>St.rows (sz:=1) (rows:=Z3 [4,5]) (rest:=[]) (h9.pull b111) (by simp)) ?_
 refine Z0C rfl rfl rfl rfl Z1Y rfl rfl (ZW [4,5] [4,5] a3 (some ⟨b111,0,none⟩) c3 2 (by decide) (by decide) _ _) ?_
 refine pur 2 rfl ?_
 refine Zj 114 rfl ?_ ?_<;>intro g114
 refine pur 1 rfl ?_
 refine Za0 (out:=[_,_,_]) rfl rfl rfl rfl Z03 zl3 rfl rfl rfl rfl rfl rfl (fun b116=>?_)
 refine Sy.heap (fun w h9=>St.rows (sz:=1) (rows:=Z3 [0,1,2]) (rest:=[]) (h9.pull b116) (by simp)) ?_
 refine Z0C rfl rfl rfl rfl Z1Y rfl rfl (ZW [0,1,2] [0,1,2] a4 (some ⟨b116,0,none⟩) c4 3 (by decide) (by decide) _ _) ?_
 refine pur 2 rfl ?_
 refine Zj 119 rfl ?_ ?_<;>intro g119
 refine pur 4 rfl ?_
 refine Zj 123 rfl ?_ ?_<;>intro g123
 refine pur 4 rfl ?_
 refine Zj 127 rfl ?_ ?_<;>intro g127
 refine pur 1 rfl ?_
 refine spG rfl rfl rfl rfl (PE.lenSl Zy rfl) rfl ?_
 refine pur 3 rfl ?_
 refine Zj 132 rfl ?_ ?_<;>intro g132
 refine pur 4 rfl (Z5 ?_)
 exact rtA rfl rfl rfl ⟨rfl,rfl,rfl⟩ (fun w h9=>St.sub h9)
 exact absurd g132 (by decide)
 exact absurd g127 (by decide)
 exact absurd g123 (by decide)
 exact absurd g119 (by decide)
 exact absurd g114 (by decide)
 exact absurd g109 (by decide)
 exact absurd g104 (by decide)
 exact absurd g99 (by decide)
 exact absurd g95 (by decide)
 exact absurd g91 (by decide)
 exact absurd g87 (by decide)
 exact absurd g83 (by decide)
 exact absurd g79 (by decide)
 exact absurd g75 (by decide)
 exact absurd g71 (by decide)
theorem Zh7:apT Tryz.prog 24=some (34,2,16):=by kernel_rfl
theorem ZjL:cal Tryz.prog 74=true:=by kernel_rfl
theorem ZjM:cal Tryz.prog 75=true:=by kernel_rfl
theorem Zad (xs:List Gp) (a:Option Addr) (c:Nat) (hl:xs.length≤1000000) (H:Zf) (R:Z6) [hR:MemRows a 2 (Z7 xs) R] :
    Fn Tryz.prog 74 [.slice a xs.length c] H R (fun v H' R'=>∃ o:OSl 34 2 (Z7 xs),v=o.fs∧o.here∧H'=o.G++H∧R'=R):=by
 refine Zl Tryz.func74 rfl Tryz.ntmps74 rfl ?_
 refine sqt 1 rfl (pur 1 rfl (sqt 6 rfl (pur 1 rfl (sp rfl (PE.lenSl Z1s rfl) rfl ?_))))
 refine mkO rfl Zh7 Z51 rfl rfl ⟨by omega,by omega⟩ rfl (fun o ho=>?_)
 refine pur 1 rfl ?_
 refine ZgX (news:=Z7 xs) o rfl Zh7 rfl rfl (Z2o) (by simp [Z7]) (by simp [ZO,Z7,grow,Value.oneCell']) ⟨by simp [Z7];omega,by simp [Z7];omega⟩ rfl ho (fun o2 ho2=>?_)
 refine pur 1 rfl (Z5 ?_)
 exact rtA rfl rfl rfl ⟨o2.cast (by simp),rfl,ho2,rfl,rfl⟩ idH
theorem Zae (xs:List Sgt) (a:Option Addr) (c:Nat) (hl:xs.length≤1000000) (H:Zf) (R:Z6) [hR:MemRows a 3 (Z8 xs) R] :
    Fn Tryz.prog 75 [.slice a xs.length c] H R (fun v H' R'=>∃ o:OSl 30 3 (Z8 xs),v=o.fs∧o.here∧H'=o.G++H∧R'=R):=by
 refine Zl Tryz.func75 rfl Tryz.ntmps75 rfl ?_
 refine sqt 1 rfl (pur 1 rfl (sqt 6 rfl (pur 1 rfl (sp rfl (PE.lenSl Z2l rfl) rfl ?_))))
 refine mkO rfl Z7e Z41 rfl rfl ⟨by omega,by omega⟩ rfl (fun o ho=>?_)
 refine pur 1 rfl ?_
 refine ZgX (news:=Z8 xs) o rfl Z7e rfl rfl (Z2o) (by simp [Z8]) (by simp [ZO,Z8,ZY,Value.oneCell',Value.oneCell']) ⟨by simp [Z8];omega,by simp [Z8];omega⟩ rfl ho (fun o2 ho2=>?_)
 refine pur 1 rfl (Z5 ?_)
 exact rtA rfl rfl rfl ⟨o2.cast (by simp),rfl,ho2,rfl,rfl⟩ idH
theorem Zfn (h:Hse) (ag as_:Option Addr) (cg cs:Nat) (hlg:h.gaps.length≤1000000) (hls:h.sights.length≤1000000) (H:Zf) (R:Z6) [hG:MemRows ag 2 (Z7 h.gaps) R] [hS:MemRows as_ 3 (Z8 h.sights) R] :
    Fn Tryz.prog 17 [h.v (h.sg ag cg) (h.ss as_ cs)] H R (fun v H' R'=>∃ (og:OSl 34 2 (Z7 h.gaps)) (os:OSl 30 3 (Z8 h.sights)),v=h.v og.fs os.fs∧H'=os.G++(og.G++H)∧R'=R):=by
 refine Zl Tryz.func17 rfl Tryz.ntmps17 rfl ?_
 refine sqt 2 rfl (bx rfl rfl rfl (fun b1=>alc rfl Z0V rfl (fun b2=>Z0 ?_)))
 refine Zo [0,1,0,4,12,0,32,124,255,511] (.tk 0 (.ld 1 (.tk 2 (.ld 3 (.tk 5 (.ld 6 (.big 4 (.big 7 (.tk 8 (.big 9 .done)))))))))) ZF (by kernel_rfl) ?_
 refine tk rfl (PE.fA Z0h rfl) rfl (ld rfl rfl (lh sc3 rfl rfl) rfl (tk rfl (PE.fA ZT rfl) rfl (ld rfl rfl (lh Z2g rfl rfl) rfl (tk rfl (PE.fA ZN rfl) rfl (ld rfl rfl (lh Z1L rfl rfl) rfl ?_)))))
 refine cl rfl ZjL rfl rfl (Zad h.gaps ag cg hlg _ _) ?_
 rintro _ _ R1 ⟨og,rfl,hog,rfl,hR1⟩
 obtain rfl:=hR1.symm
 clear hR1
 refine bg (fun w hs=>⟨(lh Z1L rfl rfl) w hs,trivial,(lh sc3 rfl rfl) w hs,trivial⟩) ?_
 refine cl rfl ZjM rfl rfl (Zae h.sights as_ cs hls _ _) ?_
 rintro _ _ R1 ⟨os,rfl,hos,rfl,hR1⟩
 obtain rfl:=hR1.symm
 clear hR1
 refine bg (fun w hs=>⟨trivial,(lh sc3 rfl rfl) w hs,trivial⟩) ?_
 refine tk rfl (PE.build (out:=htl h og.fs os.fs) Z3J Z0V rfl (by simp only [Z2f,og.cells.1,os.cells.1,List.getElem?_cons_zero,List.getElem?_cons_succ];rfl)) rfl ?_
 refine ZG (l':=htl h og.fs os.fs) rfl rfl rfl Z1i rfl rfl (by show (htl _ og.fs os.fs).all (·.oneCell')=true;simp only [htl,List.all_cons,List.all_nil,og.cells.2,os.cells.2,Bool.and_true];rfl) rfl (Nat.le_refl _) ?_
 refine bgT (Z5 ?_)
 exact Zn (vs:=[_]) rfl (.cons (RV.cell rfl (lhA [_,_,_] ZA rfl rfl rfl)) .nil) rfl ⟨og,os,rfl,rfl,rfl⟩ (fun w h9=>((h9.del b2).del b1))
theorem Z9q {p q:Nat→Bool} {k:Nat} (h:∀ j<k,p j=q j):Z1E p k=Z1E q k:=by
 unfold Z1E
 rw [List.filter_congr fun j hj=>h j (List.mem_range.1 hj)]
structure MadeW (h:Hse) (nb ng:Int):Prop where
 bins:2≤h.bins∧h.bins≤nb
 gl:(h.gaps.length:Int)≤ng
 gaps:∀ g∈h.gaps,(0≤g.a∧g.a<h.bins)∧(0≤g.b∧g.b<h.bins)∧g.a≠g.b
 none:h.sights=[]
theorem MadeW.ok {h:Hse} {nb ng:Int} (hm:MadeW h nb ng) (h1:nb≤7) (h2:ng≤10):h.ok:=⟨by have:=hm.bins;omega,by have:=hm.gl;omega,by rw [hm.none];exact Nat.zero_le _,hm.gaps,by rw [hm.none];simp⟩
def ini (f:Nat→Int) (n k:Nat):List Int:=(List.range n).map fun j=>bif decide (j<k) then f j else 0
theorem Zga (f:Nat→Int) (n k:Nat):(ini f n k).length=n:=by simp [ini]
theorem Ziu {f:Nat→Int} {n k j:Nat} (hj:j<n):na (ini f n k) j=bif decide (j<k) then f j else 0:=by
 unfold na ini
 rw [List.getD_eq_getElem?_getD,List.getElem?_map,List.getElem?_range hj];rfl
def clP (pl:List PL) (t:Nat):Nat:=msk (Z2h pl (t+1))
def in0 (fr:List Int) (j:Nat):Int:=bif ZH fr j then 0 else 100
theorem Z2k {l:List Int} (h:∀ x∈l,0≤x) (j:Nat):ZH l (j:Int)=(msk l).testBit j:=by rw [Bool.eq_iff_iff,hasI_iff,ZK h]
theorem FolI.start {gs:List Gp} {cl:Nat→Nat} {fr:List Int} (h:∀ x∈fr,0≤x) (n:Nat):FolI gs cl (msk fr) n 0 (Z6u gs (cl 0) (lvp gs cl (msk fr) 0) 0) (ini (in0 fr) n n):=⟨Zga _ _ _,fun k hk=>by
 rw [Ziu hk,decide_eq_true hk,cond_true]
 unfold in0
 rw [Z2k h]
 show _=bif (msk fr).testBit k then fol gs cl (msk fr) 0 k else bif (msk fr).testBit k then _ else 100
 cases hb:(msk fr).testBit k with
 | false=>rfl
 | true =>
   rw [cond_true,cond_true]
   exact (Zb7 (t:=0) (Nat.le_refl _) hb (fun i hi=>absurd hi (Nat.not_lt_zero _))).symm⟩
theorem Z8j {pl:List PL} {k:Nat} (h:pl.length≤k):Z2h pl (k+1)=Z2h pl k:=by unfold Z2h;rw [List.take_of_length_le (by omega),List.take_of_length_le h]
theorem Zd0 {pl:List PL} {k:Nat} {x:Int} (h:x∈Z2h pl k):x∈(lls pl).flatten:=by
 unfold Z2h at h
 obtain ⟨l,h1,h2⟩:=List.mem_flatten.1 h
 obtain ⟨y,h3,rfl⟩:=List.mem_map.1 h1
 exact List.mem_flatten.2 ⟨_,List.mem_map_of_mem (List.mem_of_mem_take h3),h2⟩
theorem FnV.lendO {P:Program} {f:FuncId} {v:Value} {e sz:Nat} {rows:List (List Value)} (o:OSl e sz rows) (mk:Value→List Value) {T:Zf} {R:Z6}
   (h:∀ (a:Option Addr) (c:Nat) (B:World→Prop),FnV P f (mk (.slice a rows.length c)) T (RowsA a sz rows::B::R) v):FnV P f (mk o.fs) (o.G++T) R v:=fun w hw=>by
 obtain ⟨fs,G,hl,his⟩:=o
 rcases his with ⟨rfl,rfl,rfl⟩ | ⟨b,cap,junk,rfl,rfl,h1,h2,h3⟩
 · have h3:St T (RowsA none sz []::(fun _=>True)::R) w:=St.also (St.also hw (f:=fun _=>True) (fun _ _=>trivial)) (fun w' _ i row hi=>by simp at hi)
   refine CallsIn.mono (h none 0 _ w h3) ?_
   rintro e' w' ⟨u,H',R',⟨rfl,rfl,rfl⟩,he,hs'⟩
   exact ⟨_,_,R,⟨rfl,rfl,rfl⟩,he,hs'.ftail.ftail⟩
 · exact FnV.lend (H:=(b,cel e (rows.flatten++junk))::T) (b:=b) (e:=e) (sz:=sz) (rows:=rows) (junk:=junk) hl (fun B=>h _ cap B) w hw
theorem Z5j:cal Tryz.prog 113=true:=by kernel_rfl
theorem Zhw:cal Tryz.prog 114=true:=by kernel_rfl
theorem Zhx:cal Tryz.prog 115=true:=by kernel_rfl
theorem Z0N (xs:List Gp) (a:Option Addr) (c:Nat) (hl:xs.length≤1000000) (H:Zf) (R:Z6) [hR:MemRows a 2 (Z7 xs) R] :
    Fn Tryz.prog 113 [.slice a xs.length c] H R (fun v H' R'=>∃ o:OSl 34 2 (Z7 xs),v=o.fs∧H'=o.G++H∧R'=R∧(a.isSome=true→o.here)):=by
 refine Zl Tryz.func113 rfl Tryz.ntmps113 rfl ?_
 refine sqt 1 rfl (pur 1 rfl (Z0 (sqt 2 rfl (pur 1 rfl (sp rfl (PE.eqlNil Z1s rfl rfl) rfl ?_)))))
 refine Z1 rfl ?_ ?_<;>intro hc0
 refine Sy.pre (fun w h=>Z6c (h.now hR.mem) hc0) (fun hnil=>?_)
 obtain rfl:xs=[]:=by simpa [Z7] using hnil
 refine sqt 1 rfl (pur 1 rfl (Z5 ?_))
 first
   | exact rtA rfl rfl rfl ⟨o2.cast (by simp),rfl,rfl,rfl,fun _=>ho2⟩ idH
   | exact rtA rfl rfl rfl ⟨OSl.nil _ _,rfl,rfl,rfl,fun h=>by cases a<;>simp_all⟩ idH
 refine Z2 (sqt 4 rfl ?_)
 refine Zec rfl Z7U rfl (fun o5 ho5=>?_)
 refine pur 1 rfl ?_
 refine ZgX (news:=Z7 xs) o5 rfl Zh7 rfl rfl (Z2o) (by simp [Z7]) (by simp [ZO,Z7,grow,Value.oneCell']) ⟨by simp [Z7];omega,by simp [Z7];omega⟩ rfl ho5 (fun o2 ho2=>?_)
 refine pur 1 rfl (Z5 ?_)
 first
   | exact rtA rfl rfl rfl ⟨o2.cast (by simp),rfl,rfl,rfl,fun _=>ho2⟩ idH
   | exact rtA rfl rfl rfl ⟨OSl.nil _ _,rfl,rfl,rfl,fun h=>by cases a<;>simp_all⟩ idH
theorem Z7p (xs:List Sgt) (a:Option Addr) (c:Nat) (hl:xs.length≤1000000) (H:Zf) (R:Z6) [hR:MemRows a 3 (Z8 xs) R] :
    Fn Tryz.prog 115 [.slice a xs.length c] H R (fun v H' R'=>∃ o:OSl 30 3 (Z8 xs),v=o.fs∧H'=o.G++H∧R'=R):=by
 refine Zl Tryz.func115 rfl Tryz.ntmps115 rfl ?_
 refine sqt 1 rfl (pur 1 rfl (Z0 (sqt 2 rfl (pur 1 rfl (sp rfl (PE.eqlNil Z2l rfl rfl) rfl ?_)))))
 refine Z1 rfl ?_ ?_<;>intro hc0
 refine Sy.pre (fun w h=>Z6c (h.now hR.mem) hc0) (fun hnil=>?_)
 obtain rfl:xs=[]:=by simpa [Z8] using hnil
 refine sqt 1 rfl (pur 1 rfl (Z5 ?_))
 first
   | exact rtA rfl rfl rfl ⟨o2.cast (by simp),rfl,rfl,rfl⟩ idH
   | exact rtA rfl rfl rfl ⟨OSl.nil _ _,rfl,rfl,rfl⟩ idH
 refine Z2 (sqt 4 rfl ?_)
 refine Zec rfl Z7j rfl (fun o5 ho5=>?_)
 refine pur 1 rfl ?_
 refine ZgX (news:=Z8 xs) o5 rfl Z7e rfl rfl (Z2o) (by simp [Z8]) (by simp [ZO,Z8,ZY,Value.oneCell',Value.oneCell']) ⟨by simp [Z8];omega,by simp [Z8];omega⟩ rfl ho5 (fun o2 ho2=>?_)
 refine pur 1 rfl (Z5 ?_)
 first
   | exact rtA rfl rfl rfl ⟨o2.cast (by simp),rfl,rfl,rfl⟩ idH
   | exact rtA rfl rfl rfl ⟨OSl.nil _ _,rfl,rfl,rfl⟩ idH
theorem ZgG {A B C:List Value} {n:Nat} (h:n=A.length):spl (A++B) n C=A++(C++B.drop C.length):=by
 subst h
 unfold spl
 rw [List.take_left,List.drop_append]
 simp
theorem Z8X (rows:List (List Value)) (i:Nat):rows.flatten=(rows.take i).flatten++(rows.drop i).flatten:=by rw [← List.flatten_append,List.take_append_drop]
theorem Z5x {sz:Nat} {rows:List (List Value)} (hs:∀ r∈rows,r.length=sz) {junk:List Value} {i:Nat} (hi:i<rows.length):spl (rows.flatten++junk) (i*sz) (rows.drop (i+1)).flatten=(rows.eraseIdx i).flatten++(rows.flatten++junk).drop ((rows.length-1)*sz):=by
 have h1:(rows.take i).flatten.length=i*sz:=by rw [ZX fun r hr=>hs r (List.mem_of_mem_take hr),List.length_take,Nat.min_eq_left (by omega)]
 unfold spl
 have e1:((rows.flatten++junk).take (i*sz):List Value)=(rows.take i).flatten:=by
   rw [Z8X rows i,List.append_assoc,← h1,List.take_left]
 have e2:i*sz+(rows.drop (i+1)).flatten.length=(rows.length-1)*sz:=by
   rw [ZX fun r hr=>hs r (List.mem_of_mem_drop hr),List.length_drop,← Nat.add_mul]
   congr 1;omega
 rw [e1,e2,List.eraseIdx_eq_take_drop_succ,List.flatten_append]
theorem ZbG {sz:Nat} {rows:List (List Value)} (hs:∀ r∈rows,r.length=sz) {junk:List Value} {i j:Nat} {v:Value} (hi:i≤rows.length) (h:((rows.drop i).flatten)[j]?=some v):(rows.flatten++junk)[i*sz+j]?=some v:=by
 have h1:(rows.take i).flatten.length=i*sz:=by rw [ZX fun r hr=>hs r (List.mem_of_mem_take hr),List.length_take,Nat.min_eq_left hi]
 have hj:=(List.getElem?_eq_some_iff.1 h).1
 rw [Z8X rows i,List.append_assoc,List.getElem?_append_right (by omega),show i*sz+j-(rows.take i).flatten.length=j by omega,List.getElem?_append_left hj]
 exact h
theorem Z0y (l:List Gp) (i:Nat):(Z7 l).drop i=Z7 (l.drop i):=by unfold Z7;rw [List.map_drop]
theorem Z4F (l:List Gp) (i:Nat):(Z7 l).eraseIdx i=Z7 (l.eraseIdx i):=by
 unfold Z7
 rw [List.eraseIdx_eq_take_drop_succ,List.eraseIdx_eq_take_drop_succ,List.map_append,List.map_take,List.map_drop]
theorem Z12 (l:List Gp):(Z7 l).flatten.length=l.length*2:=by rw [ZX (Z2N l),ZJ]
theorem Zbb (l:List Gp):(Z7 l).flatten.all (·.oneCell')=true:=List.all_eq_true.2 fun v hv=>by
 obtain ⟨r,hr,h2⟩:=List.mem_flatten.1 hv
 obtain ⟨x,_,rfl⟩:=List.mem_map.1 hr
 simp only [grow,List.mem_cons,List.not_mem_nil,or_false] at h2
 rcases h2 with rfl | rfl<;>rfl
def Hse.cloE (h:Hse) (n:Int):Int:=bif decide (h.check≠0) then h.check else bif !inB n 0 ((h.gaps.length:Int)-1) then 1 else 0
def Hse.cloH (h:Hse) (n:Int):Hse:=bif decide (h.cloE n=0) then ⟨h.bins,h.gaps.eraseIdx n.toNat,h.sights⟩ else ⟨0,[],[]⟩
theorem ZaJ {h:Hse} {n:Int} (hc:h.check≠0):h.cloE n=h.check∧h.cloH n=⟨0,[],[]⟩:=by
 have e:h.cloE n=h.check:=by unfold Hse.cloE;rw [decide_eq_true hc];rfl
 exact ⟨e,by unfold Hse.cloH;rw [e,decide_eq_false hc];rfl⟩
theorem Z7z {h:Hse} {n:Int} (hc:h.check=0) (hi:(!inB n 0 ((h.gaps.length:Int)-1))=true):h.cloE n=1∧h.cloH n=⟨0,[],[]⟩:=by
 have e:h.cloE n=1:=by unfold Hse.cloE;rw [decide_eq_false (fun e=>e hc),hi];rfl
 exact ⟨e,by unfold Hse.cloH;rw [e];rfl⟩
theorem ZaK {h:Hse} {n:Int} (hc:h.check=0) (hi:(!inB n 0 ((h.gaps.length:Int)-1))=false):h.cloE n=0∧h.cloH n=⟨h.bins,h.gaps.eraseIdx n.toNat,h.sights⟩:=by
 have e:h.cloE n=0:=by unfold Hse.cloE;rw [decide_eq_false (fun e=>e hc),hi];rfl
 exact ⟨e,by unfold Hse.cloH;rw [e];rfl⟩
theorem Tru.nil (h:Hse) (l:List Int):Tru h l []:=⟨(fun s hs=>by cases hs),rfl⟩
theorem Z2Q (a b:List Sgt):Z8 (a++b)=Z8 a++Z8 b:=List.map_append
theorem Zc1 (l:List Sgt):(Z8 l).flatten.length=l.length*3:=by rw [ZX (Z3r l),ZE]
def ZeL {e sz:Nat} {rows:List (List Value)} (b cap n:Nat) (junk:List Value) (hl:∀ r∈rows,r.length=sz) (hn:n=rows.length) (h1:rows.length*sz+junk.length=cap*sz) (h2:rows.length≤cap) (h3:cap≤9223372036854775807):OSl e sz rows :=
 ⟨.slice (some ⟨b,0,none⟩) n cap,[(b,cel e (rows.flatten++junk))],hl,.inr ⟨b,cap,junk,by rw [hn],rfl,h1,h2,h3⟩⟩
def Hse.add (h:Hse) (s:Sgt):Hse:=⟨h.bins,h.gaps,h.sights++[s]⟩
def Hse.seeE (h:Hse) (s:Sgt):Int:=bif decide (h.check≠0) then h.check else bif decide (h.sights.length=8) then 9 else (h.add s).check
def Hse.seeH (h:Hse) (s:Sgt):Hse:=bif decide (h.seeE s=0) then h.add s else ⟨0,[],[]⟩
theorem Z1S {h:Hse} {s:Sgt} {e:Int} (he:h.seeE s=e) (h0:e≠0):h.seeH s=⟨0,[],[]⟩:=by unfold Hse.seeH;rw [he,decide_eq_false h0];rfl
theorem Z2a {h:Hse} {s:Sgt} (he:h.seeE s=0):h.seeH s=h.add s:=by unfold Hse.seeH;rw [he];rfl
theorem ZbP {h:Hse} {s:Sgt} (hc:h.check≠0):h.seeE s=h.check:=by unfold Hse.seeE;rw [decide_eq_true hc];rfl
theorem Z74 {h:Hse} {s:Sgt} (hc:h.check=0) (hl:h.sights.length=8):h.seeE s=9:=by unfold Hse.seeE;rw [decide_eq_false (fun e=>e hc),decide_eq_true hl];rfl
theorem ZbQ {h:Hse} {s:Sgt} (hc:h.check=0) (hl:h.sights.length≠8):h.seeE s=(h.add s).check:=by unfold Hse.seeE;rw [decide_eq_false (fun e=>e hc),decide_eq_false hl];rfl
theorem Z6Z (n:Nat) (a b c:Value):(Z0q n [a,b,c]).length=n*3:=by simp [Z0q]
theorem ZgI (l:List Sgt):(Z8 l).flatten.all (·.oneCell')=true:=List.all_eq_true.2 fun v hv=>by
 obtain ⟨r,hr,h2⟩:=List.mem_flatten.1 hv
 obtain ⟨x,_,rfl⟩:=List.mem_map.1 hr
 simp only [ZY,List.mem_cons,List.not_mem_nil,or_false] at h2
 rcases h2 with rfl | rfl | rfl<;>rfl
theorem ZbX (l:List Sgt) (a b c:Value):spl (Z0q (l.length+1) [a,b,c]) 0 (Z8 l).flatten=(Z8 l).flatten++(Z0q (l.length+1) [a,b,c]).drop (l.length*3):=by
 unfold spl
 rw [List.take_zero,List.nil_append,Nat.zero_add,Zc1]
theorem ZdU {xs:List Int} {junk:List Value} {k:Nat} (h:k<xs.length) (v:Int):spl (Zw xs++junk) (0+((k:Nat):Int).toNat*1) [.int .i64 v]=Zw (xs.set k v)++junk:=by
 rw [show 0+((k:Nat):Int).toNat*1=k by omega]
 obtain ⟨A,y,B,rfl,rfl⟩:=Zeu h
 have h1:=ZbV (p:=Zw A) (q:=[.int .i64 y]) (s:=Zw B++junk) (vs:=[.int .i64 v]) rfl
 rw [show (Zw A).length=A.length by simp [Zw]] at h1
 rw [show Zw (A++y::B)++junk=Zw A++([.int .i64 y]++(Zw B++junk)) by simp [Zw],h1]
 simp [Zw]
def Zkf (g:Nat) (cap:List Value) (p:Int→Bool) (l:List Int) (R0:Z6):Prop:=cal Tryz.prog g=true∧∀ x∈l,∀ (H:Zf) (R:Z6),(∀ f∈R0,f∈R)→FnV Tryz.prog g ([]++[.int .i64 x]++cap) H R (.bool (p x))
structure DelI (l:List Int) (p:Int→Bool) (i j:Nat) (c:List Int):Prop where
 len:c.length=l.length
 le:i<j∧j≤l.length
 pre:c.take i=(l.take j).filter (fun x=>!p x)
 suf:∀ q,j≤q→c[q]?=l[q]?
theorem Z2I {l:List Int} {j:Nat} {x:Int} (h:l[j]?=some x):l.take (j+1)=l.take j++[x]:=by rw [List.take_add_one,h];rfl
theorem DelI.start {l:List Int} {p:Int→Bool} {k:Nat} (h:l.findIdx? p=some k):DelI l p k (k+1) l:=by
 obtain ⟨h1,h2,h3⟩:=List.findIdx?_eq_some_iff_getElem.1 h
 refine ⟨rfl,⟨by omega,by omega⟩,?_,fun _ _=>rfl⟩
 rw [Z2I (List.getElem?_eq_getElem h1),List.filter_append,List.filter_cons,h2]
 have:(l.take k).filter (fun x=>!p x)=l.take k:=List.filter_eq_self.2 fun x hx=>by
   obtain ⟨q,hq,rfl⟩:=List.mem_iff_getElem.1 hx
   rw [List.length_take] at hq
   rw [List.getElem_take]
   have:=h3 q (by omega)
   simpa using this
 rw [this];simp
theorem DelI.skip {l:List Int} {p:Int→Bool} {i j:Nat} {c:List Int} (h:DelI l p i j c) {x:Int} (hx:l[j]?=some x) (hp:p x=true):DelI l p i (j+1) c:=by
 have hj:=(List.getElem?_eq_some_iff.1 hx).1
 refine ⟨h.len,⟨by have:=h.le;omega,by omega⟩,?_,fun q hq=>h.suf q (by omega)⟩
 rw [h.pre,Z2I hx,List.filter_append,List.filter_cons,hp];simp
theorem DelI.keep {l:List Int} {p:Int→Bool} {i j:Nat} {c:List Int} (h:DelI l p i j c) {x:Int} (hx:l[j]?=some x) (hp:p x=false):DelI l p (i+1) (j+1) (c.set i x):=by
 have hj:=(List.getElem?_eq_some_iff.1 hx).1
 have hl:=h.le
 have hn:=h.len
 refine ⟨by rw [List.length_set];exact hn,⟨by omega,by omega⟩,?_,fun q hq=>by rw [List.getElem?_set_ne (by omega)];exact h.suf q (by omega)⟩
 rw [Z2I hx,List.filter_append,List.filter_cons,hp,← h.pre,Z2I (l:=c.set i x) (x:=x) (by rw [List.getElem?_set_self (by omega)]),List.take_set_of_le (Nat.le_refl _)];rfl
theorem DelI.done {l:List Int} {p:Int→Bool} {i:Nat} {c:List Int} (h:DelI l p i l.length c):c.take i=l.filter (fun x=>!p x)∧i=(l.filter (fun x=>!p x)).length:=by
 have h1:=h.pre
 rw [List.take_length] at h1
 refine ⟨h1,?_⟩
 rw [← h1,List.length_take,h.len]
 have:=h.le;omega
theorem Z2Y {l:List Int} {p:Int→Bool} (h:l.findIdx? p=none):l.filter (fun x=>!p x)=l:=List.filter_eq_self.2 fun x hx=>by
 have:=List.findIdx?_eq_none_iff.1 h x hx
 simp [this]
theorem ZbW {c:List Int} {junk:List Value} {i n:Nat} (hi:i≤c.length) (hn:n=c.length-i):spl (Zw c++junk) (0+i*1) (Z0q n [Value.int .i64 0])=Zw (c.take i)++(Z0q n [Value.int .i64 0]++junk):=by
 subst hn
 rw [Nat.zero_add,Nat.mul_one]
 unfold spl
 have e1:(Zw c++junk).take i=Zw (c.take i):=by
   rw [List.take_append_of_le_length (by rw [Zp];exact hi)]
   unfold Zw;rw [List.map_take]
 have e2:i+(Z0q (c.length-i) [Value.int .i64 0]).length=(Zw c).length:=by rw [Z6Y,Zp];omega
 rw [e1,e2,List.drop_left];simp
set_option maxHeartbeats 400000 in
theorem Z6w (l:List Int) (o:OSl 3 1 (Z3 l)) (hl:l.length≤1000000) (g:Nat) (cap:List Value) (p:Int→Bool) (R0:Z6) (hask:Zkf g cap p l R0) (H:Zf) (R:Z6) [sR:SubF R0 R] :
    Fn Tryz.prog 118 [o.fs,.func (.func g) #[] cap.toArray] (o.G++H) R (fun v H' R'=>∃ a c,(l.filter (fun x=>!p x)).length≤c∧v = .slice a (l.filter (fun x=>!p x)).length c∧H'=H∧R'=RowsA a 1 (Z3 (l.filter (fun x=>!p x)))::R):=by
 refine Zl Tryz.func118 rfl Tryz.ntmps118 rfl ?_
 refine sqt 1 rfl (pur 1 rfl (sqt 4 rfl (pur 2 rfl ?_)))
 refine cl rfl Zem rfl rfl (FnV.lendO o (fun v=>[v,.func (.func g) #[] cap.toArray]) (fun a5 c5 B9=>by rw [irl];exact Z6C l a5 c5 g [] cap p hask.1 (by omega) _ _ (fun x hx=>hask.2 x hx _ _ (fun f hf=>by simp [sR.sub f hf])))) ?_
 rintro _ _ R1 ⟨rfl,rfl,hR1⟩
 obtain rfl:=hR1.symm
 clear hR1
 rcases hfi:l.findIdx? p with _ | k
 all_goals dsimp only
 refine pur 1 rfl (Z0 (sqt 2 rfl (pur 2 rfl ?_)))
 refine Z1 rfl ?_ ?_<;>intro hc0
 refine sqt 2 rfl (pur 2 rfl (Z5 ?_))
 obtain ⟨ac,cc,he,hcc,hz⟩:=o.freezeC
 rw [irl] at hcc
 rw [he,irl]
 refine Sy.heap (fun w h9=>hz h9) ?_
 exact rtA rfl rfl rfl ⟨ac,cc,by rw [Z2Y hfi];exact hcc,by rw [Z2Y hfi];rfl,rfl,by rw [Z2Y hfi]⟩ drp
 exact absurd hc0 (by simp)
 refine pur 1 rfl (Z0 (sqt 2 rfl (pur 2 rfl ?_)))
 refine Z1 rfl ?_ ?_<;>intro hc0
 exact absurd hc0 (by simp<;>omega)
 have hst:=DelI.start hfi
 have hstl:=hst.le
 have hlp:0<l.length:=by have:=hst.le;omega
 obtain ⟨b,cp,junk,hfs,hG,hj,hcap,hmx⟩:=o.is.resolve_left (fun h9=>by have:=congrArg List.length h9.1;rw [irl] at this;simp only [List.length_nil] at this;omega)
 rw [irl] at hfs hj hcap
 rw [show (Z3 l).flatten=Zw l from Z1c l] at hG
 rw [hfs,hG]
 refine Sy.heap (H':=(b,cel 3 (Zw (l)++junk))::H) (fun w h9=>h9) ?_
 refine Z2 (Z0 (sqt 3 rfl (pur 1 rfl (sp rfl (PE.add rfl rfl (by omega)) rfl (pur 1 rfl (Z4 ?_))))))
 refine Ze (ι:={y:Nat×Nat×List Int // DelI l p y.1 y.2.1 y.2.2}) (fun y=>⟨[(0,.slice (some ⟨b,0,none⟩) l.length cp),(1,.func (.func g) #[] cap.toArray),(5,.int .i64 (y.1.1:Int)),(6,.int .i64 (y.1.2.1:Int))],(b,cel 3 (Zw (y.1.2.2)++junk))::H,R⟩) (fun y=>l.length-y.1.2.1) ⟨(k,k+1,l),hst⟩ ?_ (fun y=>?_)
 exact Zi idH
 clear hst
 obtain ⟨⟨i,j,c⟩,hd⟩:=y
 dsimp only at hd ⊢
 have hle:=hd.le
 have hcl:=hd.len
 refine Z0 (sqt 4 rfl (pur 2 rfl (sp rfl (PE.lenSl Zy rfl) rfl (pur 1 rfl ?_))))
 refine Z1 rfl ?_ ?_<;>intro hc1<;>try simp only [cS] at hc1
 obtain ⟨x,hx⟩:∃ x,l[j]?=some x:=⟨_,List.getElem?_eq_getElem (by omega)⟩
 have hcx:c[j]?=some x:=by rw [hd.suf j (Nat.le_refl _)];exact hx
 refine Z2 (Z0 (Z4 (sqt 5 rfl (pur 2 rfl (sp rfl (PE.indexAddr Z0c rfl rfl (by omega) (by omega)) rfl ?_)))))
 refine spL rfl rfl (lh (v:=.int .i64 x) sc3 rfl (by rw [List.getElem?_append_left (by rw [Zp];show 0+((j:Nat):Int).toNat*1<c.length;omega),show 0+((j:Nat):Int).toNat*1=j by omega];exact Z5Z hcx)) rfl ?_
 refine pur 1 rfl (sqt 4 rfl (pur 2 rfl ?_))
 refine Z9o rfl rfl (hask.1) rfl rfl (hask.2 x (List.mem_of_getElem? hx) _ _ sR.sub) ?_
 refine pur 1 rfl ?_
 refine Z1 rfl ?_ ?_<;>intro hc2<;>try simp only [cS] at hc2
 refine sqt 5 rfl (pur 3 rfl (sp rfl (PE.indexAddr Z0c rfl rfl (by omega) (by omega)) rfl ?_))
 refine ZG (l':=Zw (c.set i x)++junk) rfl rfl rfl cn3 rfl rfl rfl (ZdU (by omega) _) (by rw [List.length_append,Zp];show 0+((i:Nat):Int).toNat*1+1≤_;omega) ?_
 refine sqr 3 rfl (pur 1 rfl (sp rfl (PE.add rfl rfl (by omega)) rfl (pur 1 rfl (sqr 3 rfl (pur 1 rfl (sp rfl (PE.add rfl rfl (by omega)) rfl (pur 1 rfl ?_)))))))
 exact Zb ⟨(i+1,j+1,c.set i x),hd.keep hx (by simpa using hc2)⟩ idH
 refine Z2 (sqr 3 rfl (pur 1 rfl (sp rfl (PE.add rfl rfl (by omega)) rfl (pur 1 rfl ?_))))
 exact Zb ⟨(i,j+1,c),hd.skip hx (by simpa using hc2)⟩ idH
 obtain rfl:j=l.length:=by omega
 obtain ⟨hdt,hdi⟩:=hd.done
 refine Z9 (Za (Za (Zm (sqt 4 rfl (pur 2 rfl (sp rfl (PE.slLo Z03 rfl rfl (by omega) (by omega)) rfl ?_))))))
 refine Zkn rfl rfl Z03 zl3 rfl rfl rfl (by rw [List.length_append,Zp];omega) ?_
 rw [ZbW (by omega) (by omega),hdt]
 obtain ⟨jk,hjk⟩:∃ jk,jk=Z0q (l.length-i) [Value.int .i64 0]++junk:=⟨_,rfl⟩
 rw [← hjk]
 refine sqt 4 rfl (pur 2 rfl (sp rfl (PE.slHi Z03 rfl rfl (by omega)) rfl (pur 1 rfl (Z5 ?_))))
 refine Sy.heap (fun w h9=>St.rows (sz:=1) (rows:=Z3 (l.filter (fun x=>!p x))) (rest:=jk) (by rw [show (Z3 (l.filter (fun x=>!p x))).flatten=Zw (l.filter (fun x=>!p x)) from Z1c _];exact h9) (fun r hr=>by obtain ⟨x,_,rfl⟩:=List.mem_map.1 hr;rfl)) ?_
 exact rtA rfl rfl rfl ⟨_,cp,by omega,by rw [hdi];rfl,rfl,rfl⟩ drp
theorem Zel:cal Tryz.prog 117=true:=by kernel_rfl
theorem Zhy:cal Tryz.prog 118=true:=by kernel_rfl
theorem Zhz:cal Tryz.prog 119=true:=by kernel_rfl
theorem ZhA:cal Tryz.prog 120=true:=by kernel_rfl
theorem ZhB:cal Tryz.prog 121=true:=by kernel_rfl
theorem ZjX:Z0O Tryz.prog 100=some 1:=by kernel_rfl
theorem ZjZ:Z0O Tryz.prog 30=some 3:=by kernel_rfl
theorem ZiL:Z3n Tryz.prog 100=true:=by kernel_rfl
theorem Zkc:Z09 Tryz.prog 100=some ([.nilFunc]):=by kernel_rfl
def Hse.byP (h:Hse) (s:Sgt) (k:Int):Bool:=!Z1D h.gaps (msk [k]) [s]
def Hse.byL (h:Hse) (s:Sgt):List Int:=(h.clr h.sights (-1) 0).filter fun x=>!h.byP s x
def Hse.aptB (h:Hse):List Int→List Int→Bool
 | _,[]=>true
 | met,i::l=>match h.sights[i.toNat]? with
   | some s=>s.seen&&!(h.byL s).any (ZH met)&&h.aptB (met++h.byL s) l
   | none=>false
def Hse.aptH (h:Hse) (m:Nat) (l:List Int):Bool:=decide (l.length=m)&&h.aptB [] l
def Hse.aptK (h:Hse):Nat→List Int
 | 0=>[]
 | k+1=>match Z0t (h.aptH k) h.sights.length with
   | some x=>x
   | none=>h.aptK k
def Hse.aptR (h:Hse):List Int×Int:=bif decide (h.check≠0) then ([],h.check) else bif !h.agr h.sights then ([],7) else (h.aptK (h.sights.length+1),0)
theorem Z5f {h:Hse} {met l:List Int} {k:Nat} {i:Int} {s:Sgt} (hi:l[k]?=some i) (hs:h.sights[i.toNat]?=some s) (hf:s.seen=false∨(h.byL s).any (ZH met)=true):h.aptB met (l.drop k)=false:=by
 rw [List.drop_eq_getElem_cons (List.getElem?_eq_some_iff.1 hi).1,(List.getElem?_eq_some_iff.1 hi).2]
 unfold Hse.aptB
 rw [hs]
 dsimp only
 rcases hf with h1 | h1<;>rw [h1]
 · rfl
 · cases s.seen<;>rfl
theorem Zfd {h:Hse} {met l:List Int} {k:Nat} {i:Int} {s:Sgt} (hi:l[k]?=some i) (hs:h.sights[i.toNat]?=some s) (h1:s.seen=true) (h2:(h.byL s).any (ZH met)=false):h.aptB met (l.drop k)=h.aptB (met++h.byL s) (l.drop (k+1)):=by
 rw [List.drop_eq_getElem_cons (List.getElem?_eq_some_iff.1 hi).1,(List.getElem?_eq_some_iff.1 hi).2,Hse.aptB,hs]
 dsimp only
 rw [h1,h2];rfl
theorem Zfc (h:Hse) (met l:List Int):h.aptB met (l.drop l.length)=true:=by rw [List.drop_length];rfl
theorem Zfh (h:Hse) (s:Sgt):(h.byL s).length≤h.bins.toNat:=Nat.le_trans (List.length_filter_le _ _) (Z2V _ _ _ _)
theorem Z4O {has:List Int→Bool} {n:Nat} {x:List Int} (hx:Z0t has n=some x):x.length≤n:=by
 obtain ⟨⟨y,rfl,h1,h2,_⟩,_⟩:=Z35 hx
 rw [List.length_map];exact Z6h h1 h2
theorem Z88 (h:Hse):∀ k,(h.aptK k).length≤h.sights.length
 | 0=>Nat.zero_le _
 | k+1=>by
   unfold Hse.aptK
   cases hs:Z0t (h.aptH k) h.sights.length with
   | none=>exact Z88 h k
   | some x=>exact Z4O hs
theorem Zfu (h:Hse) (ag as_:Option Addr) (cg cs:Nat) (hok:h.ok) (bd bx bs:Nat) (s:Sgt) (hs:SOk h [s]) (k:Int) (hk:0≤k∧k<7) (H:Zf) (R:Z6) [hG:MemRows ag 2 (Z7 h.gaps) R] [hS:MemRows as_ 3 (Z8 h.sights) R] [mD:MemRows (some ⟨bd,0,none⟩) 4 [(dkA h ag as_ cg cs bd).row] R] [mX:MemRows (some ⟨bx,0,none⟩) 1 [[.pointer (some ⟨bd,0,none⟩)]] R] [mS:MemRows (some ⟨bs,0,none⟩) 3 [ZY s] R] :
    FnV Tryz.prog 119 [.int .i64 k,.pointer (some ⟨bx,0,none⟩),.pointer (some ⟨bs,0,none⟩)] H R (.bool (h.byP s k)):=by
 refine Zl Tryz.func119 rfl Tryz.ntmps119 rfl ?_
 refine sqt 1 rfl (pur 1 rfl (sqt 8 rfl (spL rfl rfl (lfB (sz:=1) Z9B rfl) rfl (pur 1 rfl ?_))))
 refine bsl (out:=[_]) rfl Z03 zl3 rfl rfl rfl rfl rfl rfl (fun b7=>?_)
 refine spL rfl rfl (ZkN (sz:=3) (row:=ZY s) (ZY s) Z6r (rest:=[]) (by simp) rfl) rfl ?_
 refine bsl (out:=[_,_,_]) rfl Z7j Z41 rfl rfl rfl rfl rfl rfl (fun b9=>?_)
 refine Sy.heap (fun w h9=>St.rows (sz:=1) (rows:=Z3 [k]) (rest:=[]) (h9.pull b7) (by simp)) ?_
 refine Sy.heap (fun w h9=>St.rows (sz:=3) (rows:=Z8 [s]) (rest:=[]) (h9.pull b9) (by simp [Z8,ZY])) ?_
 refine clV rfl Z6F rfl rfl (Z1M (dkA h ag as_ cg cs bd) (Z0l h ag as_ cg cs hok bd) rfl [k] (some ⟨b7,0,none⟩) 1 (by simp) (fun x hx=>by rw [List.mem_singleton.1 hx];exact hk) [s] (some ⟨b9,0,none⟩) 1 (by simp) hs _ _) ?_
 refine pur 2 rfl (Z5 ?_)
 exact rtA rfl rfl rfl ⟨rfl,rfl,rfl⟩ (fun w h9=>h9.ftail.ftail)
set_option maxHeartbeats 400000 in
theorem Zkj (h:Hse) (ag as_:Option Addr) (cg cs:Nat) (hok:h.ok) (bd bx b1 bf:Nat) (aF:Option Addr) (cF:Nat) (i:Nat) (s:Sgt) (hs:h.sights[i]?=some s) (H:Zf) (R:Z6) [hG:MemRows ag 2 (Z7 h.gaps) R] [hS:MemRows as_ 3 (Z8 h.sights) R] [mD:MemRows (some ⟨bd,0,none⟩) 4 [(dkA h ag as_ cg cs bd).row] R] [mX:MemRows (some ⟨bx,0,none⟩) 1 [[.pointer (some ⟨bd,0,none⟩)]] R] [mB:MemRows (some ⟨b1,0,none⟩) 3 [htl h (h.sg ag cg) (h.ss as_ cs)] R] [mF:MemRows (some ⟨bf,0,none⟩) 1 [[.slice aF (h.clr h.sights (-1) 0).length cF]] R] [hFr:MemRows aF 1 (Z3 (h.clr h.sights (-1) 0)) R] :
    Fn Tryz.prog 117 [.int .i64 (i:Int),.pointer (some ⟨b1,0,none⟩),.pointer (some ⟨bf,0,none⟩),.pointer (some ⟨bx,0,none⟩)] H R (fun v H' R'=>∃ a c,(h.byL s).length≤c∧v = .slice a (h.byL s).length c∧H'=H∧R'=RowsA a 1 (Z3 (h.byL s))::R):=by
 refine Zl Tryz.func117 rfl Tryz.ntmps117 rfl ?_
 refine sqt 1 rfl ?_
 have hil:=(List.getElem?_eq_some_iff.1 hs).1
 have hsl:=hok.sl
 have hcl:=Z2V h h.sights (-1) 0
 have hbn:=hok.bins
 refine Zh (a:=as_) (sz:=3) (rows:=Z8 h.sights) (ne0 (by rw [ZE];omega)) (fun bas bao he=>?_)
 subst he
 refine pur 1 rfl (sqt 7 rfl (sp rfl (PE.fA ZN rfl) rfl (spL rfl rfl (lfB (sz:=3) Z1L rfl) rfl (pur 1 rfl (sp rfl (PE.indexAddr Zdb rfl rfl (by omega) (by omega)) rfl (spL rfl rfl (lfA Z6r (row:=ZY s) (Z2q hs) rfl) rfl (alc rfl Z41 rfl (fun b6=>?_))))))))
 refine ZG (l':=ZY s) rfl rfl rfl ZjZ rfl rfl rfl rfl (nl rfl) ?_
 refine sqt 5 rfl ?_
 refine Sy.heap (fun w h9=>St.rows (sz:=3) (rows:=[ZY s]) (rest:=[]) (h9.pull b6) (by simp [ZY])) ?_
 refine spL rfl rfl (lfB (sz:=1) Z1t rfl) rfl ?_
 refine cl rfl ZcZ rfl rfl (Z1W (h.clr h.sights (-1) 0) aF cF (by omega) _ _) ?_
 rintro _ _ R1 ⟨o,rfl,rfl,hR1,_⟩
 obtain rfl:=hR1.symm
 clear hR1
 refine sp rfl (PE.makeFunc rfl rfl) rfl ?_
 have hso:SOk h [s]:=fun x hx=>by rw [List.mem_singleton.1 hx];exact hok.sights s (List.mem_of_getElem? hs)
 have hask:Zkf 119 [.pointer (some ⟨bx,0,none⟩),.pointer (some ⟨b6,0,none⟩)] (h.byP s) (h.clr h.sights (-1) 0) [RowsA (some ⟨bd,0,none⟩) 4 [(dkA h ag (some ⟨bas,bao,none⟩) cg cs bd).row],RowsA (some ⟨bx,0,none⟩) 1 [[.pointer (some ⟨bd,0,none⟩)]],RowsA (some ⟨b6,0,none⟩) 3 [ZY s],RowsA ag 2 (Z7 h.gaps),RowsA (some ⟨bas,bao,none⟩) 3 (Z8 h.sights)]:=⟨Zhz,fun x hx H R hf=>by
   haveI:MemRows (some ⟨bd,0,none⟩) 4 [(dkA h ag (some ⟨bas,bao,none⟩) cg cs bd).row] R:=⟨hf _ (by simp)⟩
   haveI:MemRows (some ⟨bx,0,none⟩) 1 [[.pointer (some ⟨bd,0,none⟩)]] R:=⟨hf _ (by simp)⟩
   haveI:MemRows (some ⟨b6,0,none⟩) 3 [ZY s] R:=⟨hf _ (by simp)⟩
   haveI:MemRows ag 2 (Z7 h.gaps) R:=⟨hf _ (by simp)⟩
   haveI:MemRows (some ⟨bas,bao,none⟩) 3 (Z8 h.sights) R:=⟨hf _ (by simp)⟩
   exact Zfu h ag (some ⟨bas,bao,none⟩) cg cs hok bd bx b6 s hso x (by have:=Z5k x hx;omega) _ _⟩
 refine cl rfl Zhy rfl rfl (Z6w (h.clr h.sights (-1) 0) o (by omega) 119 [.pointer (some ⟨bx,0,none⟩),.pointer (some ⟨b6,0,none⟩)] (h.byP s) _ hask _ _) ?_
 rintro _ _ R1 ⟨a9,c9,hc9,rfl,rfl,hR1⟩
 obtain rfl:=hR1.symm
 clear hR1
 refine pur 1 rfl (Z5 ?_)
 exact rtA rfl rfl rfl ⟨a9,c9,hc9,rfl,rfl,rfl⟩ (fun w h9=>h9.facts (fun g hg=>by simp only [List.mem_cons] at hg ⊢;rcases hg with h8 | h8<;>simp [h8,Hse.byL]))
theorem Zfv (met:List Int) (o:OSl 3 1 (Z3 met)) (hl:met.length≤1000000) (k:Int) (bm:Nat) (T:Zf) (R:Z6) [hM:Mem1 bm (cel 22 [o.fs]) T] :
    FnV Tryz.prog 121 [.int .i64 k,.pointer (some ⟨bm,0,none⟩)] (o.G++T) R (.bool (ZH met k)):=by
 refine Zl Tryz.func121 rfl Tryz.ntmps121 rfl ?_
 refine sqt 1 rfl (pur 1 rfl (sqt 4 rfl (spL rfl rfl (lh (v:=o.fs) Z1t rfl rfl) rfl (pur 1 rfl ?_))))
 refine clV rfl Z6H rfl rfl (FnV.lendO o (fun v=>[v,.int .i64 k]) (fun a5 c5 B9=>by rw [irl];exact Z08 met a5 c5 k (by omega) _ _)) ?_
 refine pur 1 rfl (Z5 ?_)
 exact rtA rfl rfl rfl ⟨rfl,rfl,rfl⟩ drp
set_option maxHeartbeats 600000 in
theorem Zhg (h:Hse) (ag as_:Option Addr) (cg cs:Nat) (hok:h.ok) (bd bx b1 bf bg7 bm9:Nat) (aF:Option Addr) (cF m:Nat) (l:List Int) (al:Option Addr) (cl:Nat) (hln:l.length≤h.sights.length) (hlx:∀ x∈l,0≤x∧x<(h.sights.length:Int)) (H:Zf) (R:Z6) [hG:MemRows ag 2 (Z7 h.gaps) R] [hS:MemRows as_ 3 (Z8 h.sights) R] [mD:MemRows (some ⟨bd,0,none⟩) 4 [(dkA h ag as_ cg cs bd).row] R] [mX:MemRows (some ⟨bx,0,none⟩) 1 [[.pointer (some ⟨bd,0,none⟩)]] R] [mB:MemRows (some ⟨b1,0,none⟩) 3 [htl h (h.sg ag cg) (h.ss as_ cs)] R] [mF:MemRows (some ⟨bf,0,none⟩) 1 [[.slice aF (h.clr h.sights (-1) 0).length cF]] R] [mG:MemRows (some ⟨bg7,0,none⟩) 1 [[.func (.func 117) #[] #[.pointer (some ⟨b1,0,none⟩),.pointer (some ⟨bf,0,none⟩),.pointer (some ⟨bx,0,none⟩)]]] R] [mM:MemRows (some ⟨bm9,0,none⟩) 1 [[.int .i64 (m:Int)]] R] [hFr:MemRows aF 1 (Z3 (h.clr h.sights (-1) 0)) R] [hL:MemRows al 1 (Z3 l) R] :
    FnV Tryz.prog 120 [.slice al l.length cl,.pointer (some ⟨bm9,0,none⟩),.pointer (some ⟨b1,0,none⟩),.pointer (some ⟨bg7,0,none⟩)] H R (.bool (h.aptH m l)):=by
 refine Zl Tryz.func120 rfl Tryz.ntmps120 rfl ?_
 refine sqt 1 rfl ?_
 have hsl:=hok.sl
 have hbn:=hok.bins
 refine pur 1 rfl (Z0 (sqt 4 rfl (pur 1 rfl (sp rfl (PE.lenSl Zy rfl) rfl (spL rfl rfl (lfB (sz:=1) sc3 rfl) rfl (pur 1 rfl ?_))))))
 refine Z1 rfl ?_ ?_<;>intro hc0<;>try simp only [cS] at hc0
 refine sqt 1 rfl (pur 1 rfl (Z5 ?_))
 exact rtA rfl rfl rfl ⟨by simp only [ZU];unfold Hse.aptH;rw [dF (show ¬ l.length=m by omega)];rfl,rfl,rfl⟩ drp
 have hlm:l.length=m:=by omega
 refine Z2 (sqt 1 rfl (alc rfl Z5c rfl (fun b6=>Z0 (sqt 3 rfl (pur 1 rfl (sp rfl (PE.lenSl Zy rfl) rfl (pur 1 rfl (Z4 ?_))))))))
 refine Ze (ι:=(y:{y:Nat×List Int // y.1≤l.length∧y.2.length≤7*y.1∧h.aptB y.2 (l.drop y.1)=h.aptB [] l})×OSl 3 1 (Z3 y.1.2)) (fun y=>⟨[(1,.pointer (some ⟨bm9,0,none⟩)),(2,.pointer (some ⟨b1,0,none⟩)),(3,.pointer (some ⟨bg7,0,none⟩)),(6,.pointer (some ⟨b6,0,none⟩)),(13,.slice al l.length cl),(14,.int .i64 l.length),(15,.int .i64 y.1.1.1)],y.2.G++((b6,cel 22 [y.2.fs])::H),R⟩) (fun y=>l.length-y.1.1.1) ⟨⟨(0,[]),Nat.zero_le _,Nat.zero_le _,rfl⟩,OSl.nil _ _⟩ ?_ (fun y=>?_)
 exact Zi idH
 obtain ⟨⟨⟨k,met⟩,hk,hml,hap⟩,o⟩:=y
 dsimp only at hk hml hap o ⊢
 refine sqt 1 rfl (pur 1 rfl (Z0 ?_))
 refine Z1 rfl ?_ ?_<;>intro hc1<;>try simp only [cS] at hc1
 obtain ⟨z,hz⟩:∃ z,l[k]?=some z:=⟨_,List.getElem?_eq_getElem (by omega)⟩
 have hzr:=hlx z (List.mem_of_getElem? hz)
 obtain ⟨zn,rfl⟩:∃ n:Nat,z=n:=⟨z.toNat,by omega⟩
 obtain ⟨s,hs⟩:∃ s,h.sights[zn]?=some s:=⟨_,List.getElem?_eq_getElem (by omega)⟩
 have hs2:h.sights[((zn:Nat):Int).toNat]?=some s:=by rw [Int.toNat_natCast];exact hs
 have hby:=Zfh h s
 refine Zh (a:=al) (sz:=1) (rows:=Z3 l) (ne0 (by rw [irl];omega)) (fun bl blo hebl=>?_)
 subst hebl
 refine Zh (a:=as_) (sz:=3) (rows:=Z8 h.sights) (ne0 (by rw [ZE];omega)) (fun bas bao he=>?_)
 subst he
 refine Z2 (Z0 (Z4 (sqt 3 rfl (sp rfl (PE.indexAddr Z0c rfl rfl (by omega) (by omega)) rfl (spL rfl rfl (lf0 sc3 (ZB hz) rfl) rfl (pur 1 rfl (Z0 (sqt 14 rfl (sp rfl (PE.fA ZN rfl) rfl (spL rfl rfl (lfB (sz:=3) Z1L rfl) rfl (pur 1 rfl (sp rfl (PE.indexAddr Zdb rfl rfl (by omega) (by omega)) rfl (sp rfl (PE.fA Zb3 rfl) rfl (spL rfl rfl (lf (j:=2) sc4 (Z2q hs) rfl) rfl (pur 2 rfl ?_)))))))))))))))
 refine Zj 26 rfl ?_ ?_<;>intro g26
 have hsf:s.seen=false:=by simpa using g26
 refine pur 6 rfl ?_
 refine ZP rfl ?_
 refine sqt 1 rfl (pur 1 rfl (Z5 ?_))
 first
   | exact rtA rfl rfl rfl ⟨by simp only [ZU];unfold Hse.aptH;rw [← hap,Z5f hz hs2 (.inl hsf),Bool.and_false],rfl,rfl⟩ (fun w h9=>(St.drop (G:=o.G) h9).del b6)
   | exact rtA rfl rfl rfl ⟨by simp only [ZU];unfold Hse.aptH;rw [← hap,Z5f hz hs2 (.inr hc2),Bool.and_false],rfl,rfl⟩ (fun w h9=>((St.drop (G:=o.G) h9).del b6).ftail)
   | exact rtA rfl rfl rfl ⟨by simp only [ZU];unfold Hse.aptH;rw [← hap,dT hlm];rfl,rfl,rfl⟩ (fun w h9=>(St.drop (G:=o.G) h9).del b6)
 have hst:s.seen=true:=by simpa using g26
 refine Z0m rfl rfl rfl rfl rfl (lfB (sz:=1) ZiL rfl) rfl (pur 1 rfl ?_)
 refine Zkm rfl rfl rfl rfl rfl (Zel) rfl rfl (Zkj h ag (some ⟨bas,bao,none⟩) cg cs hok bd bx b1 bf aF cF zn s hs _ _) ?_
 rintro _ _ R1 ⟨a29,c29,hc29,rfl,rfl,hR1⟩
 obtain rfl:=hR1.symm
 clear hR1
 refine spG rfl rfl rfl rfl (PE.makeFunc rfl rfl) rfl ?_
 refine Z0C rfl rfl rfl rfl ZcY rfl rfl (Z3d (h.byL s) a29 c29 121 [] [.pointer (some ⟨b6,0,none⟩)] (ZH met) ZhB (by omega) _ _ (fun x hx=>Zfv met o (by omega) x b6 ((b6,cel 22 [o.fs])::H) _)) ?_
 refine pur 1 rfl ?_
 refine Z1 rfl ?_ ?_<;>intro hc2<;>try simp only [cS] at hc2
 refine sqt 1 rfl (pur 1 rfl (Z5 ?_))
 first
   | exact rtA rfl rfl rfl ⟨by simp only [ZU];unfold Hse.aptH;rw [← hap,Z5f hz hs2 (.inl hsf),Bool.and_false],rfl,rfl⟩ (fun w h9=>(St.drop (G:=o.G) h9).del b6)
   | exact rtA rfl rfl rfl ⟨by simp only [ZU];unfold Hse.aptH;rw [← hap,Z5f hz hs2 (.inr hc2),Bool.and_false],rfl,rfl⟩ (fun w h9=>((St.drop (G:=o.G) h9).del b6).ftail)
   | exact rtA rfl rfl rfl ⟨by simp only [ZU];unfold Hse.aptH;rw [← hap,dT hlm];rfl,rfl,rfl⟩ (fun w h9=>(St.drop (G:=o.G) h9).del b6)
 have hay:=Zfd hz hs2 hst hc2
 rw [hay] at hap
 refine Z2 ?_
 refine Zo [0,0,0,6,15,31] (.ld 0 (.ld 1 (.tk 2 (.big 3 (.big 4 (.big 5 .done)))))) ZF (by kernel_rfl) ?_
 refine ld rfl rfl (lh (v:=o.fs) Z1t rfl rfl) rfl (ld rfl rfl (lfB (sz:=1) ZiL rfl) rfl (Zu 1 rfl ?_))
 refine clF rfl rfl (Zel) rfl rfl (Zkj h ag (some ⟨bas,bao,none⟩) cg cs hok bd bx b1 bf aF cF zn s hs _ _) ?_
 rintro _ _ R1 ⟨a36,c36,hc36,rfl,rfl,hR1⟩
 obtain rfl:=hR1.symm
 clear hR1
 refine bg (fun w hs=>⟨trivial,(lh (v:=o.fs) Z1t rfl rfl) w hs,trivial⟩) ?_
 refine apO (news:=Z3 (h.byL s)) o rfl Z1v rfl rfl (Z2o) (irl _) (by simp [ZO,Z3,Value.oneCell']) (by rw [irl,irl];omega) rfl (fun o37=>?_)
 refine bgT ?_
 refine ZG (l':=[o37.fs]) rfl rfl rfl Zer rfl (by rw [o37.cells.1];first | done | rfl) (by rw [o37.cells.1];simp [o37.cells.2]) (by rw [o37.cells.1];first | done | rfl) (by rw [o37.cells.1];first | done | exact Nat.le_of_ble_eq_true rfl) ?_
 refine bgT (sqr 2 rfl (sp rfl (PE.add rfl rfl (by omega)) rfl (pur 1 rfl ?_)))
 exact Zb ⟨⟨(k+1,met++h.byL s),by dsimp only;omega,by rw [List.length_append];dsimp only;omega,hap⟩,o37.cast (by simp [Z3])⟩ (fun w h9=>St.sub h9)
 obtain rfl:k=l.length:=by omega
 rw [Zfc] at hap
 refine Z9 (Za (Za (Zm (sqt 1 rfl (pur 1 rfl (Z5 ?_))))))
 first
   | exact rtA rfl rfl rfl ⟨by simp only [ZU];unfold Hse.aptH;rw [← hap,Z5f hz hs2 (.inl hsf),Bool.and_false],rfl,rfl⟩ (fun w h9=>(St.drop (G:=o.G) h9).del b6)
   | exact rtA rfl rfl rfl ⟨by simp only [ZU];unfold Hse.aptH;rw [← hap,Z5f hz hs2 (.inr hc2),Bool.and_false],rfl,rfl⟩ (fun w h9=>((St.drop (G:=o.G) h9).del b6).ftail)
   | exact rtA rfl rfl rfl ⟨by simp only [ZU];unfold Hse.aptH;rw [← hap,dT hlm];rfl,rfl,rfl⟩ (fun w h9=>(St.drop (G:=o.G) h9).del b6)
set_option maxHeartbeats 600000 in
theorem Zfk (h:Hse) (ag as_:Option Addr) (cg cs:Nat) (hlg:h.gaps.length≤9223372036854775807) (hls:h.sights.length≤9223372036854775807) (H:Zf) (R:Z6) [hG:MemRows ag 2 (Z7 h.gaps) R] [hS:MemRows as_ 3 (Z8 h.sights) R] :
    Fn Tryz.prog 68 [h.v (h.sg ag cg) (h.ss as_ cs)] H R (fun v H' R'=>∃ a c',h.aptR.1.length≤c'∧v = .tuple #[.slice a h.aptR.1.length c',.int .i64 h.aptR.2]∧H'=H∧R'=RowsA a 1 (Z3 h.aptR.1)::R):=by
 refine Zl Tryz.func68 rfl Tryz.ntmps68 rfl ?_
 refine sqt 3 rfl (bx rfl rfl rfl (fun b1=>pur 2 rfl (sqt 8 rfl (spL rfl rfl (lhA (htl h (h.sg ag cg) (h.ss as_ cs)) ZA rfl rfl rfl) rfl ?_))))
 refine cl rfl Z8h rfl rfl (Z48 h ag as_ cg cs hlg hls _ _) ?_
 rintro _ _ _ ⟨rfl,ho⟩
 rcases ho with ⟨hck,rfl,rfl⟩ | ⟨hck,hag,rfl,rfl⟩ | ⟨hck,hag,bd,rfl,rfl⟩
 refine pur 3 rfl (alc rfl ZgU rfl (fun b4=>?_))
 refine sto rfl rfl rfl ZfS rfl rfl rfl rfl ?_
 refine pur 1 rfl (Z0 (sqt 2 rfl (pur 2 rfl ?_)))
 refine Z1 rfl ?_ ?_<;>intro hc0
 have e:h.aptR=([],h.check):=by unfold Hse.aptR;rw [dT hck];rfl
 refine sqt 3 rfl (pur 3 rfl (Z5 ?_))
 rw [show h.check=(h.aptR).2 from by rw [e]]
 exact rtB rfl rfl rfl rfl ⟨none,0,by rw [e]<;>exact Nat.le_refl _,by rw [e]<;>rfl,rfl,by rw [e]<;>rfl⟩ (fun w h9=>St.norows ((h9.del b4).del b1))
 exact absurd hc0 (by simp [hck])
 refine pur 3 rfl (alc rfl ZgU rfl (fun b4=>?_))
 refine sto rfl rfl rfl ZfS rfl rfl rfl rfl ?_
 refine pur 1 rfl (Z0 (sqt 2 rfl (pur 2 rfl ?_)))
 refine Z1 rfl ?_ ?_<;>intro hc0
 have e:h.aptR=([],7):=by unfold Hse.aptR;rw [dF (by simp [hck]),hag];rfl
 refine sqt 3 rfl (pur 3 rfl (Z5 ?_))
 exact rtB rfl rfl rfl rfl ⟨none,0,by rw [e]<;>exact Nat.le_refl _,by rw [e]<;>rfl,rfl,by rw [e]<;>rfl⟩ (fun w h9=>St.norows ((h9.del b4).del b1))
 exact absurd hc0 (by simp)
 ·
  refine pur 3 rfl (alc rfl ZgU rfl (fun b4=>?_))
  refine sto rfl rfl rfl ZfS rfl rfl rfl rfl ?_
  refine pur 1 rfl (Z0 (sqt 2 rfl (pur 2 rfl ?_)))
  refine Z1 rfl ?_ ?_<;>intro hc0
  exact absurd hc0 (by simp)
  ·
   have hok:=hse_ok.1 hck
   have hbn:=hok.bins
   have hsl:=hok.sl
   have e:h.aptR=(h.aptK (h.sights.length+1),0):=by unfold Hse.aptR;rw [dF (by simp [hck]),hag];rfl
   refine Sy.heap (fun w h9=>h9.perm (by first | exact .refl _ | exact List.Perm.swap _ _ _)) ?_
   refine Z2 (sqt 6 rfl (spL rfl rfl (lh Z9B rfl rfl) rfl (sp rfl (PE.fA ZN rfl) rfl (spL rfl rfl (lh Z1L rfl rfl) rfl ?_))))
   refine cl rfl Z6G rfl rfl (Z4r (dkA h ag as_ cg cs bd) (Z0l h ag as_ cg cs hok bd) rfl h.sights as_ cs hls hok.sights (-1) 0 (by decide) _ _) ?_
   rintro _ _ R1 ⟨aF,cF,rfl,rfl,hR1⟩
   obtain rfl:=hR1.symm
   clear hR1
   rw [show (dkA h ag as_ cg cs bd).h=h from rfl]
   have hcl:=Z2V h h.sights (-1) 0
   refine alc rfl Z5c rfl (fun b6=>?_)
   refine ZG (l':=[.slice aF (h.clr h.sights (-1) 0).length cF]) rfl rfl rfl Zer rfl rfl rfl rfl (nl rfl) ?_
   refine sqt 3 rfl (sp rfl (PE.makeFunc rfl rfl) rfl (alc rfl Zkc rfl (fun b7=>?_)))
   refine ZG (l':=[.func (.func 117) #[] #[.pointer (some ⟨b1,0,none⟩),.pointer (some ⟨b6,0,none⟩),.pointer (some ⟨b4,0,none⟩)]]) rfl rfl rfl ZjX rfl rfl rfl rfl (nl rfl) ?_
   refine sqt 1 rfl ?_
   refine Sy.heap (fun w h9=>St.rows (sz:=3) (rows:=[htl h (h.sg ag cg) (h.ss as_ cs)]) (rest:=[]) (h9.pull b1) (by simp [htl])) ?_
   refine Sy.heap (fun w h9=>St.rows (sz:=1) (rows:=[[.pointer (some ⟨bd,0,none⟩)]]) (rest:=[]) (h9.pull b4) (by simp)) ?_
   refine Sy.heap (fun w h9=>St.rows (sz:=1) (rows:=[[.slice aF (h.clr h.sights (-1) 0).length cF]]) (rest:=[]) (h9.pull b6) (by simp)) ?_
   refine Sy.heap (fun w h9=>St.rows (sz:=1) (rows:=[[.func (.func 117) #[] #[.pointer (some ⟨b1,0,none⟩),.pointer (some ⟨b6,0,none⟩),.pointer (some ⟨b4,0,none⟩)]]]) (rest:=[]) (h9.pull b7) (by simp)) ?_
   refine Sy.heap (R':=RowsA none 1 (Z3 [])::RowsA (some ⟨b7,0,none⟩) 1 [[.func (.func 117) #[] #[.pointer (some ⟨b1,0,none⟩),.pointer (some ⟨b6,0,none⟩),.pointer (some ⟨b4,0,none⟩)]]]::RowsA (some ⟨b6,0,none⟩) 1 [[.slice aF (h.clr h.sights (-1) 0).length cF]]::RowsA aF 1 (Z3 (h.clr h.sights (-1) 0))::RowsA (some ⟨b4,0,none⟩) 1 [[.pointer (some ⟨bd,0,none⟩)]]::RowsA (some ⟨b1,0,none⟩) 3 [htl h (h.sg ag cg) (h.ss as_ cs)]::RowsA (some ⟨bd,0,none⟩) 4 [(dkA h ag as_ cg cs bd).row]::R) (fun w h9=>St.norows (h9.facts (fun g hg=>by simp only [List.mem_cons] at hg ⊢;rcases hg with h8 | h8 | h8 | h8 | h8 | h8 | h8<;>simp [h8]))) ?_
   refine pur 1 rfl (Z0 (sqt 5 rfl (sp rfl (PE.fA ZN rfl) rfl (spL rfl rfl (lfB (sz:=3) Z1L rfl) rfl (sp rfl (PE.lenSl Z2l rfl) rfl (sp rfl (PE.add rfl rfl (by omega)) rfl (pur 1 rfl (Z4 ?_))))))))
   refine Ze (ι:={y:Nat×Option Addr×Nat // y.1≤h.sights.length+1∧(h.aptK y.1).length≤y.2.2}) (fun y=>⟨[(1,.pointer (some ⟨b1,0,none⟩)),(7,.pointer (some ⟨b7,0,none⟩)),(8,.slice y.1.2.1 (h.aptK y.1.1).length y.1.2.2),(28,.int .i64 ((h.sights.length:Int)+1)),(29,.int .i64 y.1.1)],H,RowsA y.1.2.1 1 (Z3 (h.aptK y.1.1))::RowsA (some ⟨b7,0,none⟩) 1 [[.func (.func 117) #[] #[.pointer (some ⟨b1,0,none⟩),.pointer (some ⟨b6,0,none⟩),.pointer (some ⟨b4,0,none⟩)]]]::RowsA (some ⟨b6,0,none⟩) 1 [[.slice aF (h.clr h.sights (-1) 0).length cF]]::RowsA aF 1 (Z3 (h.clr h.sights (-1) 0))::RowsA (some ⟨b4,0,none⟩) 1 [[.pointer (some ⟨bd,0,none⟩)]]::RowsA (some ⟨b1,0,none⟩) 3 [htl h (h.sg ag cg) (h.ss as_ cs)]::RowsA (some ⟨bd,0,none⟩) 4 [(dkA h ag as_ cg cs bd).row]::R⟩) (fun y=>h.sights.length+1-y.1.1) ⟨(0,none,0),Nat.zero_le _,Nat.le_refl _⟩ ?_ (fun y=>?_)
   exact Zi idH
   obtain ⟨⟨k,aB,cB⟩,hk,hcB⟩:=y
   dsimp only at hk hcB ⊢
   refine sqt 1 rfl (pur 1 rfl (Z0 ?_))
   refine Z1 rfl ?_ ?_<;>intro hc1<;>try simp only [cS] at hc1
   refine Z2 (Z0 (Z4 (sqt 3 rfl (pur 1 rfl (alc rfl zl3 rfl (fun b9=>?_))))))
   refine ZG (l':=[.int .i64 (k:Int)]) rfl rfl rfl cn3 rfl rfl rfl rfl (nl rfl) ?_
   refine sqt 10 rfl ?_
   refine Sy.heap (fun w h9=>St.rows (sz:=1) (rows:=[[.int .i64 (k:Int)]]) (rest:=[]) (h9.pull b9) (by simp)) ?_
   have hask:ZgV 120 [.pointer (some ⟨b9,0,none⟩),.pointer (some ⟨b1,0,none⟩),.pointer (some ⟨b7,0,none⟩)] (h.aptH k) h.sights.length [RowsA (some ⟨b9,0,none⟩) 1 [[.int .i64 (k:Int)]],RowsA (some ⟨b7,0,none⟩) 1 [[.func (.func 117) #[] #[.pointer (some ⟨b1,0,none⟩),.pointer (some ⟨b6,0,none⟩),.pointer (some ⟨b4,0,none⟩)]]],RowsA (some ⟨b6,0,none⟩) 1 [[.slice aF (h.clr h.sights (-1) 0).length cF]],RowsA aF 1 (Z3 (h.clr h.sights (-1) 0)),RowsA (some ⟨b4,0,none⟩) 1 [[.pointer (some ⟨bd,0,none⟩)]],RowsA (some ⟨b1,0,none⟩) 3 [htl h (h.sg ag cg) (h.ss as_ cs)],RowsA (some ⟨bd,0,none⟩) 4 [(dkA h ag as_ cg cs bd).row],RowsA ag 2 (Z7 h.gaps),RowsA as_ 3 (Z8 h.sights)]:=⟨ZhA,fun l a c H R hf hr hx hl=>by
     haveI:MemRows (some ⟨b9,0,none⟩) 1 [[.int .i64 (k:Int)]] R:=⟨hf _ (by simp)⟩
     haveI:MemRows (some ⟨b7,0,none⟩) 1 [[.func (.func 117) #[] #[.pointer (some ⟨b1,0,none⟩),.pointer (some ⟨b6,0,none⟩),.pointer (some ⟨b4,0,none⟩)]]] R:=⟨hf _ (by simp)⟩
     haveI:MemRows (some ⟨b6,0,none⟩) 1 [[.slice aF (h.clr h.sights (-1) 0).length cF]] R:=⟨hf _ (by simp)⟩
     haveI:MemRows aF 1 (Z3 (h.clr h.sights (-1) 0)) R:=⟨hf _ (by simp)⟩
     haveI:MemRows (some ⟨b4,0,none⟩) 1 [[.pointer (some ⟨bd,0,none⟩)]] R:=⟨hf _ (by simp)⟩
     haveI:MemRows (some ⟨b1,0,none⟩) 3 [htl h (h.sg ag cg) (h.ss as_ cs)] R:=⟨hf _ (by simp)⟩
     haveI:MemRows (some ⟨bd,0,none⟩) 4 [(dkA h ag as_ cg cs bd).row] R:=⟨hf _ (by simp)⟩
     haveI:MemRows ag 2 (Z7 h.gaps) R:=⟨hf _ (by simp)⟩
     haveI:MemRows as_ 3 (Z8 h.sights) R:=⟨hf _ (by simp)⟩
     haveI:MemRows a 1 (Z3 l) R:=⟨hr⟩
     exact Zhg h ag as_ cg cs hok bd b4 b1 b6 b7 b9 aF cF k l a c hl hx _ _⟩
   refine sp rfl (PE.fA ZN rfl) rfl (spL rfl rfl (lfB (sz:=3) Z1L rfl) rfl (sp rfl (PE.lenSl Z2l rfl) rfl (sp rfl (PE.makeFunc rfl rfl) rfl ?_)))
   refine cl rfl Zav rfl rfl (Z3A 120 [.pointer (some ⟨b9,0,none⟩),.pointer (some ⟨b1,0,none⟩),.pointer (some ⟨b7,0,none⟩)] (h.aptH k) h.sights.length [RowsA (some ⟨b9,0,none⟩) 1 [[.int .i64 (k:Int)]],RowsA (some ⟨b7,0,none⟩) 1 [[.func (.func 117) #[] #[.pointer (some ⟨b1,0,none⟩),.pointer (some ⟨b6,0,none⟩),.pointer (some ⟨b4,0,none⟩)]]],RowsA (some ⟨b6,0,none⟩) 1 [[.slice aF (h.clr h.sights (-1) 0).length cF]],RowsA aF 1 (Z3 (h.clr h.sights (-1) 0)),RowsA (some ⟨b4,0,none⟩) 1 [[.pointer (some ⟨bd,0,none⟩)]],RowsA (some ⟨b1,0,none⟩) 3 [htl h (h.sg ag cg) (h.ss as_ cs)],RowsA (some ⟨bd,0,none⟩) 4 [(dkA h ag as_ cg cs bd).row],RowsA ag 2 (Z7 h.gaps),RowsA as_ 3 (Z8 h.sights)] hask (by omega) _ _) ?_
   rintro _ _ _ ⟨rfl,ho⟩
   rcases ho with ⟨hsh,rfl,rfl⟩ | ⟨x,a,c,hsh,hxc,rfl,rfl⟩
   refine pur 5 rfl (sqt 1 rfl (pur 1 rfl ?_))
   refine Z1 rfl ?_ ?_<;>intro hc2
   exact absurd hc2 (by simp)
   have hak:h.aptK (k+1)=h.aptK k:=by rw [Hse.aptK,hsh]
   refine Z2 (sqr 2 rfl (sp rfl (PE.add rfl rfl (by omega)) rfl (pur 1 rfl ?_)))
   exact Zc ⟨(k+1,aB,cB),by dsimp only;omega,by dsimp only;rw [hak];exact hcB⟩ (by dsimp only;omega) (by dsimp only;rw [hak];exact sbA) (fun w h9=>by dsimp only;rw [hak];exact h9.ftail)
   refine pur 5 rfl (sqt 1 rfl (pur 1 rfl ?_))
   refine Z1 rfl ?_ ?_<;>intro hc2
   have hak:h.aptK (k+1)=x:=by rw [Hse.aptK,hsh]
   refine sqr 2 rfl (pur 2 rfl (sqr 2 rfl (sp rfl (PE.add rfl rfl (by omega)) rfl (pur 1 rfl ?_))))
   exact Zc ⟨(k+1,a,c),by dsimp only;omega,by dsimp only;rw [hak];exact hxc⟩ (by dsimp only;omega) (by dsimp only;rw [hak];exact sbA) (fun w h9=>by dsimp only;rw [hak];exact h9.facts (fun g hg=>by simp only [List.mem_cons] at hg ⊢;rcases hg with h8 | h8<;>simp [h8]))
   exact absurd hc2 (by simp)
   obtain rfl:k=h.sights.length+1:=by omega
   refine Z9 (Za (Za (Zm (sqt 3 rfl (pur 3 rfl (Z5 ?_))))))
   exact rtB rfl rfl rfl rfl ⟨aB,cB,by rw [e];exact hcB,by rw [e]<;>rfl,rfl,rfl⟩ (fun w h9=>h9.facts (fun g hg=>by rw [e] at hg;simp only [List.mem_cons] at hg ⊢;rcases hg with h8 | h8<;>simp [h8]))
end Go.Proofs.YtclnhdkneegfkaaGreat
namespace Go.Proofs.YtclnhdkneegfkaaGreat
set_option linter.unusedSimpArgs false
set_option linter.unusedVariables false
def Z1B (c:Nat):List Nat→Nat
 | []=>c
 | l::ls=>Z1B (c|||l) ls
def Z2O (gs:List Gp) (m c:Nat):List Nat→Nat
 | []=>m
 | l::ls=>Z2O gs (spr gs (c|||l) m) (c|||l) ls
theorem ZbK {gs:List Gp} (hw:Wth gs 7):∀ {ls:List Nat} {m c:Nat},m<2 ^ 7→Z2O gs m c ls<2 ^ 7
 | [],_,_,h=>h
 | l::ls,m,c,h=>by
   show Z2O gs (spr gs (c|||l) m) (c|||l) ls<2 ^ 7
   exact ZbK hw (ls:=ls) (Z3q hw h)
theorem Zbk {gs:List Gp} {cl:Nat→Nat} {ls:List Nat} {m:Nat}:∀ (t:Nat),t≤ls.length→(∀ i,i<t→cl i=Z1B 0 (ls.take (i+1)))→lvp gs cl m t=Z2O gs m 0 (ls.take t)
 | 0,_,_=>rfl
 | t+1,ht,hc=>by
   have ih:=Zbk (gs:=gs) (m:=m) t (by omega) (fun i hi=>hc i (by omega))
   have key:∀ (ls:List Nat) (m c t:Nat),t<ls.length→Z2O gs m c (ls.take (t+1))=spr gs (Z1B c (ls.take (t+1))) (Z2O gs m c (ls.take t)):=by
     intro ls
     induction ls with
     | nil=>intro m c t h;cases h
     | cons l ls ih2 =>
       intro m c t h
       cases t with
       | zero=>rfl
       | succ t=>exact ih2 _ _ t (by simpa using h)
   show spr gs (cl t) (lvp gs cl m t)=_
   rw [key ls m 0 t (by omega),← ih,hc t (by omega)]
theorem Z8H {gs:List Gp} {cl:Nat→Nat} {m t c:Nat} (h:∀ i,t≤i→cl i=c):∀ j,lvp gs cl m (t+j)=lv gs c (lvp gs cl m t) j
 | 0=>rfl
 | j+1=>by
   show spr gs (cl (t+j)) (lvp gs cl m (t+j))=spr gs c (lv gs c (lvp gs cl m t) j)
   rw [h (t+j) (by omega),Z8H h j]
theorem Z76 {gs:List Gp} {n c m K j:Nat} (h:Wth gs n) (hm:m<2 ^ n) (hj:n≤j+1):Shut gs c m K↔lv gs c m j&&&K=0:=by
 constructor
 · intro hs;exact and_zero.2 fun v hv=>hs j v hv
 · intro h0 t v hv
   rcases Nat.lt_or_ge t j with h1 | h1
   · exact and_zero.1 h0 v (Zbj (by omega) hv)
   · rw [Z4I h hm hj h1] at hv;exact and_zero.1 h0 v hv
open Go
def Z9I (l:List Int):Bool:=(List.range (l.length-1)).all fun i=>decide (na l i<na l (i+1))
def lE (gl:Nat) (sp:Int) (l:List Int):Int:=bif !(l.all fun k=>inB k 0 ((gl:Int)-1)) then 1 else bif !Z9I l then 4 else bif decide (sp<(l.length:Int)) then 9 else 0
def plE (gl:Nat) (sp:Int):List (List Int)→Int
 | []=>0
 | l::ls=>bif decide (lE gl sp l≠0) then lE gl sp l else plE gl sp ls
theorem Z5r {gl:Nat} {sp:Int} {pl:List (List Int)} {k:Nat} {l:List Int} (h0:plE gl sp (pl.take k)=0) (hl:pl[k]?=some l) (he:lE gl sp l≠0):plE gl sp pl=lE gl sp l:=by
 induction pl generalizing k with
 | nil=>cases hl
 | cons x pl ih =>
   cases k with
   | zero =>
     rw [List.getElem?_cons_zero] at hl
     obtain rfl:=Option.some.inj hl
     unfold plE;rw [decide_eq_true he];rfl
   | succ k =>
     rw [List.getElem?_cons_succ] at hl
     rw [List.take_succ_cons] at h0
     unfold plE at h0 ⊢
     by_cases hx:lE gl sp x=0
     · rw [decide_eq_false (by simpa using hx),cond_false] at h0 ⊢
       exact ih h0 hl
     · rw [decide_eq_true hx,cond_true] at h0;exact absurd h0 hx
theorem ZeO {gl:Nat} {sp:Int} {pl:List (List Int)} {k:Nat} {l:List Int} (h0:plE gl sp (pl.take k)=0) (hl:pl[k]?=some l) (he:lE gl sp l=0):plE gl sp (pl.take (k+1))=0:=by
 induction pl generalizing k with
 | nil=>cases hl
 | cons x pl ih =>
   cases k with
   | zero =>
     rw [List.getElem?_cons_zero] at hl
     obtain rfl:=Option.some.inj hl
     rw [List.take_succ_cons]
     unfold plE;rw [decide_eq_false (by simpa using he)];rfl
   | succ k =>
     rw [List.getElem?_cons_succ] at hl
     rw [List.take_succ_cons] at h0
     rw [List.take_succ_cons]
     unfold plE at h0 ⊢
     by_cases hx:lE gl sp x=0
     · rw [decide_eq_false (by simpa using hx),cond_false] at h0 ⊢
       exact ih h0 hl
     · rw [decide_eq_true hx,cond_true] at h0;exact absurd h0 hx
theorem plE_zero {gl:Nat} {sp:Int}:∀ {pl:List (List Int)},plE gl sp pl=0↔∀ l∈pl,lE gl sp l=0
 | []=>by simp [plE]
 | x::pl=>by
   unfold plE
   by_cases hx:lE gl sp x=0
   · rw [decide_eq_false (by simpa using hx),cond_false,plE_zero,List.forall_mem_cons]
     exact ⟨fun h=>⟨hx,h⟩,fun h=>h.2⟩
   · rw [decide_eq_true hx,cond_true]
     exact ⟨fun h=>absurd h hx,fun h=>absurd (h x (by simp)) hx⟩
theorem Zea {l:List Int} {i:Nat} (hi:i+1<l.length) (h:na l (i+1)≤na l i):Z9I l=false:=by
 unfold Z9I
 rw [List.all_eq_false]
 exact ⟨i,List.mem_range.2 (by omega),by simp;omega⟩
theorem Z7m {l:List Int} (h:∀ i,i+1<l.length→na l i<na l (i+1)):Z9I l=true:=by
 unfold Z9I
 rw [List.all_eq_true]
 intro i hi
 exact decide_eq_true (h i (by have:=List.mem_range.1 hi;omega))
theorem Zgb {gl:Nat} {sp:Int} {l:List Int} (h:lE gl sp l=0):(∀ x∈l,0≤x∧x<gl)∧Z9I l=true∧(l.length:Int)≤sp:=by
 unfold lE at h
 cases h1:l.all fun k=>inB k 0 ((gl:Int)-1) with
 | false=>rw [h1] at h;cases h
 | true =>
   rw [h1] at h
   cases h2:Z9I l with
   | false=>rw [h2] at h;cases h
   | true =>
     rw [h2] at h
     by_cases h3:sp<(l.length:Int)
     · rw [decide_eq_true h3] at h;cases h
     · refine ⟨fun x hx=>?_,rfl,by omega⟩
       have:=List.all_eq_true.1 h1 x hx
       simp only [inB,Bool.and_eq_true,decide_eq_true_eq] at this;omega
def Hse.svE (h:Hse) (fr to_:List Int) (sp:Int) (pl:List (List Int)):Int:=bif decide (h.rcE fr to_ sp≠0) then h.rcE fr to_ sp else bif decide (9<pl.length) then 2 else bif decide (plE h.gaps.length sp pl≠0) then plE h.gaps.length sp pl else ZM (h.gaps.length:Int) pl.flatten
def Hse.svM (h:Hse) (fr:List Int) (M:List Nat):Nat:=lv h.gaps (Z1B 0 M) (Z2O h.gaps (msk fr) 0 M) h.bins.toNat
def Hse.svB (h:Hse) (fr to_:List Int) (pl:List (List Int)):Bool:=decide (h.svM fr (pl.map msk)&&&msk to_=0)
def Hse.svR (h:Hse) (fr to_:List Int) (sp:Int) (pl:List (List Int)):Bool×Int:=(decide (h.svE fr to_ sp pl=0)&&h.svB fr to_ pl,h.svE fr to_ sp pl)
theorem Z8m:∀ (M:List Nat) (c l:Nat),Z1B c (M++[l])=Z1B c M|||l
 | [],_,_=>rfl
 | x::M,c,l=>Z8m M (c|||x) l
theorem Z90 {gs:List Gp}:∀ (M:List Nat) (m c l:Nat),Z2O gs m c (M++[l])=spr gs (Z1B c M|||l) (Z2O gs m c M)
 | [],_,_,_=>rfl
 | x::M,m,c,l=>Z90 M (spr gs (c|||x) m) (c|||x) l
theorem Z5q (a b:List Int):msk (a++b)=msk a|||msk b:=Z0i fun k=>by
 rw [Nat.testBit_or,Z4h,Z4h,Z4h,List.any_append]
theorem ZaL:∀ (L:List (List Int)) (c:Nat),Z1B c (L.map msk)=c|||msk L.flatten
 | [],c=>(Nat.or_zero c).symm
 | l::L,c=>by
   rw [List.map_cons,List.flatten_cons,Z5q,← Nat.or_assoc]
   exact ZaL L (c|||msk l)
theorem Zeq {n:Nat}:∀ {M:List Nat} {c:Nat},c<2 ^ n→(∀ l∈M,l<2 ^ n)→Z1B c M<2 ^ n
 | [],_,hc,_=>hc
 | l::M,c,hc,h=>by
   show Z1B (c|||l) M<2 ^ n
   exact Zeq (ZdE hc (h l (by simp))) (fun x hx=>h x (List.mem_cons_of_mem _ hx))
theorem Zii {n:Nat} {l:List Int} (hr:∀ x∈l,0≤x∧x<n) (hn:l.Nodup):cnt n (msk l)=l.length:=by
 rw [← Z2z,show l.length=(l.map Int.toNat).length from (List.length_map _).symm]
 refine List.Perm.length_eq ((List.perm_ext_iff_of_nodup (List.nodup_range.sublist List.filter_sublist) ?_).2 fun x=>?_)
 · rw [List.nodup_iff_pairwise_ne,List.pairwise_map]
   exact (List.nodup_iff_pairwise_ne.1 hn).imp_of_mem fun {a b} ha hb hab e=>by
     have:=hr a ha;have:=hr b hb;omega
 · rw [List.mem_filter,List.mem_range,List.mem_map,ZK (fun k hk=>(hr k hk).1)]
   constructor
   · rintro ⟨_,hx⟩;exact ⟨_,hx,Int.toNat_natCast x⟩
   · rintro ⟨y,hy,rfl⟩
     have:=hr y hy
     exact ⟨by omega,by rw [show ((y.toNat:Nat):Int)=y by omega];exact hy⟩
theorem Zc6 {h:Hse} (hk:h.ok) {fr to_:List Int} (hf:∀ x∈fr,0≤x∧x<h.bins) {pl:List PL} (hpl:pl.length≤9) :
   (h.svB fr to_ (lls pl)=true↔Shut h.gaps (Z1B 0 ((lls pl).map msk)) (Z2O h.gaps (msk fr) 0 ((lls pl).map msk)) (msk to_))∧(h.svB fr to_ (lls pl)=true↔lvp h.gaps (clP pl) (msk fr) 20&&&msk to_=0):=by
 have hb:=hk.bins
 have hm:msk fr<2 ^ 7:=Z0Y fun x hx=>by have:=hf x hx;omega
 have hw:Wth h.gaps h.bins.toNat:=fun g hg=>by have:=hk.gaps g hg;omega
 have hml:msk fr<2 ^ h.bins.toNat:=Z0Y fun x hx=>by have:=hf x hx;omega
 have hrl:∀ {M:List Nat} {m c:Nat},m<2 ^ h.bins.toNat→Z2O h.gaps m c M<2 ^ h.bins.toNat:=fun {M}=>by
   induction M with
   | nil=>intro m c h;exact h
   | cons l M ih=>intro m c h9;exact ih (Z3q hw h9)
 have hr:=hrl (M:=(lls pl).map msk) (c:=0) hml
 have hll:((lls pl).map msk).length=pl.length:=by rw [List.length_map,Z04]
 have e1:∀ i,clP pl i=Z1B 0 (((lls pl).map msk).take (i+1)):=fun i=>by
   rw [← List.map_take,ZaL,Nat.zero_or]
   unfold clP Z2h lls
   rw [List.map_take]
 have e2:lvp h.gaps (clP pl) (msk fr) pl.length=Z2O h.gaps (msk fr) 0 ((lls pl).map msk):=by
   have:=Zbk (gs:=h.gaps) (cl:=clP pl) (ls:=(lls pl).map msk) (m:=msk fr) pl.length (by omega) (fun i hi=>e1 i)
   rw [this,List.take_of_length_le (by omega)]
 have e3:∀ i,pl.length≤i→clP pl i=Z1B 0 ((lls pl).map msk):=fun i hi=>by rw [e1,List.take_of_length_le (by omega)]
 have e4:lvp h.gaps (clP pl) (msk fr) 20=lv h.gaps (Z1B 0 ((lls pl).map msk)) (Z2O h.gaps (msk fr) 0 ((lls pl).map msk)) (20-pl.length):=by
   have:=Z8H (gs:=h.gaps) (m:=msk fr) e3 (20-pl.length)
   rw [show pl.length+(20-pl.length)=20 by omega,e2] at this;exact this
 have s1:=Z76 (c:=Z1B 0 ((lls pl).map msk)) (K:=msk to_) hw hr (j:=h.bins.toNat) (by omega)
 have s2:=Z76 (c:=Z1B 0 ((lls pl).map msk)) (K:=msk to_) hw hr (j:=20-pl.length) (by omega)
 have k1:h.svB fr to_ (lls pl)=true↔lv h.gaps (Z1B 0 ((lls pl).map msk)) (Z2O h.gaps (msk fr) 0 ((lls pl).map msk)) h.bins.toNat&&&msk to_=0:=by
   unfold Hse.svB Hse.svM
   rw [decide_eq_true_eq]
 exact ⟨k1.trans s1.symm,by rw [e4];exact k1.trans (s1.symm.trans s2)⟩
theorem Z40 {h:Hse} {fr to_:List Int} {sp:Int} {pl:List (List Int)} {e:Int} (he:h.svE fr to_ sp pl=e) (h0:e≠0):h.svR fr to_ sp pl=(false,e):=by unfold Hse.svR;rw [he,decide_eq_false h0];rfl
theorem ZeW {h:Hse} {fr to_:List Int} {sp:Int} {pl:List (List Int)} (h0:h.rcE fr to_ sp≠0):h.svE fr to_ sp pl=h.rcE fr to_ sp:=by unfold Hse.svE;rw [decide_eq_true h0];rfl
theorem Ze1 {h:Hse} {fr to_:List Int} {sp:Int} {pl:List (List Int)} (h0:h.rcE fr to_ sp=0) (h1:9<pl.length):h.svE fr to_ sp pl=2:=by unfold Hse.svE;rw [h0,decide_eq_true h1];rfl
theorem Zc7 {h:Hse} {fr to_:List Int} {sp:Int} {pl:List (List Int)} (h0:h.rcE fr to_ sp=0) (h1:¬ 9<pl.length) (h2:plE h.gaps.length sp pl≠0):h.svE fr to_ sp pl=plE h.gaps.length sp pl:=by unfold Hse.svE;rw [h0,decide_eq_false h1,decide_eq_true h2];rfl
theorem ZiV {h:Hse} {fr to_:List Int} {sp:Int} {pl:List (List Int)} (h0:h.rcE fr to_ sp=0) (h1:¬ 9<pl.length) (h2:plE h.gaps.length sp pl=0):h.svE fr to_ sp pl=ZM (h.gaps.length:Int) pl.flatten:=by unfold Hse.svE;rw [h0,decide_eq_false h1,h2];rfl
theorem ZeX {h:Hse} {fr to_:List Int} {sp:Int} {pl:List (List Int)} (he:h.svE fr to_ sp pl=0):h.svR fr to_ sp pl=(h.svB fr to_ pl,0):=by unfold Hse.svR;rw [he];rfl
theorem ZeF {gl:Nat} {sp:Int} {l:List Int} (h:(!(l.all fun k=>inB k 0 ((gl:Int)-1)))=true):lE gl sp l=1:=by unfold lE;rw [h];rfl
theorem ZeE {gl:Nat} {sp:Int} {l:List Int} (h:(!(l.all fun k=>inB k 0 ((gl:Int)-1)))=false) (h2:Z9I l=false):lE gl sp l=4:=by unfold lE;rw [h,h2];rfl
theorem Z7E {gl:Nat} {sp:Int} {l:List Int} (h:(!(l.all fun k=>inB k 0 ((gl:Int)-1)))=false) (h2:Z9I l=true):lE gl sp l=bif decide (sp<(l.length:Int)) then 9 else 0:=by unfold lE;rw [h,h2];rfl
theorem Z4V {α:Type} {l:List α} {k:Nat} {x:α} (h:l[k]?=some x):l.take (k+1)=l.take k++[x]:=by rw [List.take_add_one,h];rfl
set_option maxHeartbeats 1000000 in
theorem Zfq (h:Hse) (ag as_:Option Addr) (cg cs:Nat) (hlg:h.gaps.length≤9223372036854775807) (hls:h.sights.length≤9223372036854775807) (fr to_:List Int) (af at_:Option Addr) (cf ct:Nat) (hlf:fr.length≤1000000) (hlt:to_.length≤1000000) (hfc:fr.length≤cf) (htc:to_.length≤ct) (spd:Int) (pl:List PL) (ap:Option Addr) (cp:Nat) (hpl:pl.length≤1000000) (htot:(lls pl).flatten.length≤1000000) (H:Zf) (R:Z6) [hG:MemRows ag 2 (Z7 h.gaps) R] [hS:MemRows as_ 3 (Z8 h.sights) R] [hF:MemRows af 1 (Z3 fr) R] [hT:MemRows at_ 1 (Z3 to_) R] [hP:MemRows ap 1 (Zg pl) R] [hI:MemF (Inn pl) R] :
    FnV Tryz.prog 27 [h.v (h.sg ag cg) (h.ss as_ cs),.slice af fr.length cf,.slice at_ to_.length ct,.int .i64 spd,.slice ap pl.length cp] H R (.tuple #[.bool (h.svR fr to_ spd (lls pl)).1,.int .i64 (h.svR fr to_ spd (lls pl)).2]):=by
 refine Zl Tryz.func27 rfl Tryz.ntmps27 rfl ?_
 refine sqt 3 rfl (bx rfl rfl rfl (fun b5=>pur 2 rfl (sqt 10 rfl (spL rfl rfl (lhA (htl h (h.sg ag cg) (h.ss as_ cs)) ZA rfl rfl rfl) rfl (pur 3 rfl ?_)))))
 refine cl rfl ZhZ rfl rfl (Zat h ag as_ cg cs hlg hls fr to_ af at_ cf ct hlf hlt hfc htc spd _ _) ?_
 rintro _ _ R1 (⟨hre,rfl,rfl,hR1⟩ | ⟨hre,bd,br,mm,rfl,rfl,hR1⟩)<;>obtain rfl:=hR1.symm<;>clear hR1
 refine pur 5 rfl (Z0 (sqt 2 rfl (pur 2 rfl ?_)))
 refine Z1 rfl ?_ ?_<;>intro hc0
 refine sqt 3 rfl (pur 3 rfl (Z5 ?_))
 exact rtB rfl rfl rfl rfl ⟨by rw [Z40 (ZeW hre) (hre)]<;>rfl,rfl,rfl⟩ (fun w h9=>h9.del b5)
 exact absurd hc0 (by simp [hre])
 refine pur 5 rfl (Z0 (sqt 2 rfl (pur 2 rfl ?_)))
 refine Z1 rfl ?_ ?_<;>intro hc0
 exact absurd hc0 (by simp)
 obtain ⟨hb,hs0,hs10⟩:=ZdO hre
 obtain ⟨q1,q2,q3,q4,q5,q6⟩:=ZV hb
 have hok:=hb.ok
 have hgl:=hok.gl
 have hbn:=hok.bins
 have hll:=Z04 pl
 have hw7:Wth h.gaps 7:=fun g hg=>by have:=hok.gaps g hg;have:=hok.bins;omega
 have hS7:msk fr<2 ^ 7:=Z0Y fun x hx=>q1 x hx
 have hxl:∀ x∈pl,x.l.length≤1000000:=fun x hx=>by
   have hm:x.l∈lls pl:=List.mem_map.2 ⟨x,hx,rfl⟩
   have:=List.Sublist.length_le (List.sublist_flatten_of_mem hm)
   omega
 refine Z2 (Z0 (sqt 3 rfl (pur 1 rfl (sp rfl (PE.lenSl Z0J rfl) rfl (pur 1 rfl ?_)))))
 refine Z1 rfl ?_ ?_<;>intro hc1<;>try simp only [cS] at hc1
 refine sqt 2 rfl (pur 2 rfl (Z5 ?_))
 exact rtB rfl rfl rfl rfl ⟨by rw [Z40 (Ze1 hre (by omega)) (by decide)]<;>rfl,rfl,rfl⟩ (fun w h9=>St.sub ((h9.del mm).del b5))
 refine Z2 (Z0 (sqt 3 rfl (pur 1 rfl (sp rfl (PE.lenSl Z0J rfl) rfl (pur 1 rfl (Z4 ?_))))))
 refine Ze (ι:={k:Nat // k≤pl.length∧plE h.gaps.length spd ((lls pl).take k)=0}) (fun k=>⟨[(1,.slice af fr.length cf),(3,.int .i64 spd),(4,.slice ap pl.length cp),(5,.pointer (some ⟨b5,0,none⟩)),(12,.pointer (some ⟨br,0,none⟩)),(35,.slice ap pl.length cp),(36,.int .i64 pl.length),(37,.int .i64 k.1)],(mm,Z0Q true [])::(b5,cel 27 (htl h (h.sg ag cg) (h.ss as_ cs)))::H,RowsA (some ⟨br,0,none⟩) 4 [(rcD h ag as_ cg cs to_ spd bd br mm).row]::RowsA (some ⟨bd,0,none⟩) 4 [(dkA h ag as_ cg cs bd).row]::R⟩) (fun k=>pl.length-k.1) ⟨0,Nat.zero_le _,rfl⟩ ?_ (fun k=>?_)
 exact Zi idH
 obtain ⟨k,hk,hpe⟩:=k
 dsimp only at hk hpe ⊢
 refine sqt 1 rfl (pur 1 rfl (Z0 ?_))
 refine Z1 rfl ?_ ?_<;>intro hc2<;>try simp only [cS] at hc2
 obtain ⟨x,hx⟩:∃ x,pl[k]?=some x:=⟨_,List.getElem?_eq_getElem (by omega)⟩
 have hx9:=hxl x (List.mem_of_getElem? hx)
 have hgx:=Z1m hx
 refine Sy.heap (fun w h9=>St.inn (x:=x) h9 (List.mem_of_getElem? hx)) ?_
 refine Zh (a:=ap) (sz:=1) (rows:=Zg pl) (ne0 (by rw [Zt];omega)) (fun ba oa he=>?_)
 subst he
 refine Z2 (Z0 (Z4 (sqt 3 rfl (sp rfl (PE.indexAddr Z4A rfl rfl (by omega) (by omega)) rfl (spL rfl rfl (lf0 Z1t (Z0M hx) rfl) rfl (pur 1 rfl (Z0 (sqt 5 rfl (pur 1 rfl (spL rfl rfl (lhA (htl h (h.sg ag cg) (h.ss as_ cs)) ZA rfl rfl rfl) rfl (sp rfl (PE.makeFunc rfl rfl) rfl ?_)))))))))))
 refine clV rfl ZfK rfl rfl (Z2S x.l x.a x.c 83 [h.v (h.sg ag cg) (h.ss as_ cs)] [] (fun k=>inB k 0 ((h.gaps.length:Int)-1)) ZaD (by omega) _ _ (fun _ z _=>Zaj h (by omega) ag cg (h.ss as_ cs) z _ _)) ?_
 refine pur 1 rfl ?_
 refine Z1 rfl ?_ ?_<;>intro hc3<;>try simp only [cS] at hc3
 have hle:lE h.gaps.length spd x.l=1:=ZeF (by rw [hc3];rfl)
 have hpl9:=Z5r hpe hgx (by rw [hle];decide)
 rw [hle] at hpl9
 have hse:=Zc7 (pl:=lls pl) hre (by omega) (by rw [hpl9];decide)
 rw [hpl9] at hse
 refine sqt 2 rfl (pur 2 rfl (Z5 ?_))
 exact rtB rfl rfl rfl rfl ⟨by rw [Z40 (hse) (by decide)]<;>rfl,rfl,rfl⟩ (fun w h9=>St.sub ((h9.del mm).del b5))
 have hin9:(!(x.l.all fun k=>inB k 0 ((h.gaps.length:Int)-1)))=false:=by rw [hc3]<;>rfl
 refine Z2 (Z0 (sqt 1 rfl (pur 1 rfl (Z4 ?_))))
 refine Ze (ι:={i:Nat // (1≤i∧i≤x.l.length+1)∧∀ j,j+1<i→j+1<x.l.length→na x.l j<na x.l (j+1)}) (fun i=>⟨[(1,.slice af fr.length cf),(3,.int .i64 spd),(4,.slice (some ⟨ba,oa,none⟩) pl.length cp),(5,.pointer (some ⟨b5,0,none⟩)),(12,.pointer (some ⟨br,0,none⟩)),(15,.slice x.a x.l.length x.c),(16,.int .i64 (i.1:Int)),(35,.slice (some ⟨ba,oa,none⟩) pl.length cp),(36,.int .i64 pl.length),(37,.int .i64 k)],(mm,Z0Q true [])::(b5,cel 27 (htl h (h.sg ag cg) (h.ss as_ cs)))::H,RowsA x.a 1 (Z3 x.l)::RowsA (some ⟨br,0,none⟩) 4 [(rcD h ag as_ cg cs to_ spd bd br mm).row]::RowsA (some ⟨bd,0,none⟩) 4 [(dkA h ag as_ cg cs bd).row]::R⟩) (fun i=>x.l.length+1-i.1) ⟨1,⟨by omega,by omega⟩,fun j h1=>by omega⟩ ?_ (fun i=>?_)
 exact Zi idH
 obtain ⟨i,⟨hi1,hi2⟩,hia⟩:=i
 dsimp only at hi1 hi2 hia ⊢
 refine Z0 (sqt 4 rfl (pur 2 rfl (sp rfl (PE.lenSl Zy rfl) rfl (pur 1 rfl ?_))))
 refine Z1 rfl ?_ ?_<;>intro hc4<;>try simp only [cS] at hc4
 obtain ⟨u,hu⟩:∃ u,x.l[i]?=some u:=⟨_,List.getElem?_eq_getElem (by omega)⟩
 obtain ⟨v,hv⟩:∃ v,x.l[i-1]?=some v:=⟨_,List.getElem?_eq_getElem (by omega)⟩
 refine Zh (a:=x.a) (sz:=1) (rows:=Z3 x.l) (ne0 (by rw [irl];omega)) (fun bx9 ox9 hxa=>?_)
 rw [hxa]
 refine Z2 (Z0 (Z4 (Z0 ?_)))
 refine Zo [0,0,3,7,0,0,32,112,240,511] (tks 0 3 (.ld 3 (tks 4 4 (.ld 8 (.tk 9 .done))))) ZF (by kernel_rfl) ?_
 refine Zu 2 rfl (tk rfl (PE.indexAddr Z0c rfl rfl (by omega) (by omega)) rfl (ld rfl rfl (lf0 sc3 (ZB hu) rfl) rfl (Zu 2 rfl (tk rfl (PE.sub rfl rfl (by omega)) rfl ?_))))
 rw [show (i:Int)-1=((i-1:Nat):Int) from by omega]
 refine tk rfl (PE.indexAddr Z0c rfl rfl (by omega) (by omega)) rfl (ld rfl rfl (lf0 sc3 (ZB hv) rfl) rfl (Zu 1 rfl ?_))
 refine Z1 rfl ?_ ?_<;>intro hc5<;>try simp only [cS] at hc5
 have hle:lE h.gaps.length spd x.l=4:=ZeE hin9 (Zea (i:=i-1) (by omega) (by rw [show i-1+1=i by omega,Z1n hu,Z1n hv];exact hc5))
 have hpl9:=Z5r hpe hgx (by rw [hle];decide)
 rw [hle] at hpl9
 have hse:=Zc7 (pl:=lls pl) hre (by omega) (by rw [hpl9];decide)
 rw [hpl9] at hse
 refine sqt 2 rfl (pur 2 rfl (Z5 ?_))
 exact rtB rfl rfl rfl rfl ⟨by rw [Z40 (hse) (by decide)]<;>rfl,rfl,rfl⟩ (fun w h9=>St.sub ((h9.del mm).del b5))
 refine Z2 (sqr 3 rfl (pur 1 rfl (sp rfl (PE.add rfl rfl (by omega)) rfl (pur 1 rfl ?_))))
 exact Zc ⟨i+1,⟨by omega,by omega⟩,fun j h1 h2=>by
   rcases Nat.lt_or_ge (j+1) i with h3 | h3
   · exact hia j h3 h2
   · obtain rfl:i=j+1:=by omega
     have h4:=Z1n hu
     have h5:=Z1n hv
     rw [Nat.add_sub_cancel] at h5
     omega⟩ (by dsimp only;omega) (by first | exact sbA | (rw [← hxa];exact sbA)) (by first | exact idH | (rw [← hxa];exact idH))
 have hasc:Z9I x.l=true:=Z7m fun j hj=>hia j (by omega) hj
 have hle9:lE h.gaps.length spd x.l=_:=Z7E hin9 hasc
 refine Z9 (Za (Za (Zm (sqt 4 rfl (pur 1 rfl (sp rfl (PE.lenSl Zy rfl) rfl (pur 2 rfl ?_)))))))
 refine Z1 rfl ?_ ?_<;>intro hc6<;>try simp only [cS] at hc6
 rw [dT (show spd<(x.l.length:Int) by omega),cond_true] at hle9
 have hpl9:=Z5r hpe hgx (by rw [hle9];decide)
 rw [hle9] at hpl9
 have hse:=Zc7 (pl:=lls pl) hre (by omega) (by rw [hpl9];decide)
 rw [hpl9] at hse
 refine sqt 2 rfl (pur 2 rfl (Z5 ?_))
 exact rtB rfl rfl rfl rfl ⟨by rw [Z40 (hse) (by decide)]<;>rfl,rfl,rfl⟩ (fun w h9=>St.sub ((h9.del mm).del b5))
 rw [dF (show ¬ spd<(x.l.length:Int) by omega),cond_false] at hle9
 refine Z2 (sqr 2 rfl (sp rfl (PE.add rfl rfl (by omega)) rfl (pur 1 rfl ?_)))
 exact Zb ⟨k+1,by omega,ZeO hpe hgx hle9⟩ (fun w h9=>h9.ftail)
 obtain rfl:k=pl.length:=by omega
 rw [List.take_of_length_le (by omega)] at hpe
 have hse:=ZiV (pl:=lls pl) hre (by omega) hpe
 refine Z9 (Za (Za (Zm (Z0 (Z0 ?_)))))
 refine Zo [0,1,0,4,15,31] (.tk 0 (.ld 2 (.tk 3 (.big 1 (.big 4 (.tk 5 .done)))))) ZF (by kernel_rfl) ?_
 refine Zu 1 rfl (ld rfl rfl (lhA (htl h (h.sg ag cg) (h.ss as_ cs)) ZA rfl rfl rfl) rfl (tk rfl (PE.makeFunc rfl rfl) rfl ?_))
 refine cl rfl ZaC rfl rfl (Z3b pl ap cp hpl htot _ _) ?_
 rintro _ _ R1 ⟨o,rfl,rfl,hR1⟩
 obtain rfl:=hR1.symm
 clear hR1
 obtain ⟨ac,cc,heo,hcc,hfz⟩:=o.freezeC
 rw [irl] at hcc
 rw [heo,irl]
 refine Sy.heap (fun w h=>hfz h) ?_
 clear hfz heo
 refine bg (fun w hs=>⟨(lhA (htl h (h.sg ag cg) (h.ss as_ cs)) ZA rfl rfl rfl) w hs,trivial⟩) ?_
 refine clV rfl Z9n rfl rfl (Z2x (lls pl).flatten ac cc 83 [h.v (h.sg ag cg) (h.ss as_ cs)] [] (fun k=>inB k 0 ((h.gaps.length:Int)-1)) ZaD (by omega) hcc _ _ (fun _ z _=>Zaj h (by omega) ag cg (h.ss as_ cs) z _ _)) ?_
 refine bgT (Zu 1 rfl (sqt 2 rfl (pur 2 rfl ?_)))
 refine Z1 rfl ?_ ?_<;>intro hc7<;>try simp only [cS] at hc7
 have hle:ZM h.gaps.length (lls pl).flatten≠0:=hc7
 refine sqt 3 rfl (pur 3 rfl (Z5 ?_))
 exact rtB rfl rfl rfl rfl ⟨by rw [Z40 (hse) (hle)]<;>rfl,rfl,rfl⟩ (fun w h9=>St.sub ((h9.del mm).del b5))
 have hle:ZM h.gaps.length (lls pl).flatten=0:=Classical.byContradiction hc7
 rw [hle] at hse
 have hpz:=plE_zero.1 hpe
 have hll2:∀ l∈lls pl,∀ x∈l,0≤x∧x<(h.gaps.length:Int):=fun l hl=>(Zgb (hpz l hl)).1
 have hM10:∀ l∈((lls pl).map msk),l<2 ^ 10:=fun l hl=>by
   obtain ⟨y,hy,rfl⟩:=List.mem_map.1 hl
   exact Z0Y fun x hx=>by have:=hll2 y hy x hx;omega
 refine Z2 (sqt 5 rfl (pur 1 rfl ?_))
 refine clV rfl ZcV rfl rfl (ZcQ fr (fun k hk=>by have:=q1 k hk;omega) hlf af cf _ _) ?_
 refine sp rfl (PE.build (out:=[_,_]) ZeN Z9d rfl rfl) rfl (alc rfl Z9d rfl (fun b18=>?_))
 refine ZG (l':=plc (msk fr) (0)) rfl rfl rfl Zes rfl rfl rfl rfl (nl rfl) ?_
 refine Z0 (sqt 3 rfl (pur 1 rfl (sp rfl (PE.lenSl Z0J rfl) rfl (pur 1 rfl (Z4 ?_)))))
 refine Ze (ι:={k:Nat // k≤pl.length}) (fun k=>⟨[(5,.pointer (some ⟨b5,0,none⟩)),(12,.pointer (some ⟨br,0,none⟩)),(18,.pointer (some ⟨b18,0,none⟩)),(78,.slice ap pl.length cp),(79,.int .i64 pl.length),(80,.int .i64 k.1)],(b18,cel 96 (plc (Z2O h.gaps (msk fr) 0 (((lls pl).map msk).take (k.1))) (Z1B 0 (((lls pl).map msk).take (k.1)))))::(mm,Z0Q true [])::(b5,cel 27 (htl h (h.sg ag cg) (h.ss as_ cs)))::H,RowsA ac 1 (Z3 (lls pl).flatten)::RowsA (some ⟨br,0,none⟩) 4 [(rcD h ag as_ cg cs to_ spd bd br mm).row]::RowsA (some ⟨bd,0,none⟩) 4 [(dkA h ag as_ cg cs bd).row]::R⟩) (fun k=>pl.length-k.1) ⟨0,Nat.zero_le _⟩ ?_ (fun k=>?_)
 exact Zi idH
 obtain ⟨k,hk⟩:=k
 dsimp only at hk ⊢
 have hc10:Z1B 0 (((lls pl).map msk).take (k))<2 ^ 10:=Zeq (by decide) (fun l hl=>hM10 l (List.mem_of_mem_take hl))
 have hm7:Z2O h.gaps (msk fr) 0 (((lls pl).map msk).take (k))<2 ^ 7:=ZbK hw7 hS7
 refine sqt 1 rfl (pur 1 rfl (Z0 ?_))
 refine Z1 rfl ?_ ?_<;>intro hc8<;>try simp only [cS] at hc8
 obtain ⟨x,hx⟩:∃ x,pl[k]?=some x:=⟨_,List.getElem?_eq_getElem (by omega)⟩
 have hx9:=hxl x (List.mem_of_getElem? hx)
 have hxm:=hll2 x.l (List.mem_of_getElem? (Z1m hx))
 have hx10:msk x.l<2 ^ 10:=Z0Y fun z hz=>by have:=hxm z hz;omega
 have htk:((lls pl).map msk).take (k+1)=((lls pl).map msk).take k++[msk x.l]:=Z4V (by rw [List.getElem?_map,Z1m hx];rfl)
 have hcs:Z1B 0 (((lls pl).map msk).take (k+1))=Z1B 0 (((lls pl).map msk).take (k))|||msk x.l:=by rw [htk,Z8m]
 have hrs:Z2O h.gaps (msk fr) 0 (((lls pl).map msk).take (k+1))=spr h.gaps (Z1B 0 (((lls pl).map msk).take (k))|||msk x.l) (Z2O h.gaps (msk fr) 0 (((lls pl).map msk).take (k))):=by rw [htk,Z90]
 have hc210:Z1B 0 (((lls pl).map msk).take (k))|||msk x.l<2 ^ 10:=ZdE hc10 hx10
 refine Sy.heap (fun w h9=>St.inn (x:=x) h9 (List.mem_of_getElem? hx)) ?_
 refine Zh (a:=ap) (sz:=1) (rows:=Zg pl) (ne0 (by rw [Zt];omega)) (fun ba oa he=>?_)
 subst he
 refine Z2 (Z0 (Z4 (sqt 3 rfl (sp rfl (PE.indexAddr Z4A rfl rfl (by omega) (by omega)) rfl (spL rfl rfl (lf0 Z1t (Z0M hx) rfl) rfl (pur 1 rfl (Z0 ?_)))))))
 refine Zo [0,1,0,4,15,31,63] (.tk 0 (.ld 1 (.tk 2 (.big 3 (.tk 4 (.tk 5 (.big 6 .done))))))) ZF (by kernel_rfl) ?_
 refine tk rfl (PE.fA Z3V rfl) rfl (ld rfl rfl (lh sc3 rfl rfl) rfl (Zu 1 rfl ?_))
 refine clV rfl ZcV rfl rfl (ZcQ x.l (fun z hz=>by have:=hxm z hz;omega) hx9 x.a x.c _ _) ?_
 refine bg (fun w hs=>⟨(lh sc3 rfl rfl) w hs,trivial⟩) ?_
 refine tk rfl (PE.orN (m:=Z1B 0 (((lls pl).map msk).take (k))) (n:=msk x.l) rfl rfl (Zcq hc10 (by omega)) (Zcq hx10 (by omega))) rfl (tk rfl (PE.fA Z3V rfl) rfl ?_)
 refine ZG (l':=plc (Z2O h.gaps (msk fr) 0 (((lls pl).map msk).take (k))) (Z1B 0 (((lls pl).map msk).take (k))|||msk x.l)) rfl rfl rfl cn3 rfl rfl rfl rfl (nl rfl) ?_
 refine bgT (sqr 5 rfl (pur 1 rfl (spL rfl rfl (lhA (plc (Z2O h.gaps (msk fr) 0 (((lls pl).map msk).take (k))) (Z1B 0 (((lls pl).map msk).take (k))|||msk x.l)) Z43 rfl rfl rfl) rfl ?_)))
 refine clV rfl Z9k rfl rfl (Z2y (rcD h ag as_ cg cs to_ spd bd br mm) (Z0l h ag as_ cg cs hok bd) (Z2O h.gaps (msk fr) 0 (((lls pl).map msk).take (k))) (Z1B 0 (((lls pl).map msk).take (k))|||msk x.l) hm7 hc210 _ _) ?_
 refine sp rfl (PE.fA Z0s rfl) rfl ?_
 refine ZG (l':=plc (spr h.gaps (Z1B 0 (((lls pl).map msk).take (k))|||msk x.l) (Z2O h.gaps (msk fr) 0 (((lls pl).map msk).take (k)))) (Z1B 0 (((lls pl).map msk).take (k))|||msk x.l)) rfl rfl rfl cn3 rfl rfl rfl rfl (nl rfl) ?_
 refine sqr 2 rfl (sp rfl (PE.add rfl rfl (by omega)) rfl (pur 1 rfl ?_))
 rw [← hrs,← hcs]
 exact Zb ⟨k+1,by omega⟩ (fun w h9=>h9.ftail)
 obtain rfl:k=pl.length:=by omega
 rw [List.take_of_length_le (show ((lls pl).map msk).length≤pl.length by rw [List.length_map];omega)] at hc10 hm7 ⊢
 obtain ⟨B,hB⟩:∃ B:Nat,h.bins=B:=⟨h.bins.toNat,by omega⟩
 refine Z9 (Za (Za (Zm (Z0 (sqt 3 rfl (sp rfl (PE.fA Z0h rfl) rfl (spL rfl rfl (lh (v:=.int .i64 h.bins) sc3 rfl rfl) rfl ?_)))))))
 rw [hB]
 refine pur 1 rfl (Z4 ?_)
 refine Ze (ι:={j:Nat // j≤B}) (fun j=>⟨[(12,.pointer (some ⟨br,0,none⟩)),(18,.pointer (some ⟨b18,0,none⟩)),(96,.int .i64 B),(97,.int .i64 j.1)],(b18,cel 96 (plc (lv h.gaps (Z1B 0 ((lls pl).map msk)) (Z2O h.gaps (msk fr) 0 ((lls pl).map msk)) (j.1)) (Z1B 0 ((lls pl).map msk))))::(mm,Z0Q true [])::(b5,cel 27 (htl h (h.sg ag cg) (h.ss as_ cs)))::H,RowsA ac 1 (Z3 (lls pl).flatten)::RowsA (some ⟨br,0,none⟩) 4 [(rcD h ag as_ cg cs to_ spd bd br mm).row]::RowsA (some ⟨bd,0,none⟩) 4 [(dkA h ag as_ cg cs bd).row]::R⟩) (fun j=>B-j.1) ⟨0,Nat.zero_le _⟩ ?_ (fun j=>?_)
 exact Zi idH
 obtain ⟨j,hj⟩:=j
 dsimp only at hj ⊢
 have hl7:lv h.gaps (Z1B 0 ((lls pl).map msk)) (Z2O h.gaps (msk fr) 0 ((lls pl).map msk)) (j)<2 ^ 7:=Z9r hw7 hm7 j
 refine sqt 1 rfl (pur 1 rfl (Z0 ?_))
 refine Z1 rfl ?_ ?_<;>intro hc9<;>try simp only [cS] at hc9
 refine Z2 (Z0 (Z4 (sqr 5 rfl (pur 1 rfl (spL rfl rfl (lhA (plc (lv h.gaps (Z1B 0 ((lls pl).map msk)) (Z2O h.gaps (msk fr) 0 ((lls pl).map msk)) (j)) (Z1B 0 ((lls pl).map msk))) Z43 rfl rfl rfl) rfl ?_)))))
 refine clV rfl Z9k rfl rfl (Z2y (rcD h ag as_ cg cs to_ spd bd br mm) (Z0l h ag as_ cg cs hok bd) (lv h.gaps (Z1B 0 ((lls pl).map msk)) (Z2O h.gaps (msk fr) 0 ((lls pl).map msk)) (j)) (Z1B 0 ((lls pl).map msk)) hl7 hc10 _ _) ?_
 refine sp rfl (PE.fA Z0s rfl) rfl ?_
 refine ZG (l':=plc (lv h.gaps (Z1B 0 ((lls pl).map msk)) (Z2O h.gaps (msk fr) 0 ((lls pl).map msk)) (j+1)) (Z1B 0 ((lls pl).map msk))) rfl rfl rfl cn3 rfl rfl rfl rfl (nl rfl) ?_
 refine sqr 2 rfl (sp rfl (PE.add rfl rfl (by omega)) rfl (pur 1 rfl ?_))
 exact Zb ⟨j+1,by omega⟩ idH
 obtain rfl:j=B:=by omega
 have hsb:h.svB fr to_ (lls pl)=decide (lv h.gaps (Z1B 0 ((lls pl).map msk)) (Z2O h.gaps (msk fr) 0 ((lls pl).map msk)) (j)&&&msk to_=0):=by unfold Hse.svB Hse.svM;rw [show h.bins.toNat=j by omega]
 have hK7:msk to_<2 ^ 7:=Z0Y fun x hx=>q2 x hx
 have h27:(2:Nat) ^ 7=128:=rfl
 have hde:decide (((lv h.gaps (Z1B 0 ((lls pl).map msk)) (Z2O h.gaps (msk fr) 0 ((lls pl).map msk)) (j)&&&msk to_:Nat):Int)=0)=decide (lv h.gaps (Z1B 0 ((lls pl).map msk)) (Z2O h.gaps (msk fr) 0 ((lls pl).map msk)) (j)&&&msk to_=0):=decide_eq_decide.2 (by omega)
 refine Z9 (Za (Za (Zm (Z0 ?_))))
 refine Zo [0,1,0,4,12,28,63,127,255,511] (.tk 0 (.ld 1 (tks 2 3 (.ld 5 (tks 6 4 .done))))) ZF (by kernel_rfl) ?_
 refine tk rfl (PE.fA Z0s rfl) rfl (ld rfl rfl (lh sc3 rfl rfl) rfl (Zu 1 rfl (tk rfl (PE.nilCheck rfl) rfl (tk rfl (PE.fA Zb5 rfl) rfl (ld rfl rfl (lfB (sz:=4) sc3 rfl) rfl (tk rfl (PE.andN (m:=lv h.gaps (Z1B 0 ((lls pl).map msk)) (Z2O h.gaps (msk fr) 0 ((lls pl).map msk)) (j)) (n:=msk to_) rfl rfl rfl (by omega) (by omega)) rfl (Zu 3 rfl (Z5 ?_))))))))
 exact rtB rfl rfl rfl rfl ⟨by rw [ZeX hse,hsb,← hde]<;>rfl,rfl,rfl⟩ (fun w h9=>St.sub (((h9.del b18).del mm).del b5))
end Go.Proofs.YtclnhdkneegfkaaGreat
namespace Go.Proofs.YtclnhdkneegfkaaGreat
set_option linter.unusedSimpArgs false
set_option linter.unusedVariables false
def nxt (gs:List Gp) (cl now:List Int):Nat→List Int
 | 0=>now
 | i+1=>match gs[i]? with
   | some g=>bif ZH cl i then nxt gs cl now i else
     (fun o=>bif ZH now g.b&&!ZH o g.a then o++[g.a] else o) (bif ZH now g.a&&!ZH (nxt gs cl now i) g.b then nxt gs cl now i++[g.b] else nxt gs cl now i)
   | none=>nxt gs cl now i
structure Lm (l:List Int) (m:Nat):Prop where
 rg:∀ x∈l,0≤x∧x<7
 nd:l.Nodup
 ms:msk l=m
theorem Zgj (l:List Int) (x:Int):msk (l++[x])=msk l|||2 ^ x.toNat:=by
 unfold msk
 rw [List.foldl_append];rfl
theorem Lm.has {l:List Int} {m:Nat} (h:Lm l m) {x:Int} (hx:0≤x):ZH l x=m.testBit x.toNat:=by
 rw [← h.ms,Bool.eq_iff_iff,hasI_iff,ZK (fun k hk=>(h.rg k hk).1),show ((x.toNat:Nat):Int)=x by omega]
theorem Lm.add {l:List Int} {m:Nat} (h:Lm l m) {x:Int} (hx:0≤x∧x<7) (hn:ZH l x=false):Lm (l++[x]) (m|||2 ^ x.toNat):=by
 refine ⟨fun y hy=>?_,?_,by rw [Zgj,h.ms]⟩
 · rcases List.mem_append.1 hy with h1 | h1
   · exact h.rg y h1
   · rw [List.mem_singleton.1 h1];exact hx
 · refine List.nodup_append.2 ⟨h.nd,by simp,fun a ha b hb e=>?_⟩
   rw [List.mem_singleton] at hb
   subst hb;subst e
   rw [hasI_iff.2 ha] at hn;cases hn
theorem ZiG {m v:Nat} (h:m.testBit v=true):m|||2 ^ v=m:=Z0i fun k=>by
 rw [Nat.testBit_or,Nat.testBit_two_pow]
 by_cases e:v=k
 · subst e;rw [h];rfl
 · rw [decide_eq_false e,Bool.or_false]
theorem Lm.way {l:List Int} {m:Nat} (h:Lm l m) {x:Int} (hx:0≤x∧x<7) (p:Bool):Lm (bif p&&!ZH l x then l++[x] else l) (m|||(bif p then 2 ^ x.toNat else 0)):=by
 cases p with
 | false=>rw [Bool.false_and,cond_false,cond_false,Nat.or_zero];exact h
 | true =>
   rw [Bool.true_and,cond_true]
   cases hb:ZH l x with
   | false=>rw [Bool.not_false,cond_true];exact h.add hx hb
   | true =>
     rw [Bool.not_true,cond_false]
     rw [h.has hx.1] at hb
     rw [ZiG hb];exact h
theorem ZeK {gs:List Gp} {cl now:List Int} {c m:Nat} (hg:∀ g∈gs,(0≤g.a∧g.a<7)∧0≤g.b∧g.b<7) (hc:∀ i:Nat,ZH cl (i:Int)=c.testBit i) (hn:Lm now m):∀ i,Lm (nxt gs cl now i) (Z6u gs c m i)
 | 0=>hn
 | i+1=>by
   have ih:=ZeK hg hc hn i
   unfold nxt Z6u
   cases hgi:gs[i]? with
   | none=>exact ih
   | some g =>
     dsimp only
     rw [hc i]
     cases c.testBit i with
     | true=>exact ih
     | false =>
       have h1:=hg g (List.mem_of_getElem? hgi)
       rw [cond_false,cond_false]
       have h2:=ih.way h1.2 (ZH now g.a)
       have h3:=h2.way h1.1 (ZH now g.b)
       unfold gpo
       rw [← Nat.or_assoc]
       rw [hn.has h1.1.1,hn.has h1.2.1] at h3
       rw [hn.has h1.1.1,hn.has h1.2.1]
       exact h3
def Z0R (gs:List Gp) (cl now:List Int):List Int:=nxt gs cl now gs.length
theorem Z7K {gs:List Gp} {cl now:List Int} {c m:Nat} (hg:∀ g∈gs,(0≤g.a∧g.a<7)∧0≤g.b∧g.b<7) (hc:∀ i:Nat,ZH cl (i:Int)=c.testBit i) (hn:Lm now m):Lm (Z0R gs cl now) (spr gs c m):=by
 have:=ZeK hg hc hn gs.length
 rw [Z83] at this;exact this
theorem Lm.len {l:List Int} {m:Nat} (h:Lm l m):l.length=cnt 7 m:=by
 rw [← Z2z,show l.length=(l.map Int.toNat).length from (List.length_map _).symm]
 refine List.Perm.length_eq ((List.perm_ext_iff_of_nodup ?_ (List.nodup_range.sublist List.filter_sublist)).2 fun x=>?_)
 · rw [List.nodup_iff_pairwise_ne,List.pairwise_map]
   exact (List.nodup_iff_pairwise_ne.1 h.nd).imp_of_mem fun {a b} ha hb hab e=>by
     have:=h.rg a ha;have:=h.rg b hb;omega
 · rw [List.mem_filter,List.mem_range,List.mem_map,← h.ms,ZK (fun k hk=>(h.rg k hk).1)]
   constructor
   · rintro ⟨y,hy,rfl⟩
     have:=h.rg y hy
     exact ⟨by omega,by rw [show ((y.toNat:Nat):Int)=y by omega];exact hy⟩
   · rintro ⟨_,hx⟩;exact ⟨_,hx,Int.toNat_natCast x⟩
theorem Lm.few {l:List Int} {m:Nat} (h:Lm l m):l.length≤7:=by rw [h.len];exact Z1O _ _
theorem Lm.lt {l:List Int} {m:Nat} (h:Lm l m):m<2 ^ 7:=by rw [← h.ms];exact Z0Y h.rg
theorem Lm.of {n:Int} {l:List Int} (hn:n≤7) (h:ZM n l=0):Lm l (msk l):=by
 unfold ZM at h
 cases h1:l.all fun k=>inB k 0 (n-1) with
 | false=>rw [h1] at h;cases h
 | true =>
   rw [h1] at h
   cases h2:(List.range l.length).any (Z53 l) with
   | true=>rw [h2] at h;cases h
   | false =>
     refine ⟨fun x hx=>?_,?_,rfl⟩
     · have:=List.all_eq_true.1 h1 x hx
       simp only [inB,Bool.and_eq_true,decide_eq_true_eq] at this;omega
     · rw [List.nodup_iff_pairwise_ne,List.pairwise_iff_getElem]
       intro i j hi hj hij e
       have h3:=List.any_eq_false.1 h2 j (List.mem_range.2 hj)
       apply h3
       unfold Z53
       rw [hasI_iff,show na l j=l[j] from by unfold na;rw [List.getD_eq_getElem?_getD,List.getElem?_eq_getElem hj];rfl,← e]
       exact List.mem_of_getElem? (by rw [List.getElem?_take,if_pos hij,List.getElem?_eq_getElem hi])
def fw (gs:List Gp) (c m w k:Nat):Int:=match (List.range w).find? fun t=>(lv gs c m t).testBit k with
 | some t=>(t:Int)
 | none => -1
theorem Zg8 (gs:List Gp) (c m k:Nat):fw gs c m 0 k = -1:=rfl
theorem Z2A (gs:List Gp) (c m w k:Nat):(∃ t:Nat,t<w∧fw gs c m w k=t∧(lv gs c m t).testBit k=true∧∀ i:Nat,i<t→(lv gs c m i).testBit k=false)∨(fw gs c m w k = -1∧∀ i:Nat,i<w→(lv gs c m i).testBit k=false):=by
 unfold fw
 rcases hf:(List.range w).find? fun t=>(lv gs c m t).testBit k with _ | t
 · refine .inr ⟨rfl,fun i hi=>?_⟩
   have:=List.find?_eq_none.1 hf i (List.mem_range.2 hi)
   simpa using this
 · obtain ⟨h1,lp,lq,h2,h3⟩:=List.find?_eq_some_iff_append.1 hf
   have hm:t∈List.range w:=by rw [h2];simp
   refine .inl ⟨t,List.mem_range.1 hm,rfl,h1,fun i hi=>?_⟩
   have hi7:i∈List.range w:=List.mem_range.2 (by have:=List.mem_range.1 hm;omega)
   have hp:=List.pairwise_lt_range (n:=w)
   rw [h2] at hi7 hp
   rw [List.pairwise_append] at hp
   rcases List.mem_append.1 hi7 with h4 | h4
   · have:=h3 i h4;simpa using this
   · rcases List.mem_cons.1 h4 with rfl | h4
     · omega
     · have:=(List.pairwise_cons.1 hp.2.1).1 i h4;omega
theorem Zg7 {gs:List Gp} {c m w k:Nat}:fw gs c m (w+1) k=bif decide (0≤fw gs c m w k) then fw gs c m w k else bif (lv gs c m w).testBit k then (w:Int) else -1:=by
 rcases Z2A gs c m w k with ⟨t,h1,h2,h3,h4⟩ | ⟨h1,h2⟩
 · rw [h2,decide_eq_true (by omega),cond_true]
   rcases Z2A gs c m (w+1) k with ⟨t',g1,g2,g3,g4⟩ | ⟨g1,g2⟩
   · rw [g2]
     rcases Nat.lt_trichotomy t t' with h | h | h
     · rw [g4 t h] at h3;cases h3
     · rw [h]
     · rw [h4 t' h] at g3;cases g3
   · rw [g2 t (by omega)] at h3;cases h3
 · rw [h1,decide_eq_false (by decide),cond_false]
   rcases Z2A gs c m (w+1) k with ⟨t',g1,g2,g3,g4⟩ | ⟨g1,g2⟩
   · have:t'=w:=by
       rcases Nat.lt_or_ge t' w with h | h
       · rw [h2 t' h] at g3;cases g3
       · omega
     subst this
     rw [g2,g3];rfl
   · rw [g1,g2 w (by omega)];rfl
def wkC (gs:List Gp) (c m k:Nat):Int:=bif decide (far≤wk gs c m k) then -1 else wk gs c m k
theorem Zk3 {gs:List Gp} {c m n k:Nat} (hn7:n≤7) (hn1:1≤n) (hw:Wth gs n) (hm:m<2 ^ n):fw gs c m n k=wkC gs c m k:=by
 unfold wkC
 rcases Z1z gs c m k with ⟨t,h1,h2,h3,h4⟩ | ⟨h1,h2⟩
 · rw [h2,decide_eq_false (by unfold far;omega),cond_false]
   rcases Z2A gs c m n k with ⟨t',g1,g2,g3,g4⟩ | ⟨g1,g2⟩
   · rw [g2]
     rcases Nat.lt_trichotomy t t' with h | h | h
     · rw [g4 t h] at h3;cases h3
     · rw [h]
     · rw [h4 t' h] at g3;cases g3
   · rcases Nat.lt_or_ge t n with h | h
     · rw [g2 t h] at h3;cases h3
     · rw [Z4I hw hm (t:=n-1) (by omega) (by omega),g2 (n-1) (by omega)] at h3;cases h3
 · rw [h1,decide_eq_true (Int.le_refl _),cond_true]
   rcases Z2A gs c m n k with ⟨t',g1,g2,g3,g4⟩ | ⟨g1,g2⟩
   · rw [h2 t' (by omega)] at g3;cases g3
   · exact g1
def wkL (gs:List Gp) (c m n:Nat):List Int:=(List.range n).map (wkC gs c m)
theorem Z14 (gs:List Gp) (c m n:Nat):(wkL gs c m n).length=n:=by simp [wkL]
theorem Z50 {gs:List Gp} {c m n k:Nat} (hk:k<n):na (wkL gs c m n) k=wkC gs c m k:=by
 unfold na wkL;rw [List.getD_eq_getElem?_getD,List.getElem?_map,List.getElem?_range hk];rfl
structure RwI (gs:List Gp) (c m n w:Nat) (met:List Int) (o:List Int):Prop where
 len:o.length=n
 at_:∀ k<n,na o k=bif decide (0≤fw gs c m w k) then fw gs c m w k else bif ZH met (k:Int) then (w:Int) else -1
theorem RwI.put {gs:List Gp} {c m n w:Nat} {met o:List Int} {x:Int} (h:RwI gs c m n w met o) (hx:0≤x∧x.toNat<n) (hn:na o x.toNat<0):RwI gs c m n w (met++[x]) (o.set x.toNat (w:Int)):=by
 have hl:=h.len
 refine ⟨by rw [List.length_set];exact hl,fun k hk=>?_⟩
 have h1:=h.at_ k hk
 by_cases e:x.toNat=k
 · subst e
   have e1:na (o.set x.toNat (w:Int)) x.toNat=(w:Int):=by unfold na;rw [List.getD_eq_getElem?_getD,List.getElem?_set_self (by omega)];rfl
   rw [e1]
   have h2:¬ 0≤fw gs c m w x.toNat:=fun h9=>by rw [decide_eq_true h9,cond_true] at h1;omega
   rw [decide_eq_false h2,cond_false,show ((x.toNat:Nat):Int)=x by omega,hasI_iff.2 (List.mem_append_right _ (by simp))];rfl
 · have e1:na (o.set x.toNat (w:Int)) k=na o k:=by unfold na;simp only [List.getD_eq_getElem?_getD,List.getElem?_set_ne e]
   have e2:ZH (met++[x]) (k:Int)=ZH met (k:Int):=by
     rw [Bool.eq_iff_iff,hasI_iff,hasI_iff,List.mem_append,List.mem_singleton]
     exact ⟨fun h9=>h9.resolve_right (fun e9=>by omega),.inl⟩
   rw [e1,e2];exact h1
theorem RwI.skip {gs:List Gp} {c m n w:Nat} {met o:List Int} {x:Int} (h:RwI gs c m n w met o) (hx:0≤x∧x.toNat<n) (hn:0≤na o x.toNat):RwI gs c m n w (met++[x]) o:=by
 refine ⟨h.len,fun k hk=>?_⟩
 have h1:=h.at_ k hk
 by_cases e:x.toNat=k
 · subst e
   rw [h1]
   rw [h1] at hn
   by_cases h2:0≤fw gs c m w x.toNat
   · rw [decide_eq_true h2];rfl
   · rw [decide_eq_false h2,cond_false] at hn ⊢
     rw [cond_false,hasI_iff.2 (show ((x.toNat:Nat):Int)∈met++[x] from List.mem_append_right _ (by simp;omega))]
     cases h3:ZH met ((x.toNat:Nat):Int) with
     | true=>rfl
     | false=>rw [h3] at hn;exact absurd hn (show ¬ (0:Int) ≤ -1 by decide)
 · have e2:ZH (met++[x]) (k:Int)=ZH met (k:Int):=by
     rw [Bool.eq_iff_iff,hasI_iff,hasI_iff,List.mem_append,List.mem_singleton]
     exact ⟨fun h9=>h9.resolve_right (fun e9=>by omega),.inl⟩
   rw [e2];exact h1
theorem RwI.week {gs:List Gp} {c m n w:Nat} {now o:List Int} (h:RwI gs c m n w now o) (hn:Lm now (lv gs c m w)):RwI gs c m n (w+1) [] o:=⟨h.len,fun k hk=>by
 rw [h.at_ k hk,Zg7,hn.has (by omega),Int.toNat_natCast]
 cases h1:decide (0≤fw gs c m w k) with
 | true=>rw [cond_true,h1];rfl
 | false =>
   rw [cond_false]
   cases (lv gs c m w).testBit k with
   | true=>rw [cond_true,decide_eq_true (show (0:Int)≤(w:Int) by omega)];rfl
   | false=>rfl⟩
theorem RwI.done {gs:List Gp} {c m n:Nat} {o:List Int} (h:RwI gs c m n n [] o) (hn7:n≤7) (hn1:1≤n) (hw:Wth gs n) (hm:m<2 ^ n):o=wkL gs c m n:=by
 apply List.ext_getElem?
 intro k
 rcases Nat.lt_or_ge k n with hk | hk
 · have h1:=h.at_ k hk
   have h2:o[k]?=some (na o k):=by unfold na;rw [List.getD_eq_getElem?_getD,List.getElem?_eq_getElem (by rw [h.len];exact hk)];rfl
   rw [h2,h1]
   unfold wkL
   rw [List.getElem?_map,List.getElem?_range hk]
   show some _=some (wkC gs c m k)
   rw [← Zk3 hn7 hn1 hw hm]
   by_cases h3:0≤fw gs c m n k
   · rw [decide_eq_true h3];rfl
   · rw [decide_eq_false h3]
     rcases Z2A gs c m n k with ⟨t,_,h4,_⟩ | ⟨h4,_⟩
     · omega
     · rw [h4];rfl
 · rw [List.getElem?_eq_none (by rw [h.len];exact hk),List.getElem?_eq_none (by rw [Z14];exact hk)]
end Go.Proofs.YtclnhdkneegfkaaGreat
