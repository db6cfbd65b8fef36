/- Walks of the functions of the program, and the laws that join them: what the last theorem of this claim needs, in order. -/
import Derived.Test.YtclnhdkneegfkaaGreatWs8
namespace Go.Proofs.YtclnhdkneegfkaaGreat
set_option linter.unusedSimpArgs false
set_option linter.unusedVariables false
open Go
theorem ZjD:cal Tryz.prog 65=true:=by kernel_rfl
theorem ZjE:cal Tryz.prog 66=true:=by kernel_rfl
theorem ZjF:cal Tryz.prog 67=true:=by kernel_rfl
theorem ZjG:cal Tryz.prog 68=true:=by kernel_rfl
theorem ZjH:cal Tryz.prog 69=true:=by kernel_rfl
theorem ZdF {h:Hse} (hb:h.check=0→h.bins≤7):h.orgR.1.length≤1000:=by
 unfold Hse.orgR
 by_cases hk:h.check=0
 · rw [hk]
   cases h.agr h.sights with
   | false=>exact Nat.zero_le _
   | true =>
     show ((Z0t (fun l=>Z1D h.gaps (msk l) h.sights) h.bins.toNat).getD []).length≤1000
     cases hs:Z0t (fun l=>Z1D h.gaps (msk l) h.sights) h.bins.toNat with
     | none=>exact Nat.zero_le _
     | some x=>have h1:=Z4O hs;have h2:=hb hk;show x.length≤1000;omega
 · rw [decide_eq_true hk];exact Nat.zero_le _
theorem ZcA {h:Hse} (hb:h.check=0→h.sights.length≤8):h.aptR.1.length≤1000:=by
 unfold Hse.aptR
 by_cases hk:h.check=0
 · rw [hk]
   cases h.agr h.sights with
   | false=>exact Nat.zero_le _
   | true=>have:=Z88 h (h.sights.length+1);have:=hb hk;show (h.aptK (h.sights.length+1)).length≤1000;omega
 · rw [decide_eq_true hk];exact Nat.zero_le _
theorem Z9b {h:Hse} {week:Int} (hb:h.check=0→h.bins≤7) (he:h.wkE week=0):h.bins≤7:=by
 refine hb (Classical.byContradiction fun hk=>?_)
 rw [Z5A hk] at he;exact hk he
theorem ZdZ {h:Hse} {week:Int} (hb:h.check=0→h.bins≤7):(h.surR week).1.length≤1000:=by
 unfold Hse.surR
 by_cases he:h.wkE week=0
 · have:=Z9b hb he
   rw [he];exact Nat.le_trans (Z0E _ _) (by omega)
 · rw [decide_eq_false he];exact Nat.zero_le _
theorem ZdG {h:Hse} {week:Int} (hb:h.check=0→h.bins≤7):(h.perR week).1.length≤1000:=by
 unfold Hse.perR
 by_cases he:h.wkE week=0
 · have:=Z9b hb he
   rw [he];exact Nat.le_trans (Z0E _ _) (by omega)
 · rw [decide_eq_false he];exact Nat.zero_le _
theorem Zd2 {h:Hse} (hb:h.check=0→h.sights.length≤8):h.claR.1.length≤1000:=by
 unfold Hse.claR
 by_cases hk:h.check=0
 · rw [hk]
   cases hs:h.claS with
   | none=>exact Nat.zero_le _
   | some x=>have:=Z4O hs;have:=hb hk;show x.length≤1000;omega
 · rw [decide_eq_true hk];exact Nat.zero_le _
theorem Zf6 {h:Hse} {week:Int} (hk:h.check≠0):h.orgR=([],h.check)∧h.aptR=([],h.check)∧h.surR week=([],h.check)∧h.perR week=([],h.check)∧h.claR=([],h.check)∧h.wkE week=h.check:=by
 refine ⟨?_,?_,Z3P (Z5A hk) hk,Z3I (Z5A hk) hk,?_,Z5A hk⟩
 · unfold Hse.orgR;rw [decide_eq_true hk];rfl
 · unfold Hse.aptR;rw [decide_eq_true hk];rfl
 · unfold Hse.claR;rw [decide_eq_true hk];rfl
theorem Zf7 {h:Hse} {week:Int} {x:List Int} (hk:h.check=0) (ha:h.agr h.sights=false) (hc:h.claS=some x):h.orgR=([],7)∧h.aptR=([],7)∧h.claR=(x,0)∧(inB week 0 9=true→h.surR week=([],7)∧h.perR week=([],7)):=by
 refine ⟨?_,?_,?_,fun hi=>?_⟩
 · unfold Hse.orgR;rw [hk,ha];rfl
 · unfold Hse.aptR;rw [hk,ha];rfl
 · unfold Hse.claR;rw [hk,hc];rfl
 · have he:h.wkE week=7:=Z9a hk (by rw [hi];rfl) ha
   exact ⟨Z3P he (by decide),Z3I he (by decide)⟩
theorem Z5E {h:Hse} {week:Int} (hk:h.check=0) (hi:inB week 0 9=false):h.surR week=([],3)∧h.perR week=([],3):=by
 have he:h.wkE week=3:=Z4Z hk (by rw [hi];rfl)
 exact ⟨Z3P he (by decide),Z3I he (by decide)⟩
theorem Zg0 {h:Hse} {t:Nat} (ht:t<2 ^ 10):exB h t=(fun l=>Z1D h.gaps (msk l) h.sights) (Zs t):=by
 dsimp only
 rw [Z1x ht];rfl
theorem Zgo {h:Hse} (hk:h.ok) {f:Bool} {b:List Int} (hm:MinI (exB h) (2 ^ h.bins.toNat) f b):(f=true→h.agr h.sights=true∧h.orgR=(b,0)∧h.aptR=(h.aptK (h.sights.length+1),0)∧h.claR=([],6))∧(f=false→h.agr h.sights=false∧b=[]):=by
 have hck:=hse_ok.2 hk
 have hbn:=hk.bins
 have hp:=Nat.pow_le_pow_right (show 0<2 by decide) (show h.bins.toNat≤10 by omega)
 constructor
 · rintro rfl
   obtain ⟨⟨t,t1,t2,_⟩,_⟩:=hm.yes rfl
   have ha:h.agr h.sights=true:=(Z1A hk hk.sights).2 ⟨t,t1,t2⟩
   have hs:=MinI.short (has:=fun l=>Z1D h.gaps (msk l) h.sights) (n:=h.bins.toNat) (b:=b) (by omega) (hm.cg fun t ht=>Zg0 (t:=t) (Nat.lt_of_lt_of_le ht hp))
   refine ⟨ha,?_,?_,?_⟩
   · unfold Hse.orgR;rw [hck,ha,hs];rfl
   · unfold Hse.aptR;rw [hck,ha];rfl
   · unfold Hse.claR;rw [hck,(ZaI hk).2 ha];rfl
 · rintro rfl
   refine ⟨?_,(hm.no rfl).2⟩
   cases ha:h.agr h.sights with
   | false=>rfl
   | true =>
     obtain ⟨m,m1,m2⟩:=(Z1A hk hk.sights).1 ha
     have:exB h m=false:=(hm.no rfl).1 m m1
     unfold exB at this
     rw [m2] at this;cases this
theorem Zgp {h:Hse}:h.aptR.2=h.orgR.2:=by
 unfold Hse.aptR Hse.orgR
 cases decide (h.check≠0)
 · cases h.agr h.sights<;>rfl
 · rfl
set_option maxHeartbeats 1000000 in
theorem Z4p (h:Hse) (ag as_:Option Addr) (cg cs:Nat) (hlg:h.gaps.length≤9223372036854775807) (hls:h.sights.length≤9223372036854775807) (week:Int) (H:Zf) (R:Z6) [hG:MemRows ag 2 (Z7 h.gaps) R] [hS:MemRows as_ 3 (Z8 h.sights) R] :
    Fn Tryz.prog 13 [h.v (h.sg ag cg) (h.ss as_ cs),.int .i64 week] H R (fun v H' R'=>v = .bool true∧H'=H∧R'=R):=by
 refine Zl Tryz.func13 rfl Tryz.ntmps13 rfl ?_
 refine sqt 2 rfl (bx rfl rfl rfl (fun b2=>pur 1 rfl (Z0 (sqt 2 rfl (spL rfl rfl (lhA (htl h (h.sg ag cg) (h.ss as_ cs)) ZA rfl rfl rfl) rfl ?_)))))
 refine clV rfl ZcX rfl rfl (Z5L h ag as_ cg cs (by omega) (by omega) _ _) ?_
 refine Z1 rfl ?_ ?_<;>intro hc0
 refine sqt 2 rfl ?_
 refine clV rfl Z2U rfl rfl (Z0x _ _) ?_
 refine pur 1 rfl (Z5 ?_)
 exact rtA rfl rfl rfl ⟨rfl,rfl,rfl⟩ (fun w h9=>St.sub (h9.del b2))
 have hsm:h.gaps.length≤14∧h.sights.length≤12:=by
   unfold Zco at hc0
   rw [Bool.or_eq_false_iff] at hc0
   have:=of_decide_eq_false hc0.1;have:=of_decide_eq_false hc0.2;omega
 obtain ⟨hsg14,hss12⟩:=hsm
 have hb7:h.check=0→h.bins≤7:=fun e=>by have:=(hse_ok.1 e).bins;omega
 have hs8:h.check=0→h.sights.length≤8:=fun e=>(hse_ok.1 e).sl
 have z1:=ZdF hb7
 have z2:=ZcA hs8
 have z3:=ZdZ (week:=week) hb7
 have z4:=ZdG (week:=week) hb7
 have z5:=Zd2 hs8
 have hae:=Zgp (h:=h)
 refine Z2 (Z0 ?_)
 refine Z6m [0,1,0,7,0,0,63,127] [0,1,2,3,4,5,6,7] ZF (by kernel_rfl) rfl (fun s L H1 R1=>∃ (oa:Option Addr) (ob:Option Addr) (oc:Nat) (od:Nat) (xa:Option Addr) (xb:Option Addr) (xc:Nat) (xd:Nat) (b5:Nat) (x5:List Value) (b6:Nat) (x6:List Value),Sub [(1,.int .i64 week),(2,.pointer (some ⟨b2,0,none⟩))] L∧(∀ f∈(R:Z6),f∈R1)∧(s 0=true→lk L 30=some (h.v (h.sg ag cg) (h.ss as_ cs)))∧(s 1=true→lk L 31=some (h.v (h.sg oa oc) (h.ss ob od))∧(RowsA ob 3 (Z8 h.sights))∈R1∧(RowsA oa 2 (Z7 h.gaps))∈R1)∧(s 2=true→lk L 32=some (h.v (h.sg ag cg) (h.ss as_ cs)))∧(s 3=true→lk L 33=some (h.v (h.sg xa xc) (h.ss xb xd))∧(RowsA xb 3 (Z8 h.sights))∈R1∧(RowsA xa 2 (Z7 h.gaps))∈R1)∧(s 4=true→lk L 5=some (.pointer (some ⟨b5,0,none⟩))∧(s 6=false→x5=[.int .i64 0,.slice none 0 0,.slice none 0 0]))∧(s 5=true→lk L 6=some (.pointer (some ⟨b6,0,none⟩))∧(s 7=false→x6=[.int .i64 0,.slice none 0 0,.slice none 0 0]))∧(s 6=true→x5=htl h (h.sg oa oc) (h.ss ob od))∧(s 7=true→x6=htl h (h.sg xa xc) (h.ss xb xd))∧∀ w,St H1 R1 w→St ((bif s 5 then [(b6,cel 57 x6)] else [])++((bif s 4 then [(b5,cel 27 x5)] else [])++((b2,cel 27 (htl h (h.sg ag cg) (h.ss as_ cs)))::H))) R1 w) ?_ ?_ ?_
 exact ⟨none,none,0,0,none,none,0,0,0,[],0,[],sbA,fun _ hf=>hf,ff,ff,ff,ff,ff,ff,ff,ff,fun w y9=>y9⟩
 refine ⟨?_,?_,?_,?_,?_,?_,?_,?_,trivial⟩
 intro s Lz Hz Rz hdn hs hpre hI K hK
 obtain ⟨oa,ob,oc,od,xa,xb,xc,xd,b5,x5,b6,x6,hL0,hR0,q0,q1,q2,q3,q4,q5,q6,q7,hH⟩:=hI
 refine Sy.heap hH ?_
 refine spL rfl (Sub.lk hL0 _ _ rfl) ((lhA (htl h (h.sg ag cg) (h.ss as_ cs)) ZA rfl rfl rfl)) rfl ?_
 exact hK _ _ _ ⟨oa,ob,oc,od,xa,xb,xc,xd,b5,x5,b6,x6,ZD rfl hL0,hR0,fun _=>ZS,lm2 q1,lm1 q2,lm2 q3,lm2 q4,lm2 q5,q6,q7,fun w y9=>y9⟩
 intro s Lz Hz Rz hdn hs hpre hI K hK
 obtain ⟨oa,ob,oc,od,xa,xb,xc,xd,b5,x5,b6,x6,hL0,hR0,q0,q1,q2,q3,q4,q5,q6,q7,hH⟩:=hI
 have h0:s 0=true:=hpre 0 rfl
 refine Sy.heap hH ?_
 haveI m0:MemRows ag 2 (Z7 h.gaps) Rz:=⟨hR0 _ (inferInstance:MemRows ag 2 (Z7 h.gaps) (R)).mem⟩
 haveI m1:MemRows as_ 3 (Z8 h.sights) Rz:=⟨hR0 _ (inferInstance:MemRows as_ 3 (Z8 h.sights) (R)).mem⟩
 refine cl rfl Z9i rfl (by simp only [evs,show ev Lz (.tmp 30)=_ from (q0 h0)]) (Z8b h ag as_ cg cs (by omega) (by omega) _ _) ?_
 rintro _ _ R1 ⟨oa,ob,oc,od,rfl,rfl,hR1⟩
 obtain rfl:=hR1.symm
 clear hR1
 exact hK _ _ _ ⟨oa,ob,oc,od,xa,xb,xc,xd,b5,x5,b6,x6,ZD rfl hL0,Z07 (Z07 (hR0)),fun h=>Zr rfl (q0 h),fun _=>⟨ZS,(by simp),(by simp)⟩,fun h=>Zr rfl (q2 h),fun h=>⟨Zr rfl (q3 h).1,List.mem_cons_of_mem _ (List.mem_cons_of_mem _ ((q3 h).2.1)),List.mem_cons_of_mem _ (List.mem_cons_of_mem _ ((q3 h).2.2))⟩,fun h=>⟨Zr rfl (q4 h).1,(q4 h).2⟩,fun h=>⟨Zr rfl (q5 h).1,(q5 h).2⟩,nof hdn hs 6,q7,fun w y9=>y9⟩
 intro s Lz Hz Rz hdn hs hpre hI K hK
 obtain ⟨oa,ob,oc,od,xa,xb,xc,xd,b5,x5,b6,x6,hL0,hR0,q0,q1,q2,q3,q4,q5,q6,q7,hH⟩:=hI
 refine Sy.heap hH ?_
 refine spL rfl (Sub.lk hL0 _ _ rfl) ((lhA (htl h (h.sg ag cg) (h.ss as_ cs)) ZA rfl rfl rfl)) rfl ?_
 exact hK _ _ _ ⟨oa,ob,oc,od,xa,xb,xc,xd,b5,x5,b6,x6,ZD rfl hL0,hR0,lm1 q0,lm2 q1,fun _=>ZS,lm2 q3,lm2 q4,lm2 q5,q6,q7,fun w y9=>y9⟩
 intro s Lz Hz Rz hdn hs hpre hI K hK
 obtain ⟨oa,ob,oc,od,xa,xb,xc,xd,b5,x5,b6,x6,hL0,hR0,q0,q1,q2,q3,q4,q5,q6,q7,hH⟩:=hI
 obtain ⟨h0,h1,h2⟩:s 0=true∧s 1=true∧s 2=true:=⟨hpre 0 rfl,hpre 1 rfl,hpre 2 rfl⟩
 refine Sy.heap hH ?_
 haveI m0:MemRows ag 2 (Z7 h.gaps) Rz:=⟨hR0 _ (inferInstance:MemRows ag 2 (Z7 h.gaps) (R)).mem⟩
 haveI m1:MemRows as_ 3 (Z8 h.sights) Rz:=⟨hR0 _ (inferInstance:MemRows as_ 3 (Z8 h.sights) (R)).mem⟩
 refine cl rfl Zaz rfl (by simp only [evs,show ev Lz (.tmp 32)=_ from (q2 h2)]) (Z3f h ag as_ cg cs (by omega) (by omega) _ _) ?_
 rintro _ _ R1 ⟨xa,xb,xc,xd,rfl,rfl,hR1⟩
 obtain rfl:=hR1.symm
 clear hR1
 exact hK _ _ _ ⟨oa,ob,oc,od,xa,xb,xc,xd,b5,x5,b6,x6,ZD rfl hL0,Z07 (Z07 (hR0)),fun h=>Zr rfl (q0 h),fun h=>⟨Zr rfl (q1 h).1,List.mem_cons_of_mem _ (List.mem_cons_of_mem _ ((q1 h).2.1)),List.mem_cons_of_mem _ (List.mem_cons_of_mem _ ((q1 h).2.2))⟩,fun h=>Zr rfl (q2 h),fun _=>⟨ZS,(by simp),(by simp)⟩,fun h=>⟨Zr rfl (q4 h).1,(q4 h).2⟩,fun h=>⟨Zr rfl (q5 h).1,(q5 h).2⟩,q6,nof hdn hs 7,fun w y9=>y9⟩
 intro s Lz Hz Rz hdn hs hpre hI K hK
 obtain ⟨oa,ob,oc,od,xa,xb,xc,xd,b5,x5,b6,x6,hL0,hR0,q0,q1,q2,q3,q4,q5,q6,q7,hH⟩:=hI
 refine Sy.heap hH ?_
 refine alc rfl Z0V rfl (fun b5=>?_)
 exact hK _ _ _ ⟨oa,ob,oc,od,xa,xb,xc,xd,b5,[.int .i64 0,.slice none 0 0,.slice none 0 0],b6,x6,ZD rfl hL0,hR0,lm1 q0,lm2 q1,lm1 q2,lm2 q3,fun _=>⟨ZS,fun _=>rfl⟩,lm2 q5,nof hdn hs 6,q7,fun w y9=>by rw [hs] at y9;exact y9.perm (List.perm_middle.symm.trans (List.Perm.append_left _ (.refl _)))⟩
 intro s Lz Hz Rz hdn hs hpre hI K hK
 obtain ⟨oa,ob,oc,od,xa,xb,xc,xd,b5,x5,b6,x6,hL0,hR0,q0,q1,q2,q3,q4,q5,q6,q7,hH⟩:=hI
 refine Sy.heap hH ?_
 refine alc rfl ZgT rfl (fun b6=>?_)
 exact hK _ _ _ ⟨oa,ob,oc,od,xa,xb,xc,xd,b5,x5,b6,[.int .i64 0,.slice none 0 0,.slice none 0 0],ZD rfl hL0,hR0,lm1 q0,lm2 q1,lm1 q2,lm2 q3,lm2 q4,fun _=>⟨ZS,fun _=>rfl⟩,q6,nof hdn hs 7,fun w y9=>by rw [hs] at y9;exact y9.perm (.refl _)⟩
 intro s Lz Hz Rz hdn hs hpre hI K hK
 obtain ⟨oa,ob,oc,od,xa,xb,xc,xd,b5,x5,b6,x6,hL0,hR0,q0,q1,q2,q3,q4,q5,q6,q7,hH⟩:=hI
 obtain ⟨h0,h1,h2,h3,h4,h5⟩:s 0=true∧s 1=true∧s 2=true∧s 3=true∧s 4=true∧s 5=true:=⟨hpre 0 rfl,hpre 1 rfl,hpre 2 rfl,hpre 3 rfl,hpre 4 rfl,hpre 5 rfl⟩
 refine Sy.heap hH ?_
 obtain rfl:=(q4 h4).2 hs
 refine Sy.heap (H':=(bif s 5 then [(b6,cel 57 x6)] else [])++((b5,cel 27 [.int .i64 0,.slice none 0 0,.slice none 0 0])::((b2,cel 27 (htl h (h.sg ag cg) (h.ss as_ cs)))::H))) (fun w y9=>by rw [h4] at y9;exact y9) ?_
 refine ZG (l':=htl h (h.sg oa oc) (h.ss ob od)) rfl (q4 h4).1 (q1 h1).1 Z1i rfl rfl rfl rfl (Nat.le_refl _) ?_
 exact hK _ _ _ ⟨oa,ob,oc,od,xa,xb,xc,xd,b5,htl h (h.sg oa oc) (h.ss ob od),b6,x6,hL0,hR0,q0,q1,q2,q3,fun h=>⟨(q4 h).1,fun h=>by cases (show true=false from h)⟩,q5,fun _=>rfl,q7,fun w y9=>by show St ((bif s 5 then [(b6,cel 57 x6)] else [])++((bif s 4 then [(b5,cel 27 (htl h (h.sg oa oc) (h.ss ob od)))] else [])++((b2,cel 27 (htl h (h.sg ag cg) (h.ss as_ cs)))::H))) Rz w;rw [h4];exact y9⟩
 intro s Lz Hz Rz hdn hs hpre hI K hK
 obtain ⟨oa,ob,oc,od,xa,xb,xc,xd,b5,x5,b6,x6,hL0,hR0,q0,q1,q2,q3,q4,q5,q6,q7,hH⟩:=hI
 obtain ⟨h0,h1,h2,h3,h4,h5,h6⟩:s 0=true∧s 1=true∧s 2=true∧s 3=true∧s 4=true∧s 5=true∧s 6=true:=⟨hpre 0 rfl,hpre 1 rfl,hpre 2 rfl,hpre 3 rfl,hpre 4 rfl,hpre 5 rfl,hpre 6 rfl⟩
 refine Sy.heap hH ?_
 obtain rfl:=(q5 h5).2 hs
 refine Sy.heap (H':=(b6,cel 57 [.int .i64 0,.slice none 0 0,.slice none 0 0])::((bif s 4 then [(b5,cel 27 x5)] else [])++((b2,cel 27 (htl h (h.sg ag cg) (h.ss as_ cs)))::H))) (fun w y9=>by rw [h5] at y9;exact y9) ?_
 refine ZG (l':=htl h (h.sg xa xc) (h.ss xb xd)) rfl (q5 h5).1 (q3 h3).1 ZgY rfl rfl rfl rfl (Nat.le_refl _) ?_
 exact hK _ _ _ ⟨oa,ob,oc,od,xa,xb,xc,xd,b5,x5,b6,htl h (h.sg xa xc) (h.ss xb xd),hL0,hR0,q0,q1,q2,q3,q4,fun h=>⟨(q5 h).1,fun h=>by cases (show true=false from h)⟩,q6,fun _=>rfl,fun w y9=>by show St ((bif s 5 then [(b6,cel 57 (htl h (h.sg xa xc) (h.ss xb xd)))] else [])++((bif s 4 then [(b5,cel 27 x5)] else [])++((b2,cel 27 (htl h (h.sg ag cg) (h.ss as_ cs)))::H))) Rz w;rw [h5];exact y9⟩
 intro Lz Hz Rz hI
 obtain ⟨oa,ob,oc,od,xa,xb,xc,xd,b5,x5,b6,x6,hL0,hR0,q0,q1,q2,q3,q4,q5,q6,q7,hH⟩:=hI
 obtain rfl:=q7 rfl
 obtain rfl:=q6 rfl
 refine Sy.weak (L':=[(6,.pointer (some ⟨b6,0,none⟩)),(5,.pointer (some ⟨b5,0,none⟩)),(1,.int .i64 week),(2,.pointer (some ⟨b2,0,none⟩))]) (H':=(b6,cel 57 (htl h (h.sg xa xc) (h.ss xb xd)))::(b5,cel 27 (htl h (h.sg oa oc) (h.ss ob od)))::(b2,cel 27 (htl h (h.sg ag cg) (h.ss as_ cs)))::H) (R':=RowsA xb 3 (Z8 h.sights)::RowsA xa 2 (Z7 h.gaps)::RowsA ob 3 (Z8 h.sights)::RowsA oa 2 (Z7 h.gaps)::R) ?_ (Sub.cons (q5 rfl).1 (Sub.cons (q4 rfl).1 hL0)).lk (fun w h=>St.facts (hH w h) (Z06 (q3 rfl).2.1 (Z06 (q3 rfl).2.2 (Z06 (q1 rfl).2.1 (Z06 (q1 rfl).2.2 hR0)))))
 refine sqt 3 rfl (spL rfl rfl (lhA (htl h (h.sg xa xc) (h.ss xb xd)) Z1q rfl rfl rfl) rfl ?_)
 refine clV rfl ZaA rfl rfl (Z3e h xa xb xc xd (by omega) (by omega) _ _) ?_
 refine pur 1 rfl (sqt 6 rfl (pur 6 rfl (sqt 5 rfl (pur 5 rfl (Z0 (sqt 2 rfl (pur 2 rfl ?_)))))))
 refine ZL (ι:=(Option Addr×Option Addr×Option Addr×Option Addr×Option Addr)×(Nat×Nat×Nat×Nat×Nat)) (fun y=>⟨[(1,.int .i64 week),(2,.pointer (some ⟨b2,0,none⟩)),(5,.pointer (some ⟨b5,0,none⟩)),(6,.pointer (some ⟨b6,0,none⟩)),(8,.int .i64 h.orgR.2),(9,.int .i64 (h.wkE week)),(10,.int .i64 h.claR.2),(11,.slice y.1.1 h.orgR.1.length y.2.1),(12,.slice y.1.2.1 h.aptR.1.length y.2.2.1),(13,.slice y.1.2.2.1 (h.surR week).1.length y.2.2.2.1),(14,.slice y.1.2.2.2.1 (h.perR week).1.length y.2.2.2.2.1),(15,.slice y.1.2.2.2.2 h.claR.1.length y.2.2.2.2.2)],(b6,cel 57 (htl h (h.sg xa xc) (h.ss xb xd)))::(b5,cel 27 (htl h (h.sg oa oc) (h.ss ob od)))::(b2,cel 27 (htl h (h.sg ag cg) (h.ss as_ cs)))::H,RowsA y.1.2.2.2.2 1 (Z3 h.claR.1)::RowsA y.1.2.2.2.1 1 (Z3 (h.perR week).1)::RowsA y.1.2.2.1 1 (Z3 (h.surR week).1)::RowsA y.1.2.1 1 (Z3 h.aptR.1)::RowsA y.1.1 1 (Z3 h.orgR.1)::RowsA xb 3 (Z8 h.sights)::RowsA xa 2 (Z7 h.gaps)::RowsA ob 3 (Z8 h.sights)::RowsA oa 2 (Z7 h.gaps)::R⟩) ?_ ?_
 refine Z1 rfl ?_ ?_<;>intro hc1<;>try simp only [cS] at hc1
 have hok:=hse_ok.1 hc1
 refine sqt 1 rfl (pur 1 rfl (Z0 (sqt 12 rfl (spL rfl rfl (lhA (htl h (h.sg xa xc) (h.ss xb xd)) Z1q rfl rfl rfl) rfl (pur 1 rfl ?_)))))
 refine cl rfl ZjD rfl rfl (Z9h h xa xb xc xd hok week _ _) ?_
 rintro _ _ R1 ⟨f,bs,ab,as1,as2,cb,cs1,cs2,hmi,rfl,rfl,hR1⟩
 obtain rfl:=hR1.symm
 clear hR1
 obtain ⟨ht,hf⟩:=Zgo hok hmi
 refine pur 9 rfl (sqt 1 rfl (pur 1 rfl ?_))
 refine Z1 rfl ?_ ?_<;>intro hc2
 obtain ⟨hag,r1,r2,r5⟩:=ht hc2
 refine sqr 5 rfl (spL rfl rfl (lhA (htl h (h.sg xa xc) (h.ss xb xd)) Z1q rfl rfl rfl) rfl ?_)
 refine cl rfl ZjE rfl rfl (ZcN h xa xb xc xd hok _ _) ?_
 rintro _ _ R1 ⟨bp,aq,cq,hlo,rfl,rfl,hR1⟩
 obtain rfl:=hR1.symm
 clear hR1
 obtain rfl:=Zgg hok (fun t ht=>Zgn hok (Zs t)) hlo
 refine pur 3 rfl (Z0 (sqt 2 rfl (pur 2 rfl (sqt 6 rfl (pur 3 rfl ?_)))))
 refine Zj 60 rfl ?_ ?_<;>intro g60
 try simp only [cS] at g60
 have hin:inB week 0 9=false:=by simp [inB];omega
 refine pur 3 rfl ?_
 refine ZP rfl ?_
 refine sqr 1 rfl (pur 1 rfl (sqt 2 rfl (pur 2 rfl ?_)))
 refine Z1 rfl ?_ ?_<;>intro hc4
 refine sqr 2 rfl (pur 2 rfl ?_)
 obtain ⟨r3,r4⟩:=Z5E hc1 hin
 have r7:h.wkE week=3:=Z4Z hc1 (by rw [hin];rfl)
 exact ZR ((ab,aq,none,none,none),(cb,cq,0,0,0)) (by dsimp only;rw [r1,r2,r3,r4,r5,r7];exact sbA) (fun w h9=>by dsimp only;rw [r1,r2,r3,r4,r5];exact (St.norows (sz:=1) (St.norows (sz:=1) (St.norows (sz:=1) (h9)))).facts (fun g hg=>by simp only [List.mem_cons] at hg ⊢;rcases hg with h8 | h8 | h8 | h8 | h8 | h8 | h8 | h8 | h8 | h8<;>simp [h8]))
 exact absurd hc4 (by decide)
 try simp only [cS] at g60
 refine pur 3 rfl ?_
 refine Z1 rfl ?_ ?_<;>intro hc3<;>try simp only [cS] at hc3
 have hin:inB week 0 9=false:=by simp [inB];omega
 refine sqr 1 rfl (pur 1 rfl (sqt 2 rfl (pur 2 rfl ?_)))
 refine Z1 rfl ?_ ?_<;>intro hc4
 refine sqr 2 rfl (pur 2 rfl ?_)
 obtain ⟨r3,r4⟩:=Z5E hc1 hin
 have r7:h.wkE week=3:=Z4Z hc1 (by rw [hin];rfl)
 exact ZR ((ab,aq,none,none,none),(cb,cq,0,0,0)) (by dsimp only;rw [r1,r2,r3,r4,r5,r7];exact sbA) (fun w h9=>by dsimp only;rw [r1,r2,r3,r4,r5];exact (St.norows (sz:=1) (St.norows (sz:=1) (St.norows (sz:=1) (h9)))).facts (fun g hg=>by simp only [List.mem_cons] at hg ⊢;rcases hg with h8 | h8 | h8 | h8 | h8 | h8 | h8 | h8 | h8 | h8<;>simp [h8]))
 exact absurd hc4 (by decide)
 have hin:inB week 0 9=true:=by simp [inB];omega
 have hw9:0≤week∧week≤9:=by omega
 refine Z2 (sqt 2 rfl (pur 2 rfl ?_))
 refine Z1 rfl ?_ ?_<;>intro hc4
 exact absurd hc4 (by decide)
 refine Z2 ?_
 have r7:h.wkE week=0:=Zch hc1 (by rw [hin];rfl) hag
 have r3:=Zc4 r7
 have r4:=Zbx r7
 have r9:=Zex (n:=h.bins.toNat) (fun k _=>ZgL hok hw9 hag (k:=k))
 have r10:=Zex (n:=h.bins.toNat) (fun k _=>Zgq hok hw9 hag (k:=k))
 exact ZR ((ab,aq,as1,as2,none),(cb,cq,cs1,cs2,0)) (by dsimp only;rw [r1,r2,r3,r4,r5,r7,← r9,← r10];exact sbA) (fun w h9=>by dsimp only;rw [r1,r2,r3,r4,r5,← r9,← r10];exact (St.norows (sz:=1) (h9)).facts (fun g hg=>by simp only [List.mem_cons] at hg ⊢;rcases hg with h8 | h8 | h8 | h8 | h8 | h8 | h8 | h8 | h8 | h8<;>simp [h8]))
 obtain ⟨hag,rfl⟩:=hf hc2
 refine sqt 2 rfl (pur 2 rfl (sqr 6 rfl (spL rfl rfl (lhA (htl h (h.sg xa xc) (h.ss xb xd)) Z1q rfl rfl rfl) rfl ?_)))
 refine cl rfl ZjF rfl rfl (ZcO h xa xb xc xd hok _ _) ?_
 rintro _ _ R1 ⟨fc,bc,aq,cq,hmc,rfl,rfl,hR1⟩
 obtain rfl:=hR1.symm
 clear hR1
 obtain ⟨r1,r2,r5,r6⟩:=Zf7 (week:=week) hc1 hag (ZfO hok hmc hag)
 refine pur 4 rfl (Z0 (sqt 2 rfl (pur 2 rfl (sqt 6 rfl (pur 3 rfl ?_)))))
 refine Zj 60 rfl ?_ ?_<;>intro g60
 try simp only [cS] at g60
 have hin:inB week 0 9=false:=by simp [inB];omega
 refine pur 3 rfl ?_
 refine ZP rfl ?_
 refine sqr 1 rfl (pur 1 rfl (sqt 2 rfl (pur 2 rfl ?_)))
 refine Z1 rfl ?_ ?_<;>intro hc4
 refine sqr 2 rfl (pur 2 rfl ?_)
 obtain ⟨r3,r4⟩:=Z5E hc1 hin
 have r7:h.wkE week=3:=Z4Z hc1 (by rw [hin];rfl)
 exact ZR ((ab,none,none,none,aq),(cb,0,0,0,cq)) (by dsimp only;rw [r1,r2,r3,r4,r5,r7];exact sbA) (fun w h9=>by dsimp only;rw [r1,r2,r3,r4,r5];exact (St.norows (sz:=1) (St.norows (sz:=1) (St.norows (sz:=1) (h9)))).facts (fun g hg=>by simp only [List.mem_cons] at hg ⊢;rcases hg with h8 | h8 | h8 | h8 | h8 | h8 | h8 | h8 | h8 | h8<;>simp [h8]))
 exact absurd hc4 (by decide)
 try simp only [cS] at g60
 refine pur 3 rfl ?_
 refine Z1 rfl ?_ ?_<;>intro hc3<;>try simp only [cS] at hc3
 have hin:inB week 0 9=false:=by simp [inB];omega
 refine sqr 1 rfl (pur 1 rfl (sqt 2 rfl (pur 2 rfl ?_)))
 refine Z1 rfl ?_ ?_<;>intro hc4
 refine sqr 2 rfl (pur 2 rfl ?_)
 obtain ⟨r3,r4⟩:=Z5E hc1 hin
 have r7:h.wkE week=3:=Z4Z hc1 (by rw [hin];rfl)
 exact ZR ((ab,none,none,none,aq),(cb,0,0,0,cq)) (by dsimp only;rw [r1,r2,r3,r4,r5,r7];exact sbA) (fun w h9=>by dsimp only;rw [r1,r2,r3,r4,r5];exact (St.norows (sz:=1) (St.norows (sz:=1) (St.norows (sz:=1) (h9)))).facts (fun g hg=>by simp only [List.mem_cons] at hg ⊢;rcases hg with h8 | h8 | h8 | h8 | h8 | h8 | h8 | h8 | h8 | h8<;>simp [h8]))
 exact absurd hc4 (by decide)
 have hin:inB week 0 9=true:=by simp [inB];omega
 have hw9:0≤week∧week≤9:=by omega
 refine Z2 (sqt 2 rfl (pur 2 rfl ?_))
 refine Z1 rfl ?_ ?_<;>intro hc4
 refine sqr 2 rfl (pur 2 rfl ?_)
 obtain ⟨r3,r4⟩:=r6 hin
 have r7:h.wkE week=7:=Z9a hc1 (by rw [hin];rfl) hag
 exact ZR ((ab,none,none,none,aq),(cb,0,0,0,cq)) (by dsimp only;rw [r1,r2,r3,r4,r5,r7];exact sbA) (fun w h9=>by dsimp only;rw [r1,r2,r3,r4,r5];exact (St.norows (sz:=1) (St.norows (sz:=1) (St.norows (sz:=1) (h9)))).facts (fun g hg=>by simp only [List.mem_cons] at hg ⊢;rcases hg with h8 | h8 | h8 | h8 | h8 | h8 | h8 | h8 | h8 | h8<;>simp [h8]))
 exact absurd hc4 (by decide)
 obtain ⟨r1,r2,r3,r4,r5,r6⟩:=Zf6 (week:=week) hc1
 refine Z2 ?_
 exact ZR ((none,none,none,none,none),(0,0,0,0,0)) (by dsimp only;rw [r1,r2,r3,r4,r5,r6];exact sbA) (fun w h9=>by dsimp only;rw [r1,r2,r3,r4,r5];exact St.norows (sz:=1) (St.norows (sz:=1) (St.norows (sz:=1) (St.norows (sz:=1) (St.norows (sz:=1) (h9))))))
 rintro ⟨⟨a1,a2,a3,a4,a5⟩,c1,c2,c3,c4,c5⟩
 dsimp only
 refine sqt 7 rfl (spL rfl rfl (lhA (htl h (h.sg oa oc) (h.ss ob od)) ZA rfl rfl rfl) rfl ?_)
 refine cl rfl Zi3 rfl rfl (Z6y h oa ob oc od (by omega) (by omega) _ _) ?_
 rintro _ _ R1 ⟨e1,k1,hk1,rfl,rfl,hR1⟩
 obtain rfl:=hR1.symm
 clear hR1
 refine pur 5 rfl (sqt 7 rfl (spL rfl rfl (lhA (htl h (h.sg oa oc) (h.ss ob od)) ZA rfl rfl rfl) rfl ?_))
 refine cl rfl ZjG rfl rfl (Zfk h oa ob oc od (by omega) (by omega) _ _) ?_
 rintro _ _ R1 ⟨e2,k2,hk2,rfl,rfl,hR1⟩
 obtain rfl:=hR1.symm
 clear hR1
 rw [hae]
 refine pur 5 rfl (sqt 8 rfl (spL rfl rfl (lhA (htl h (h.sg oa oc) (h.ss ob od)) ZA rfl rfl rfl) rfl (pur 1 rfl ?_)))
 refine cl rfl Zi4 rfl rfl (Z8d h oa ob oc od (by omega) (by omega) week _ _) ?_
 rintro _ _ R1 ⟨e3,k3,hk3,rfl,rfl,hR1⟩
 obtain rfl:=hR1.symm
 clear hR1
 rw [show (h.surR week).2=h.wkE week from rfl]
 refine pur 5 rfl (sqt 8 rfl (spL rfl rfl (lhA (htl h (h.sg oa oc) (h.ss ob od)) ZA rfl rfl rfl) rfl (pur 1 rfl ?_)))
 refine cl rfl ZjH rfl rfl (Za5 h oa ob oc od (by omega) (by omega) week _ _) ?_
 rintro _ _ R1 ⟨e4,k4,hk4,rfl,rfl,hR1⟩
 obtain rfl:=hR1.symm
 clear hR1
 rw [show (h.perR week).2=h.wkE week from rfl]
 refine pur 5 rfl (sqt 7 rfl (spL rfl rfl (lhA (htl h (h.sg oa oc) (h.ss ob od)) ZA rfl rfl rfl) rfl ?_))
 refine cl rfl Zi5 rfl rfl (Za1 h oa ob oc od (by omega) (by omega) _ _) ?_
 rintro _ _ R1 ⟨e5,k5,hk5,rfl,rfl,hR1⟩
 obtain rfl:=hR1.symm
 clear hR1
 refine pur 5 rfl (sqt 57 rfl (pur 4 rfl ?_))
 refine Zj 96 rfl ?_ ?_<;>intro g96
 refine pur 5 rfl ?_
 refine Zj 101 rfl ?_ ?_<;>intro g101
 refine pur 5 rfl ?_
 refine Zj 106 rfl ?_ ?_<;>intro g106
 refine pur 5 rfl ?_
 refine Zj 111 rfl ?_ ?_<;>intro g111
 refine pur 5 rfl ?_
 refine Zj 116 rfl ?_ ?_<;>intro g116
 refine pur 2 rfl ?_
 refine Z0C rfl rfl rfl rfl Z1Y rfl rfl (ZW h.orgR.1 h.orgR.1 e1 a1 k1 c1 (by omega) (by omega) _ _) ?_
 refine pur 2 rfl ?_
 refine Zj 121 rfl ?_ ?_<;>intro g121
 refine pur 2 rfl ?_
 refine Z0C rfl rfl rfl rfl Z1Y rfl rfl (ZW h.aptR.1 h.aptR.1 e2 a2 k2 c2 (by omega) (by omega) _ _) ?_
 refine pur 2 rfl ?_
 refine Zj 126 rfl ?_ ?_<;>intro g126
 refine pur 2 rfl ?_
 refine Z0C rfl rfl rfl rfl Z1Y rfl rfl (ZW (h.surR week).1 (h.surR week).1 e3 a3 k3 c3 (by omega) (by omega) _ _) ?_
 refine pur 2 rfl ?_
 refine Zj 131 rfl ?_ ?_<;>intro g131
 refine pur 2 rfl ?_
 refine Z0C rfl rfl rfl rfl Z1Y rfl rfl (ZW (h.perR week).1 (h.perR week).1 e4 a4 k4 c4 (by omega) (by omega) _ _) ?_
 refine pur 2 rfl ?_
 refine Zj 136 rfl ?_ ?_<;>intro g136
 refine pur 2 rfl ?_
 refine Z0C rfl rfl rfl rfl Z1Y rfl rfl (ZW h.claR.1 h.claR.1 e5 a5 k5 c5 (by omega) (by omega) _ _) ?_
 refine pur 2 rfl ?_
 refine Zj 141 rfl ?_ ?_<;>intro g141
 refine Z0m rfl rfl rfl rfl rfl (lhA (htl h (h.sg oa oc) (h.ss ob od)) ZA rfl rfl rfl) rfl (Z0m rfl rfl rfl rfl rfl (lhA (htl h (h.sg ag cg) (h.ss as_ cs)) ZA rfl rfl rfl) rfl ?_)
 refine Z0C rfl rfl rfl rfl Z7t rfl rfl (Z4y h h oa ob ag as_ oc od cg cs (by omega) (by omega) (by omega) (by omega) _ _) ?_
 refine pur 2 rfl ?_
 refine Zj 146 rfl ?_ ?_<;>intro g146
 refine Z0C rfl rfl rfl rfl Z2U rfl rfl (Z0x _ _) ?_
 refine pur 2 rfl (Z5 ?_)
 exact rtA rfl rfl rfl ⟨rfl,rfl,rfl⟩ (fun w h9=>St.sub (((h9.del b6).del b5).del b2))
 rw [sameH_iff.2 rfl] at g146;exact absurd g146 (by decide)
 exact absurd g141 (by simp)
 exact absurd g136 (by simp)
 exact absurd g131 (by simp)
 exact absurd g126 (by simp)
 exact absurd g121 (by simp)
 exact absurd g116 (by simp)
 exact absurd g111 (by simp)
 exact absurd g106 (by simp)
 exact absurd g101 (by simp)
 exact absurd g96 (by simp)
theorem Z9X:arN Tryz.prog 31=some (3,1):=by kernel_rfl
theorem Zjp:cal Tryz.prog 12=true:=by kernel_rfl
theorem Zjq:cal Tryz.prog 13=true:=by kernel_rfl
theorem Zjr:cal Tryz.prog 14=true:=by kernel_rfl
theorem Zkk:cal Tryz.prog 6=true:=by kernel_rfl
theorem Z49 (h:Hse) (ag as_:Option Addr) (cg cs:Nat) (hlg:h.gaps.length≤9223372036854775807) (hls:h.sights.length≤9223372036854775807) (fr to_ gp:List Int) (af at_ ga:Option Addr) (cf ct gc:Nat) (hl_fr:fr.length≤9223372036854775807) (hl_to_:to_.length≤9223372036854775807) (hl_gp:gp.length≤9223372036854775807) (hfc:fr.length≤cf) (htc:to_.length≤ct) (hgc:gp.length≤gc) (pl:List PL) (ap:Option Addr) (cp:Nat) (hpl:pl.length≤9223372036854775807) (hpi:∀ x∈pl,x.l.length≤9223372036854775807) (ql:List PL) (aq:Option Addr) (cq:Nat) (hql:ql.length≤9223372036854775807) (hqi:∀ x∈ql,x.l.length≤9223372036854775807) (sw:Sgt) (n0 n1 n2:Int) (H:Zf) (R:Z6) [hG:MemRows ag 2 (Z7 h.gaps) R] [hS:MemRows as_ 3 (Z8 h.sights) R] [hF:MemRows af 1 (Z3 fr) R] [hT:MemRows at_ 1 (Z3 to_) R] [hGp:MemRows ga 1 (Z3 gp) R] [hP:MemRows ap 1 (Zg pl) R] [hI:MemF (Inn pl) R] [hQ:MemRows aq 1 (Zg ql) R] [hJ:MemF (Inn ql) R] :
    Fn Tryz.prog 5 [h.v (h.sg ag cg) (h.ss as_ cs),.slice af fr.length cf,.slice at_ to_.length ct,.slice ga gp.length gc,.slice ap pl.length cp,.slice aq ql.length cq,.agg (ZY sw).toArray,.agg #[.int .i64 n0,.int .i64 n1,.int .i64 n2]] H R (fun v H' R'=>v = .bool true∧H'=H∧R'=R):=by
 refine Zl Tryz.func5 rfl Tryz.ntmps5 rfl ?_
 refine sqt 4 rfl (bx rfl rfl rfl (fun b8=>bx rfl rfl rfl (fun b14=>bx rfl rfl rfl (fun b15=>pur 1 rfl (sqt 30 rfl (spL rfl rfl (lhA (htl h (h.sg ag cg) (h.ss as_ cs)) ZA rfl rfl rfl) rfl (pur 1 rfl (spL rfl rfl (lhA (ZY sw) Z6r rfl rfl rfl) rfl (sp rfl (PE.indexArr Z9X rfl rfl (by decide) (by decide)) rfl (spL rfl rfl (lh sc3 rfl rfl) rfl ?_))))))))))
 refine cl rfl Zjp rfl rfl (Z57 h ag as_ cg cs hlg hls fr af cf hl_fr hfc sw n0 _ _) ?_
 rintro _ _ _ ⟨rfl,rfl,rfl⟩
 refine pur 1 rfl ?_
 refine Zj 23 rfl ?_ ?_<;>intro g23
 refine Z0m rfl rfl rfl rfl rfl (lhA (htl h (h.sg ag cg) (h.ss as_ cs)) ZA rfl rfl rfl) rfl ?_
 refine spG rfl rfl rfl rfl (PE.indexArr Z9X rfl rfl (by decide) (by decide)) rfl ?_
 refine Z0m rfl rfl rfl rfl rfl (lh sc3 rfl rfl) rfl ?_
 refine clG rfl rfl rfl rfl Zjq rfl rfl (Z4p h ag as_ cg cs hlg hls n1 _ _) ?_
 rintro _ _ _ ⟨rfl,rfl,rfl⟩
 refine pur 2 rfl ?_
 refine Zj 29 rfl ?_ ?_<;>intro g29
 refine Z0m rfl rfl rfl rfl rfl (lhA (htl h (h.sg ag cg) (h.ss as_ cs)) ZA rfl rfl rfl) rfl (pur 4 rfl ?_)
 refine clG rfl rfl rfl rfl Zjr rfl rfl (Z6A h ag as_ cg cs hlg hls fr to_ gp af at_ ga cf ct gc hl_fr hl_to_ hl_gp hfc htc hgc pl ap cp hpl hpi _ _) ?_
 rintro _ _ _ ⟨rfl,rfl,rfl⟩
 refine pur 2 rfl ?_
 refine Zj 37 rfl ?_ ?_<;>intro g37
 refine Z0m rfl rfl rfl rfl rfl (lhA (htl h (h.sg ag cg) (h.ss as_ cs)) ZA rfl rfl rfl) rfl (pur 2 rfl ?_)
 refine spG rfl rfl rfl rfl (PE.indexArr Z9X rfl rfl (by decide) (by decide)) rfl ?_
 refine Z0m rfl rfl rfl rfl rfl (lh sc3 rfl rfl) rfl (pur 1 rfl ?_)
 refine clG rfl rfl rfl rfl Zkk rfl rfl (Z3c h ag as_ cg cs hlg hls fr to_ af at_ cf ct hl_fr hl_to_ hfc htc n2 ql aq cq hql hqi _ _) ?_
 rintro _ _ _ ⟨rfl,rfl,rfl⟩
 refine pur 2 rfl (Z5 ?_)
 exact rtA rfl rfl rfl ⟨rfl,rfl,rfl⟩ (fun w h=>((h.del b15).del b14).del b8)
 exact absurd g37 (by simp)
 exact absurd g29 (by simp)
 exact absurd g23 (by simp)
theorem Zky:Z55 Tryz.prog 31=some 3:=by kernel_rfl
theorem Zj6:cal Tryz.prog 5=true:=by kernel_rfl
theorem ZkE:Z0O Tryz.prog 31=some 3:=by kernel_rfl
theorem ZkK:elN Tryz.prog 35=some 1:=by kernel_rfl
theorem Zkq:elN Tryz.prog 46=some 1:=by kernel_rfl
theorem ZkQ:Z3n Tryz.prog 32=true:=by kernel_rfl
theorem ZkR:slE Tryz.prog 35=some (32,1):=by kernel_rfl
theorem Zks:slE Tryz.prog 46=some (4,1):=by kernel_rfl
theorem Zj3:Z09 Tryz.prog 31=some ([.int .i64 0,.int .i64 0,.int .i64 0]):=by kernel_rfl
theorem ZkV:Z09 Tryz.prog 32=some ([.pointer none]):=by kernel_rfl
theorem zl4:Z09 Tryz.prog 4=some ([.bool false]):=by kernel_rfl
def lmL:List (List Int):=[[0,1,5,7,8],[-1,0,2,5,6],[-1,0,4,6],[-1,0,9,10],[-1,0,5,6],[-1,0,3,5,6],[-1,0,1,5,6],[-1,0,1,6,7],[-1,0,5,6,7],[-1,0,2,7],[-1,0,9,10],[-1,0,5,6],[-1,0,6,7],[-1,0,1,9,10],[-1,0,1,2,10,11]]
theorem Ziz:∀ l∈lmL,l.length≤6:=by decide
structure Sm15 where
 f0:Int
 f1:Int
 f2:Int
 f3:Int
 f4:Int
 f5:Int
 f6:Int
 f7:Int
 f8:Int
 f9:Int
 f10:Int
 f11:Int
 f12:Int
 f13:Int
 f14:Int
theorem St.innCons {a:Option Addr} {c:Nat} {l0:List Int} {l:List PL} {H:Zf} {R:Z6} {w:World} [m1:MemF (Inn l) R] [m2:MemRows a 1 (Z3 l0) R] (h:St H R w):St H (Inn (⟨a,c,l0⟩::l)::R) w:=h.also fun w' hw y hy=>by
 rcases List.mem_cons.1 hy with rfl | hy
 · exact hw _ m2.mem
 · exact hw _ m1.mem y hy
theorem St.innNo {l:List PL} {H:Zf} {R:Z6} {w:World} [m1:MemF (Inn l) R] (h:St H R w):St H (Inn (⟨none,0,[]⟩::l)::R) w:=h.also fun w' hw y hy=>by
 rcases List.mem_cons.1 hy with rfl | hy
 · intro i row hi;simp at hi
 · exact hw _ m1.mem y hy
theorem St.innPart {l:List PL} {H:Zf} {R:Z6} {w:World} [m:MemF (Inn l) R] (h:St H R w) (k:List PL) (hk:∀ x∈k,x∈l):St H (Inn k::R) w:=h.also fun _ hg x hx=>hg _ m.mem x (hk x hx)
theorem Zk7 (sz:Nat) (w:World):RowsA none sz [] w:=fun i row hi=>by simp at hi
theorem St.noR {sz:Nat} {H:Zf} {R:Z6} {w:World} (h:St H R w):St H (RowsA none sz []::R) w:=h.also fun w' _=>Zk7 sz w'
theorem St.cut {b off sz:Nat} {rows:List (List Value)} {H:Zf} {R:Z6} {w:World} [m:MemRows (some ⟨b,off,none⟩) sz rows R] (h:St H R w) (n:Nat):St H (RowsA (some ⟨b,off+n*sz,none⟩) sz (rows.drop n)::R) w:=h.also fun w' hg i row hi=>by
 rw [List.getElem?_drop] at hi
 obtain ⟨h1,b',off',he,h2⟩:=hg _ m.mem (n+i) row hi
 cases he
 exact ⟨h1,b,off+n*sz,rfl,fun j x hx=>by rw [show off+n*sz+i*sz+j=off+(n+i)*sz+j by rw [Nat.add_mul];omega];exact h2 j x hx⟩
def smG (n i:Nat):Gp:=⟨(n:Int) / ((i:Int)+1)%(2+(n:Int)%4),bif decide ((n:Int) / ((i:Int)+1)%(2+(n:Int)%4)=((n:Int)+(i:Int)*(i:Int)+1)%(2+(n:Int)%4)) then (((n:Int)+(i:Int)*(i:Int)+1)%(2+(n:Int)%4)+1)%(2+(n:Int)%4) else ((n:Int)+(i:Int)*(i:Int)+1)%(2+(n:Int)%4)⟩
def smS (n i:Nat):Sgt:=⟨(n:Int)*((i:Int)+1)%4,((n:Int)+(i:Int))%(2+(n:Int)%4),decide (((n>>>i:Nat):Int)%2=1)⟩
def ZeU (n k:Nat):List Gp:=(List.range k).map (smG n)
def ZgF (n k:Nat):List Sgt:=(List.range k).map (smS n)
theorem ZbT (n k:Nat):ZeU n (k+1)=ZeU n k++[smG n k]:=by unfold ZeU;rw [List.range_succ,List.map_append];rfl
theorem ZbU (n k:Nat):ZgF n (k+1)=ZgF n k++[smS n k]:=by unfold ZgF;rw [List.range_succ,List.map_append];rfl
theorem Z6g (n k:Nat):(ZeU n k).length=k:=by simp [ZeU]
theorem Z94 (n k:Nat):(ZgF n k).length=k:=by simp [ZgF]
theorem ZeV (n i:Nat) (hn:n<70) (hi:i≤6):(0≤(n:Int)*((i:Int)+1)∧(n:Int)*((i:Int)+1)≤1000)∧(0≤(i:Int)*(i:Int)∧(i:Int)*(i:Int)≤36)∧0≤(n:Int) / ((i:Int)+1):=by
 have h1:(n:Int)*((i:Int)+1)≤69*((i:Int)+1):=Int.mul_le_mul_of_nonneg_right (by omega) (by omega)
 have h2:(i:Int)*(i:Int)≤6*(i:Int):=Int.mul_le_mul_of_nonneg_right (by omega) (by omega)
 exact ⟨⟨Int.mul_nonneg (by omega) (by omega),by omega⟩,⟨Int.mul_nonneg (by omega) (by omega),by omega⟩,Int.ediv_nonneg (by omega) (by omega)⟩
def lgG (k:Nat):List Gp:=(List.range k).map fun (i:Nat)=>⟨(i:Int)%3,((i:Int)+1)%3⟩
def lgS (k:Nat):List Sgt:=(List.range k).map fun (i:Nat)=>⟨(i:Int),(i:Int)%6,true⟩
theorem Zdq (k:Nat):lgG (k+1)=lgG k++[⟨(k:Int)%3,((k:Int)+1)%3⟩]:=by unfold lgG;rw [List.range_succ,List.map_append];rfl
theorem Zdr (k:Nat):lgS (k+1)=lgS k++[⟨(k:Int),(k:Int)%6,true⟩]:=by unfold lgS;rw [List.range_succ,List.map_append];rfl
theorem Zbg (k:Nat):(lgG k).length=k:=by simp [lgG]
theorem Zge (k:Nat):(lgS k).length=k:=by simp [lgS]
def lg3 (n i:Nat):Hse:=match i with | 0=>⟨(n:Int),[],[]⟩ | 1=>⟨3,lgG n,[]⟩ | _=>⟨6,Z4Q,(lgS n).take 9⟩
theorem Zds:∀ n<13,∀ i<3,decide ((lg3 n i).check=0)=[decide (0<n)&&decide (n<8),decide (n<11),decide (n<9)].getD i false:=by decide +kernel
theorem Zg4 {pl:List PL} {n:Nat} (h:(lls pl).flatten.length≤n):∀ x∈pl,x.l.length≤n:=fun x hx=>by
 obtain ⟨A,B,e⟩:=List.append_of_mem (show x.l∈lls pl from List.mem_map_of_mem hx)
 rw [e] at h
 simp only [List.flatten_append,List.flatten_cons,List.length_append] at h
 omega
theorem Zd8 (X:Nat) (gs:List Gp):(Z1C X gs).length≤gs.length:=by
 unfold Z1C
 rw [List.length_map]
 exact Nat.le_trans (List.length_filter_le _ _) (by rw [List.length_range];exact Nat.le_refl _)
theorem Zhb (h:Hse) (ag as_:Option Addr) (cg cs:Nat) (hlg:h.gaps.length≤9223372036854775807) (hls:h.sights.length≤9223372036854775807) (fr to_:List Int) (af at_:Option Addr) (cf ct:Nat) (hlf:fr.length≤1000000) (hlt:to_.length≤1000000) (hfc:fr.length≤cf) (htc:to_.length≤ct) (H:Zf) (R:Z6) [hG:MemRows ag 2 (Z7 h.gaps) R] [hS:MemRows as_ 3 (Z8 h.sights) R] [hF:MemRows af 1 (Z3 fr) R] [hT:MemRows at_ 1 (Z3 to_) R]:Fn Tryz.prog 7 [h.v (h.sg ag cg) (h.ss as_ cs),.slice af fr.length cf,.slice at_ to_.length ct] H R (fun v H' R'=>∃ (gl:List Int) (a:Option Addr) (c:Nat) (er:Int),gl.length≤h.gaps.length∧gl.length≤c∧v = .tuple #[.slice a gl.length c,.int .i64 er]∧H'=H∧R'=RowsA a 1 (Z3 gl)::R) :=
 Fn.weakH (Zfl h ag as_ cg cs hlg hls fr to_ af at_ cf ct hlf hlt hfc htc H R) fun v H' R' hq=>by
   obtain ⟨rfl,⟨h1,rfl,rfl⟩ | ⟨h1,f,V,a,c,h2,h3,h4,rfl,rfl⟩⟩:=hq
   · exact ⟨_,_,⟨[],none,0,_,Nat.zero_le _,Nat.le_refl _,rfl,rfl,rfl⟩,fun w h=>St.noR h⟩
   · exact ⟨_,_,⟨_,a,c,0,Zd8 _ _,h4,rfl,rfl,rfl⟩,fun w h=>h⟩
theorem Zfs (h:Hse) (ag as_:Option Addr) (cg cs:Nat) (hlg:h.gaps.length≤9223372036854775807) (hls:h.sights.length≤9223372036854775807) (fr to_:List Int) (af at_:Option Addr) (cf ct:Nat) (hlf:fr.length≤1000000) (hlt:to_.length≤1000000) (hfc:fr.length≤cf) (htc:to_.length≤ct) (H:Zf) (R:Z6) [hG:MemRows ag 2 (Z7 h.gaps) R] [hS:MemRows as_ 3 (Z8 h.sights) R] [hF:MemRows af 1 (Z3 fr) R] [hT:MemRows at_ 1 (Z3 to_) R]:Fn Tryz.prog 8 [h.v (h.sg ag cg) (h.ss as_ cs),.slice af fr.length cf,.slice at_ to_.length ct] H R (fun v H' R'=>∃ (pl:List PL) (o:OSl 22 1 (Zg pl)) (er:Int),pl.length≤10∧(∀ x∈pl,x.l.length≤h.gaps.length)∧v = .tuple #[o.fs,.int .i64 er]∧H'=o.G++H∧R'=Inn pl::R) :=
 Fn.weakH (Za9 h ag as_ cg cs hlg hls fr to_ af at_ cf ct hlf hlt hfc htc H R) fun v H' R' hq=>by
   rcases hq with ⟨h1,rfl,rfl,rfl⟩ | ⟨h1,pl,o,h2,h3,h4,rfl,rfl,rfl⟩
   · exact ⟨_,_,⟨[],OSl.nil _ _,_,Nat.zero_le _,by simp,rfl,rfl,rfl⟩,fun w h=>St.inn0 h⟩
   · exact ⟨_,_,⟨pl,o,0,h2,Zg4 (Z8K h3.rng h3.nd),rfl,rfl,rfl⟩,fun w h=>h⟩
theorem Zfo (h:Hse) (ag as_:Option Addr) (cg cs:Nat) (hlg:h.gaps.length≤9223372036854775807) (hls:h.sights.length≤9223372036854775807) (fr to_:List Int) (af at_:Option Addr) (cf ct:Nat) (hlf:fr.length≤1000000) (hlt:to_.length≤1000000) (hfc:fr.length≤cf) (htc:to_.length≤ct) (spd:Int) (H:Zf) (R:Z6) [hG:MemRows ag 2 (Z7 h.gaps) R] [hS:MemRows as_ 3 (Z8 h.sights) R] [hF:MemRows af 1 (Z3 fr) R] [hT:MemRows at_ 1 (Z3 to_) R]:Fn Tryz.prog 9 [h.v (h.sg ag cg) (h.ss as_ cs),.slice af fr.length cf,.slice at_ to_.length ct,.int .i64 spd] H R (fun v H' R'=>∃ (pl:List PL) (a:Option Addr) (c:Nat) (er:Int),pl.length≤8∧(∀ x∈pl,x.l.length≤10)∧v = .tuple #[.slice a pl.length c,.int .i64 er]∧H'=H∧R'=RowsA a 1 (Zg pl)::Inn pl::R) :=
 Fn.weakH (Z8c h ag as_ cg cs hlg hls fr to_ af at_ cf ct hlf hlt hfc htc spd H R) fun v H' R' hq=>by
   obtain ⟨rfl,⟨h1,rfl,rfl⟩ | ⟨h1,h2,rfl,rfl⟩ | ⟨h1,ls,pl,a,c,h2,h3,h4,h5,h6,h7,rfl,rfl⟩⟩:=hq
   · exact ⟨_,_,⟨[],none,0,_,Nat.zero_le _,by simp,rfl,rfl,rfl⟩,fun w h=>St.noR (St.inn0 h)⟩
   · exact ⟨_,_,⟨[],none,0,_,Nat.zero_le _,by simp,rfl,rfl,rfl⟩,fun w h=>St.noR (St.inn0 h)⟩
   · refine ⟨_,_,⟨pl,a,c,0,h3,fun x hx=>?_,rfl,rfl,rfl⟩,fun w h=>h⟩
     have h8:x.l∈lls pl:=List.mem_map_of_mem hx
     rw [h2] at h8
     obtain ⟨m,_,h9⟩:=List.mem_map.1 h8
     rw [← h9];exact Z22 m
set_option maxHeartbeats 4000000 in
theorem Z5J (H:Zf) (R:Z6) :
    Fn Tryz.prog 3 [] H R (fun v H' R'=>v = .bool true∧H'=H∧R'=R):=by
 refine Zl Tryz.func3 rfl Tryz.ntmps3 rfl ?_
 refine sqt 1 rfl (pur 1 rfl (sqt 17 rfl ?_))
 refine bsl (out:=[_,_,_,_,_]) rfl Z03 zl3 rfl rfl rfl rfl rfl rfl (fun b34=>?_)
 refine bsl (out:=[_,_,_,_,_]) rfl Z03 zl3 rfl rfl rfl rfl rfl rfl (fun b35=>?_)
 refine bsl (out:=[_,_,_,_]) rfl Z03 zl3 rfl rfl rfl rfl rfl rfl (fun b36=>?_)
 refine bsl (out:=[_,_,_,_]) rfl Z03 zl3 rfl rfl rfl rfl rfl rfl (fun b37=>?_)
 refine bsl (out:=[_,_,_,_]) rfl Z03 zl3 rfl rfl rfl rfl rfl rfl (fun b38=>?_)
 refine bsl (out:=[_,_,_,_,_]) rfl Z03 zl3 rfl rfl rfl rfl rfl rfl (fun b39=>?_)
 refine bsl (out:=[_,_,_,_,_]) rfl Z03 zl3 rfl rfl rfl rfl rfl rfl (fun b40=>?_)
 refine bsl (out:=[_,_,_,_,_]) rfl Z03 zl3 rfl rfl rfl rfl rfl rfl (fun b41=>?_)
 refine bsl (out:=[_,_,_,_,_]) rfl Z03 zl3 rfl rfl rfl rfl rfl rfl (fun b42=>?_)
 refine bsl (out:=[_,_,_,_]) rfl Z03 zl3 rfl rfl rfl rfl rfl rfl (fun b43=>?_)
 refine bsl (out:=[_,_,_,_]) rfl Z03 zl3 rfl rfl rfl rfl rfl rfl (fun b44=>?_)
 refine bsl (out:=[_,_,_,_]) rfl Z03 zl3 rfl rfl rfl rfl rfl rfl (fun b45=>?_)
 refine bsl (out:=[_,_,_,_]) rfl Z03 zl3 rfl rfl rfl rfl rfl rfl (fun b46=>?_)
 refine bsl (out:=[_,_,_,_,_]) rfl Z03 zl3 rfl rfl rfl rfl rfl rfl (fun b47=>?_)
 refine bsl (out:=[_,_,_,_,_,_]) rfl Z03 zl3 rfl rfl rfl rfl rfl rfl (fun b48=>?_)
 refine bsl (vs:=[(0,.slice (some ⟨b34,0,none⟩) 5 5),(1,.slice (some ⟨b35,0,none⟩) 5 5),(2,.slice (some ⟨b36,0,none⟩) 4 4),(3,.slice (some ⟨b37,0,none⟩) 4 4),(4,.slice (some ⟨b38,0,none⟩) 4 4),(5,.slice (some ⟨b39,0,none⟩) 5 5),(6,.slice (some ⟨b40,0,none⟩) 5 5),(7,.slice (some ⟨b41,0,none⟩) 5 5),(8,.slice (some ⟨b42,0,none⟩) 5 5),(9,.slice (some ⟨b43,0,none⟩) 4 4),(10,.slice (some ⟨b44,0,none⟩) 4 4),(11,.slice (some ⟨b45,0,none⟩) 4 4),(12,.slice (some ⟨b46,0,none⟩) 4 4),(13,.slice (some ⟨b47,0,none⟩) 5 5),(14,.slice (some ⟨b48,0,none⟩) 6 6)]) (out:=[.slice (some ⟨b34,0,none⟩) 5 5,.slice (some ⟨b35,0,none⟩) 5 5,.slice (some ⟨b36,0,none⟩) 4 4,.slice (some ⟨b37,0,none⟩) 4 4,.slice (some ⟨b38,0,none⟩) 4 4,.slice (some ⟨b39,0,none⟩) 5 5,.slice (some ⟨b40,0,none⟩) 5 5,.slice (some ⟨b41,0,none⟩) 5 5,.slice (some ⟨b42,0,none⟩) 5 5,.slice (some ⟨b43,0,none⟩) 4 4,.slice (some ⟨b44,0,none⟩) 4 4,.slice (some ⟨b45,0,none⟩) 4 4,.slice (some ⟨b46,0,none⟩) 4 4,.slice (some ⟨b47,0,none⟩) 5 5,.slice (some ⟨b48,0,none⟩) 6 6]) rfl Z7T Z5c rfl rfl rfl rfl (by kernel_rfl) rfl (fun b49=>?_)
 refine pur 1 rfl (Z0 (sqt 3 rfl ?_))
 refine Sy.heap (fun w h=>St.inn0 h) ?_
 refine Sy.heap (fun w h=>St.innCons (a:=some ⟨b48,0,none⟩) (c:=6) (l0:=[-1,0,1,2,10,11]) (l:=[]) (St.intRows (l:=[-1,0,1,2,10,11]) (h.pull b48))) ?_
 refine Sy.heap (fun w h=>St.innCons (a:=some ⟨b47,0,none⟩) (c:=5) (l0:=[-1,0,1,9,10]) (l:=[⟨some ⟨b48,0,none⟩,6,[-1,0,1,2,10,11]⟩]) (St.intRows (l:=[-1,0,1,9,10]) (h.pull b47))) ?_
 refine Sy.heap (fun w h=>St.innCons (a:=some ⟨b46,0,none⟩) (c:=4) (l0:=[-1,0,6,7]) (l:=[⟨some ⟨b47,0,none⟩,5,[-1,0,1,9,10]⟩,⟨some ⟨b48,0,none⟩,6,[-1,0,1,2,10,11]⟩]) (St.intRows (l:=[-1,0,6,7]) (h.pull b46))) ?_
 refine Sy.heap (fun w h=>St.innCons (a:=some ⟨b45,0,none⟩) (c:=4) (l0:=[-1,0,5,6]) (l:=[⟨some ⟨b46,0,none⟩,4,[-1,0,6,7]⟩,⟨some ⟨b47,0,none⟩,5,[-1,0,1,9,10]⟩,⟨some ⟨b48,0,none⟩,6,[-1,0,1,2,10,11]⟩]) (St.intRows (l:=[-1,0,5,6]) (h.pull b45))) ?_
 refine Sy.heap (fun w h=>St.innCons (a:=some ⟨b44,0,none⟩) (c:=4) (l0:=[-1,0,9,10]) (l:=[⟨some ⟨b45,0,none⟩,4,[-1,0,5,6]⟩,⟨some ⟨b46,0,none⟩,4,[-1,0,6,7]⟩,⟨some ⟨b47,0,none⟩,5,[-1,0,1,9,10]⟩,⟨some ⟨b48,0,none⟩,6,[-1,0,1,2,10,11]⟩]) (St.intRows (l:=[-1,0,9,10]) (h.pull b44))) ?_
 refine Sy.heap (fun w h=>St.innCons (a:=some ⟨b43,0,none⟩) (c:=4) (l0:=[-1,0,2,7]) (l:=[⟨some ⟨b44,0,none⟩,4,[-1,0,9,10]⟩,⟨some ⟨b45,0,none⟩,4,[-1,0,5,6]⟩,⟨some ⟨b46,0,none⟩,4,[-1,0,6,7]⟩,⟨some ⟨b47,0,none⟩,5,[-1,0,1,9,10]⟩,⟨some ⟨b48,0,none⟩,6,[-1,0,1,2,10,11]⟩]) (St.intRows (l:=[-1,0,2,7]) (h.pull b43))) ?_
 refine Sy.heap (fun w h=>St.innCons (a:=some ⟨b42,0,none⟩) (c:=5) (l0:=[-1,0,5,6,7]) (l:=[⟨some ⟨b43,0,none⟩,4,[-1,0,2,7]⟩,⟨some ⟨b44,0,none⟩,4,[-1,0,9,10]⟩,⟨some ⟨b45,0,none⟩,4,[-1,0,5,6]⟩,⟨some ⟨b46,0,none⟩,4,[-1,0,6,7]⟩,⟨some ⟨b47,0,none⟩,5,[-1,0,1,9,10]⟩,⟨some ⟨b48,0,none⟩,6,[-1,0,1,2,10,11]⟩]) (St.intRows (l:=[-1,0,5,6,7]) (h.pull b42))) ?_
 refine Sy.heap (fun w h=>St.innCons (a:=some ⟨b41,0,none⟩) (c:=5) (l0:=[-1,0,1,6,7]) (l:=[⟨some ⟨b42,0,none⟩,5,[-1,0,5,6,7]⟩,⟨some ⟨b43,0,none⟩,4,[-1,0,2,7]⟩,⟨some ⟨b44,0,none⟩,4,[-1,0,9,10]⟩,⟨some ⟨b45,0,none⟩,4,[-1,0,5,6]⟩,⟨some ⟨b46,0,none⟩,4,[-1,0,6,7]⟩,⟨some ⟨b47,0,none⟩,5,[-1,0,1,9,10]⟩,⟨some ⟨b48,0,none⟩,6,[-1,0,1,2,10,11]⟩]) (St.intRows (l:=[-1,0,1,6,7]) (h.pull b41))) ?_
 refine Sy.heap (fun w h=>St.innCons (a:=some ⟨b40,0,none⟩) (c:=5) (l0:=[-1,0,1,5,6]) (l:=[⟨some ⟨b41,0,none⟩,5,[-1,0,1,6,7]⟩,⟨some ⟨b42,0,none⟩,5,[-1,0,5,6,7]⟩,⟨some ⟨b43,0,none⟩,4,[-1,0,2,7]⟩,⟨some ⟨b44,0,none⟩,4,[-1,0,9,10]⟩,⟨some ⟨b45,0,none⟩,4,[-1,0,5,6]⟩,⟨some ⟨b46,0,none⟩,4,[-1,0,6,7]⟩,⟨some ⟨b47,0,none⟩,5,[-1,0,1,9,10]⟩,⟨some ⟨b48,0,none⟩,6,[-1,0,1,2,10,11]⟩]) (St.intRows (l:=[-1,0,1,5,6]) (h.pull b40))) ?_
 refine Sy.heap (fun w h=>St.innCons (a:=some ⟨b39,0,none⟩) (c:=5) (l0:=[-1,0,3,5,6]) (l:=[⟨some ⟨b40,0,none⟩,5,[-1,0,1,5,6]⟩,⟨some ⟨b41,0,none⟩,5,[-1,0,1,6,7]⟩,⟨some ⟨b42,0,none⟩,5,[-1,0,5,6,7]⟩,⟨some ⟨b43,0,none⟩,4,[-1,0,2,7]⟩,⟨some ⟨b44,0,none⟩,4,[-1,0,9,10]⟩,⟨some ⟨b45,0,none⟩,4,[-1,0,5,6]⟩,⟨some ⟨b46,0,none⟩,4,[-1,0,6,7]⟩,⟨some ⟨b47,0,none⟩,5,[-1,0,1,9,10]⟩,⟨some ⟨b48,0,none⟩,6,[-1,0,1,2,10,11]⟩]) (St.intRows (l:=[-1,0,3,5,6]) (h.pull b39))) ?_
 refine Sy.heap (fun w h=>St.innCons (a:=some ⟨b38,0,none⟩) (c:=4) (l0:=[-1,0,5,6]) (l:=[⟨some ⟨b39,0,none⟩,5,[-1,0,3,5,6]⟩,⟨some ⟨b40,0,none⟩,5,[-1,0,1,5,6]⟩,⟨some ⟨b41,0,none⟩,5,[-1,0,1,6,7]⟩,⟨some ⟨b42,0,none⟩,5,[-1,0,5,6,7]⟩,⟨some ⟨b43,0,none⟩,4,[-1,0,2,7]⟩,⟨some ⟨b44,0,none⟩,4,[-1,0,9,10]⟩,⟨some ⟨b45,0,none⟩,4,[-1,0,5,6]⟩,⟨some ⟨b46,0,none⟩,4,[-1,0,6,7]⟩,⟨some ⟨b47,0,none⟩,5,[-1,0,1,9,10]⟩,⟨some ⟨b48,0,none⟩,6,[-1,0,1,2,10,11]⟩]) (St.intRows (l:=[-1,0,5,6]) (h.pull b38))) ?_
 refine Sy.heap (fun w h=>St.innCons (a:=some ⟨b37,0,none⟩) (c:=4) (l0:=[-1,0,9,10]) (l:=[⟨some ⟨b38,0,none⟩,4,[-1,0,5,6]⟩,⟨some ⟨b39,0,none⟩,5,[-1,0,3,5,6]⟩,⟨some ⟨b40,0,none⟩,5,[-1,0,1,5,6]⟩,⟨some ⟨b41,0,none⟩,5,[-1,0,1,6,7]⟩,⟨some ⟨b42,0,none⟩,5,[-1,0,5,6,7]⟩,⟨some ⟨b43,0,none⟩,4,[-1,0,2,7]⟩,⟨some ⟨b44,0,none⟩,4,[-1,0,9,10]⟩,⟨some ⟨b45,0,none⟩,4,[-1,0,5,6]⟩,⟨some ⟨b46,0,none⟩,4,[-1,0,6,7]⟩,⟨some ⟨b47,0,none⟩,5,[-1,0,1,9,10]⟩,⟨some ⟨b48,0,none⟩,6,[-1,0,1,2,10,11]⟩]) (St.intRows (l:=[-1,0,9,10]) (h.pull b37))) ?_
 refine Sy.heap (fun w h=>St.innCons (a:=some ⟨b36,0,none⟩) (c:=4) (l0:=[-1,0,4,6]) (l:=[⟨some ⟨b37,0,none⟩,4,[-1,0,9,10]⟩,⟨some ⟨b38,0,none⟩,4,[-1,0,5,6]⟩,⟨some ⟨b39,0,none⟩,5,[-1,0,3,5,6]⟩,⟨some ⟨b40,0,none⟩,5,[-1,0,1,5,6]⟩,⟨some ⟨b41,0,none⟩,5,[-1,0,1,6,7]⟩,⟨some ⟨b42,0,none⟩,5,[-1,0,5,6,7]⟩,⟨some ⟨b43,0,none⟩,4,[-1,0,2,7]⟩,⟨some ⟨b44,0,none⟩,4,[-1,0,9,10]⟩,⟨some ⟨b45,0,none⟩,4,[-1,0,5,6]⟩,⟨some ⟨b46,0,none⟩,4,[-1,0,6,7]⟩,⟨some ⟨b47,0,none⟩,5,[-1,0,1,9,10]⟩,⟨some ⟨b48,0,none⟩,6,[-1,0,1,2,10,11]⟩]) (St.intRows (l:=[-1,0,4,6]) (h.pull b36))) ?_
 refine Sy.heap (fun w h=>St.innCons (a:=some ⟨b35,0,none⟩) (c:=5) (l0:=[-1,0,2,5,6]) (l:=[⟨some ⟨b36,0,none⟩,4,[-1,0,4,6]⟩,⟨some ⟨b37,0,none⟩,4,[-1,0,9,10]⟩,⟨some ⟨b38,0,none⟩,4,[-1,0,5,6]⟩,⟨some ⟨b39,0,none⟩,5,[-1,0,3,5,6]⟩,⟨some ⟨b40,0,none⟩,5,[-1,0,1,5,6]⟩,⟨some ⟨b41,0,none⟩,5,[-1,0,1,6,7]⟩,⟨some ⟨b42,0,none⟩,5,[-1,0,5,6,7]⟩,⟨some ⟨b43,0,none⟩,4,[-1,0,2,7]⟩,⟨some ⟨b44,0,none⟩,4,[-1,0,9,10]⟩,⟨some ⟨b45,0,none⟩,4,[-1,0,5,6]⟩,⟨some ⟨b46,0,none⟩,4,[-1,0,6,7]⟩,⟨some ⟨b47,0,none⟩,5,[-1,0,1,9,10]⟩,⟨some ⟨b48,0,none⟩,6,[-1,0,1,2,10,11]⟩]) (St.intRows (l:=[-1,0,2,5,6]) (h.pull b35))) ?_
 refine Sy.heap (fun w h=>St.innCons (a:=some ⟨b34,0,none⟩) (c:=5) (l0:=[0,1,5,7,8]) (l:=[⟨some ⟨b35,0,none⟩,5,[-1,0,2,5,6]⟩,⟨some ⟨b36,0,none⟩,4,[-1,0,4,6]⟩,⟨some ⟨b37,0,none⟩,4,[-1,0,9,10]⟩,⟨some ⟨b38,0,none⟩,4,[-1,0,5,6]⟩,⟨some ⟨b39,0,none⟩,5,[-1,0,3,5,6]⟩,⟨some ⟨b40,0,none⟩,5,[-1,0,1,5,6]⟩,⟨some ⟨b41,0,none⟩,5,[-1,0,1,6,7]⟩,⟨some ⟨b42,0,none⟩,5,[-1,0,5,6,7]⟩,⟨some ⟨b43,0,none⟩,4,[-1,0,2,7]⟩,⟨some ⟨b44,0,none⟩,4,[-1,0,9,10]⟩,⟨some ⟨b45,0,none⟩,4,[-1,0,5,6]⟩,⟨some ⟨b46,0,none⟩,4,[-1,0,6,7]⟩,⟨some ⟨b47,0,none⟩,5,[-1,0,1,9,10]⟩,⟨some ⟨b48,0,none⟩,6,[-1,0,1,2,10,11]⟩]) (St.intRows (l:=[0,1,5,7,8]) (h.pull b34))) ?_
 refine Sy.heap (fun w h=>St.rows (sz:=1) (rows:=Zg ([⟨some ⟨b34,0,none⟩,5,[0,1,5,7,8]⟩,⟨some ⟨b35,0,none⟩,5,[-1,0,2,5,6]⟩,⟨some ⟨b36,0,none⟩,4,[-1,0,4,6]⟩,⟨some ⟨b37,0,none⟩,4,[-1,0,9,10]⟩,⟨some ⟨b38,0,none⟩,4,[-1,0,5,6]⟩,⟨some ⟨b39,0,none⟩,5,[-1,0,3,5,6]⟩,⟨some ⟨b40,0,none⟩,5,[-1,0,1,5,6]⟩,⟨some ⟨b41,0,none⟩,5,[-1,0,1,6,7]⟩,⟨some ⟨b42,0,none⟩,5,[-1,0,5,6,7]⟩,⟨some ⟨b43,0,none⟩,4,[-1,0,2,7]⟩,⟨some ⟨b44,0,none⟩,4,[-1,0,9,10]⟩,⟨some ⟨b45,0,none⟩,4,[-1,0,5,6]⟩,⟨some ⟨b46,0,none⟩,4,[-1,0,6,7]⟩,⟨some ⟨b47,0,none⟩,5,[-1,0,1,9,10]⟩,⟨some ⟨b48,0,none⟩,6,[-1,0,1,2,10,11]⟩]:List PL)) (rest:=[]) (h.pull b49) (Z2n ([⟨some ⟨b34,0,none⟩,5,[0,1,5,7,8]⟩,⟨some ⟨b35,0,none⟩,5,[-1,0,2,5,6]⟩,⟨some ⟨b36,0,none⟩,4,[-1,0,4,6]⟩,⟨some ⟨b37,0,none⟩,4,[-1,0,9,10]⟩,⟨some ⟨b38,0,none⟩,4,[-1,0,5,6]⟩,⟨some ⟨b39,0,none⟩,5,[-1,0,3,5,6]⟩,⟨some ⟨b40,0,none⟩,5,[-1,0,1,5,6]⟩,⟨some ⟨b41,0,none⟩,5,[-1,0,1,6,7]⟩,⟨some ⟨b42,0,none⟩,5,[-1,0,5,6,7]⟩,⟨some ⟨b43,0,none⟩,4,[-1,0,2,7]⟩,⟨some ⟨b44,0,none⟩,4,[-1,0,9,10]⟩,⟨some ⟨b45,0,none⟩,4,[-1,0,5,6]⟩,⟨some ⟨b46,0,none⟩,4,[-1,0,6,7]⟩,⟨some ⟨b47,0,none⟩,5,[-1,0,1,9,10]⟩,⟨some ⟨b48,0,none⟩,6,[-1,0,1,2,10,11]⟩]:List PL))) ?_
 obtain ⟨ls,hls⟩:∃ ls,([⟨some ⟨b34,0,none⟩,5,[0,1,5,7,8]⟩,⟨some ⟨b35,0,none⟩,5,[-1,0,2,5,6]⟩,⟨some ⟨b36,0,none⟩,4,[-1,0,4,6]⟩,⟨some ⟨b37,0,none⟩,4,[-1,0,9,10]⟩,⟨some ⟨b38,0,none⟩,4,[-1,0,5,6]⟩,⟨some ⟨b39,0,none⟩,5,[-1,0,3,5,6]⟩,⟨some ⟨b40,0,none⟩,5,[-1,0,1,5,6]⟩,⟨some ⟨b41,0,none⟩,5,[-1,0,1,6,7]⟩,⟨some ⟨b42,0,none⟩,5,[-1,0,5,6,7]⟩,⟨some ⟨b43,0,none⟩,4,[-1,0,2,7]⟩,⟨some ⟨b44,0,none⟩,4,[-1,0,9,10]⟩,⟨some ⟨b45,0,none⟩,4,[-1,0,5,6]⟩,⟨some ⟨b46,0,none⟩,4,[-1,0,6,7]⟩,⟨some ⟨b47,0,none⟩,5,[-1,0,1,9,10]⟩,⟨some ⟨b48,0,none⟩,6,[-1,0,1,2,10,11]⟩]:List PL)=ls:=⟨_,rfl⟩
 have hll:lls ls=lmL:=by subst hls;rfl
 rw [hls]
 clear hls
 refine pur 1 rfl (sp rfl (PE.lenSl Z0J rfl) rfl (pur 1 rfl (Z4 ?_)))
 refine Ze (ι:={i:Nat // i≤15}) (fun y=>⟨[(50,.slice (some ⟨b49,0,none⟩) 15 15),(51,.int .i64 15),(52,.int .i64 y.1)],H,RowsA (some ⟨b49,0,none⟩) 1 (Zg ls)::Inn ls::R⟩) (fun y=>15-y.1) ⟨0,Nat.zero_le _⟩ ?_ (fun y=>?_)
 exact Zi (fun w h=>h.facts SubF.sub)
 obtain ⟨i,hi⟩:=y
 dsimp only at hi ⊢
 have hln:ls.length=15:=by have:=congrArg List.length hll;rw [Z04] at this;exact this
 refine sqt 1 rfl (pur 1 rfl (Z0 ?_))
 refine Z1 rfl ?_ ?_<;>intro hc0<;>try simp only [cS] at hc0
 obtain ⟨x,hx⟩:∃ x,ls[i]?=some x:=⟨_,List.getElem?_eq_getElem (by omega)⟩
 have hxm:=List.mem_of_getElem? hx
 have hxl:=Ziz x.l (hll▸List.mem_map.2 ⟨x,hxm,rfl⟩)
 refine Sy.heap (fun w h=>St.inn (x:=x) h hxm) ?_
 refine Z2 (Z0 (Z4 (sqt 5 rfl (pur 1 rfl (sp rfl (PE.indexAddr Z4A rfl rfl (by omega) (by omega)) rfl (spL rfl rfl (lf0 Z1t (Z0M hx) rfl) rfl (pur 2 rfl (sqt 5 rfl ?_))))))))
 refine bsl (out:=[_,_]) rfl Z03 zl3 rfl rfl rfl rfl rfl rfl (fun b57=>?_)
 refine pur 1 rfl ?_
 obtain ⟨o,ho,hG⟩:∃ o:OSl 3 1 (Z3 [9223372036854775807,-9223372036854775808]),o.fs = .slice (some ⟨b57,0,none⟩) 2 2∧o.G=[(b57,cel 3 (Zw [9223372036854775807,-9223372036854775808]))]:=⟨⟨_,_,by simp,.inr ⟨b57,2,[],rfl,rfl,rfl,Nat.le_refl _,by decide⟩⟩,rfl,rfl⟩
 rw [← ho]
 refine Sy.heap (H':=o.G++H) (fun w h=>by rw [hG];exact h) ?_
 refine apO o rfl Z1v rfl rfl (Z2o (a:=x.a) (sz:=1) (rows:=Z3 x.l)) (irl x.l) (by simp [ZO];intros;rfl) (by simp only [irl,List.length_cons,List.length_nil];omega) rfl (fun o59=>?_)
 obtain ⟨a59,c59,he,hf⟩:=(o59.cast (by simp):OSl 3 1 (Z3 ([9223372036854775807,-9223372036854775808]++x.l))).freeze
 rw [show o59.fs=_ from he,irl]
 refine Sy.heap (fun w h=>hf h) ?_
 clear he hf
 have hlv:([9223372036854775807,-9223372036854775808]++x.l).length=x.l.length+2:=by simp
 refine Zh (a:=a59) (sz:=1) (rows:=Z3 ([9223372036854775807,-9223372036854775808]++x.l)) (by intro h0;have:=congrArg List.length h0;rw [irl] at this;simp at this) (fun bv ov he=>?_)
 subst he
 refine sp rfl (PE.lenSl Zy rfl) rfl (pur 1 rfl (Z4 ?_))
 refine Ze (ι:={k:Nat // k≤([9223372036854775807,-9223372036854775808]++x.l).length}) (fun y=>⟨[(50,.slice (some ⟨b49,0,none⟩) 15 15),(51,.int .i64 15),(52,.int .i64 i),(2,.int .i64 i),(59,.slice (some ⟨bv,ov,none⟩) ([9223372036854775807,-9223372036854775808]++x.l).length c59),(60,.int .i64 ([9223372036854775807,-9223372036854775808]++x.l).length),(61,.int .i64 y.1)],H,RowsA (some ⟨bv,ov,none⟩) 1 (Z3 ([9223372036854775807,-9223372036854775808]++x.l))::RowsA (some ⟨b49,0,none⟩) 1 (Zg ls)::Inn ls::R⟩) (fun y=>([9223372036854775807,-9223372036854775808]++x.l).length-y.1) ⟨0,Nat.zero_le _⟩ ?_ (fun y=>?_)
 exact Zi (fun w h=>h.facts SubF.sub)
 obtain ⟨k,hk⟩:=y
 dsimp only at hk ⊢
 refine sqt 1 rfl (pur 1 rfl (Z0 ?_))
 refine Z1 rfl ?_ ?_<;>intro hc1<;>try simp only [cS] at hc1
 obtain ⟨v,hv⟩:∃ v,([9223372036854775807,-9223372036854775808]++x.l)[k]?=some v:=⟨_,List.getElem?_eq_getElem (by omega)⟩
 refine Z2 (Z0 (Z4 (sqt 3 rfl (sp rfl (PE.indexAddr Z0c rfl rfl (by omega) (by omega)) rfl (spL rfl rfl (lf0 sc3 (ZB hv) rfl) rfl (pur 1 rfl (sqt 20 rfl (pur 1 rfl (sp rfl (PE.rem rfl rfl (by omega)) rfl (sp rfl (PE.add rfl rfl (by omega)) rfl ?_))))))))))
 obtain ⟨k6,hk6,hk7⟩:∃ k6:Nat,(2:Int)+(i:Int)%2=k6∧(k6=2∨k6=3):=⟨2+i%2,by omega,by omega⟩
 rw [hk6]
 refine cl rfl Zcp rfl rfl (Za7 k6 (by omega) _ _) ?_
 rintro _ _ _ ⟨bgp,bs,rfl,rfl,rfl⟩
 obtain ⟨ys,junk,hys,rfl,hsx,hst⟩:∃ (ys:List Sgt) (junk:List Value),ys.length≤1∧k6=ys.length+2∧(Z8 sixS).flatten=(.int .i64 2::.int .i64 3::.bool true::.int .i64 1::.int .i64 1::.bool false::((Z8 ys).flatten++junk))∧sixS.take k6=⟨2,3,true⟩::⟨1,1,false⟩::ys:=by
   rcases hk7 with rfl | rfl
   · exact ⟨[],_,by decide,rfl,rfl,rfl⟩
   · exact ⟨[⟨2,4,false⟩],[],by decide,rfl,rfl,rfl⟩
 rw [hsx]
 refine bsl (out:=[_,_]) rfl Z03 zl3 rfl rfl rfl rfl rfl rfl (fun b69=>?_)
 refine bsl (out:=[_]) rfl Z03 zl3 rfl rfl rfl rfl rfl rfl (fun b70=>?_)
 refine bsl (out:=[_,_]) rfl Z03 zl3 rfl rfl rfl rfl rfl rfl (fun b71=>?_)
 refine bsl (out:=[_,_]) rfl Z03 zl3 rfl rfl rfl rfl rfl rfl (fun b72=>?_)
 refine bsl (out:=[_,_]) rfl Z03 zl3 rfl rfl rfl rfl rfl rfl (fun b73=>?_)
 refine bsl (out:=[_,_]) rfl Z7T Z5c rfl rfl rfl rfl rfl rfl (fun b74=>?_)
 refine bsl (out:=[_,_]) rfl Z03 zl3 rfl rfl rfl rfl rfl rfl (fun b75=>?_)
 refine bsl (out:=[_]) rfl Z03 zl3 rfl rfl rfl rfl rfl rfl (fun b76=>?_)
 refine bsl (out:=[_,_]) rfl Z7T Z5c rfl rfl rfl rfl rfl rfl (fun b77=>?_)
 refine alc rfl Z0V rfl (fun b6=>?_)
 refine ZG (l':=[.int .i64 6,.slice (some ⟨bgp,0,none⟩) 7 7,.slice (some ⟨bs,0,none⟩) (ys.length+2) 3]) rfl rfl rfl Z1i rfl rfl rfl rfl (nl rfl) ?_
 refine pur 5 rfl (sqt 6 rfl (sp rfl (PE.build (out:=[_,_,_]) ZdL Z41 rfl rfl) rfl (sp rfl (PE.buildArr (out:=[_,_,_]) Z9X Zj3 rfl rfl) rfl (alc rfl Z41 rfl (fun b12=>alc rfl Zj3 rfl (fun b13=>?_))))))
 refine sto rfl rfl rfl ZjZ rfl rfl rfl rfl ?_
 refine sto rfl rfl rfl ZkE rfl rfl rfl rfl ?_
 refine Z0 ?_
 refine Z78 (ι:=Sm15) (fun y=>⟨[(50,.slice (some ⟨b49,0,none⟩) 15 15),(51,.int .i64 15),(52,.int .i64 i),(2,.int .i64 i),(59,.slice (some ⟨bv,ov,none⟩) ([9223372036854775807,-9223372036854775808]++x.l).length c59),(60,.int .i64 ([9223372036854775807,-9223372036854775808]++x.l).length),(61,.int .i64 k),(5,.int .i64 v),(6,.pointer (some ⟨b6,0,none⟩)),(7,.slice (some ⟨b69,0,none⟩) 2 2),(8,.slice (some ⟨b70,0,none⟩) 1 1),(9,.slice (some ⟨b71,0,none⟩) 2 2),(10,.slice (some ⟨b74,0,none⟩) 2 2),(11,.slice (some ⟨b77,0,none⟩) 2 2),(12,.pointer (some ⟨b12,0,none⟩)),(13,.pointer (some ⟨b13,0,none⟩))],(b13,cel 31 [.int .i64 (y.f12),.int .i64 (y.f13),.int .i64 (y.f14)])::(b12,cel 30 [.int .i64 (y.f10),.int .i64 (y.f11),.bool true])::(b6,cel 27 [.int .i64 (y.f0),.slice (some ⟨bgp,0,none⟩) 7 7,.slice (some ⟨bs,0,none⟩) (ys.length+2) 3])::(b77,cel 22 [.slice (some ⟨b75,0,none⟩) 2 2,.slice (some ⟨b76,0,none⟩) 1 1])::(b76,cel 3 [.int .i64 (y.f9)])::(b75,cel 3 [.int .i64 2,.int .i64 4])::(b74,cel 22 [.slice (some ⟨b72,0,none⟩) 2 2,.slice (some ⟨b73,0,none⟩) 2 2])::(b73,cel 3 [.int .i64 (y.f8),.int .i64 3])::(b72,cel 3 [.int .i64 0,.int .i64 2])::(b71,cel 3 [.int .i64 2,.int .i64 (y.f7)])::(b70,cel 3 [.int .i64 (y.f6)])::(b69,cel 3 [.int .i64 (y.f5),.int .i64 4])::(bgp,cel 34 [.int .i64 0,.int .i64 1,.int .i64 (y.f1),.int .i64 2,.int .i64 1,.int .i64 3,.int .i64 2,.int .i64 3,.int .i64 3,.int .i64 4,.int .i64 4,.int .i64 5,.int .i64 1,.int .i64 (y.f2)])::(bs,cel 30 (.int .i64 (y.f3)::.int .i64 3::.bool true::.int .i64 1::.int .i64 (y.f4)::.bool false::((Z8 ys).flatten++junk)))::H,RowsA (some ⟨bv,ov,none⟩) 1 (Z3 ([9223372036854775807,-9223372036854775808]++x.l))::RowsA (some ⟨b49,0,none⟩) 1 (Zg ls)::Inn ls::R⟩) ?_ ?_
 refine Zo [0,0,2,6,14,0,32,96,224,0,512,1536,3584,0,8192,24576,57344,0,131072,0,524288,0,2097152,0,8388608,25165824,58720256,0,134217728,402653184,939524096,0,0,0,0,0,68719476735,0,274877906943,549755813887,0,2199023255551,4398046511103] (.tk 0 (.tk 1 (.ld 2 (tks 3 3 (.ld 6 (tks 7 3 (.ld 10 (tks 11 3 (.ld 14 (tks 15 10 (.ld 25 (tks 26 3 (.ld 29 (tks 30 6 (.tk 37 (.tk 40 (.big 36 (.tk 38 (.ld 39 (.tk 41 (.big 42 .done))))))))))))))))))))) ZF (by kernel_rfl) ?_
 refine Sy.heap (H':=(b13,cel 31 [.int .i64 ((⟨6,0,2,2,1,0,3,3,1,3,3,5,6,1,2⟩:Sm15).f12),.int .i64 ((⟨6,0,2,2,1,0,3,3,1,3,3,5,6,1,2⟩:Sm15).f13),.int .i64 ((⟨6,0,2,2,1,0,3,3,1,3,3,5,6,1,2⟩:Sm15).f14)])::(b12,cel 30 [.int .i64 ((⟨6,0,2,2,1,0,3,3,1,3,3,5,6,1,2⟩:Sm15).f10),.int .i64 ((⟨6,0,2,2,1,0,3,3,1,3,3,5,6,1,2⟩:Sm15).f11),.bool true])::(b6,cel 27 [.int .i64 ((⟨6,0,2,2,1,0,3,3,1,3,3,5,6,1,2⟩:Sm15).f0),.slice (some ⟨bgp,0,none⟩) 7 7,.slice (some ⟨bs,0,none⟩) (ys.length+2) 3])::(b77,cel 22 [.slice (some ⟨b75,0,none⟩) 2 2,.slice (some ⟨b76,0,none⟩) 1 1])::(b76,cel 3 [.int .i64 ((⟨6,0,2,2,1,0,3,3,1,3,3,5,6,1,2⟩:Sm15).f9)])::(b75,cel 3 [.int .i64 2,.int .i64 4])::(b74,cel 22 [.slice (some ⟨b72,0,none⟩) 2 2,.slice (some ⟨b73,0,none⟩) 2 2])::(b73,cel 3 [.int .i64 ((⟨6,0,2,2,1,0,3,3,1,3,3,5,6,1,2⟩:Sm15).f8),.int .i64 3])::(b72,cel 3 [.int .i64 0,.int .i64 2])::(b71,cel 3 [.int .i64 2,.int .i64 ((⟨6,0,2,2,1,0,3,3,1,3,3,5,6,1,2⟩:Sm15).f7)])::(b70,cel 3 [.int .i64 ((⟨6,0,2,2,1,0,3,3,1,3,3,5,6,1,2⟩:Sm15).f6)])::(b69,cel 3 [.int .i64 ((⟨6,0,2,2,1,0,3,3,1,3,3,5,6,1,2⟩:Sm15).f5),.int .i64 4])::(bgp,cel 34 [.int .i64 0,.int .i64 1,.int .i64 ((⟨6,0,2,2,1,0,3,3,1,3,3,5,6,1,2⟩:Sm15).f1),.int .i64 2,.int .i64 1,.int .i64 3,.int .i64 2,.int .i64 3,.int .i64 3,.int .i64 4,.int .i64 4,.int .i64 5,.int .i64 1,.int .i64 ((⟨6,0,2,2,1,0,3,3,1,3,3,5,6,1,2⟩:Sm15).f2)])::(bs,cel 30 (.int .i64 ((⟨6,0,2,2,1,0,3,3,1,3,3,5,6,1,2⟩:Sm15).f3)::.int .i64 3::.bool true::.int .i64 1::.int .i64 ((⟨6,0,2,2,1,0,3,3,1,3,3,5,6,1,2⟩:Sm15).f4)::.bool false::((Z8 ys).flatten++junk)))::H) (R':=RowsA (some ⟨bv,ov,none⟩) 1 (Z3 ([9223372036854775807,-9223372036854775808]++x.l))::RowsA (some ⟨b49,0,none⟩) 1 (Zg ls)::Inn ls::R) idH ?_
 refine tk rfl (PE.fA Z0h rfl) rfl (tk rfl (PE.fA ZT rfl) rfl (ld rfl rfl (lh Z2g rfl rfl) rfl (tk rfl (PE.indexAddr Z8r rfl rfl (by decide) (by decide)) rfl (tk rfl (PE.fA Z15 rfl) rfl (tk rfl (PE.fA ZT rfl) rfl (ld rfl rfl (lh Z2g rfl rfl) rfl (tk rfl (PE.indexAddr Z8r rfl rfl (by decide) (by decide)) rfl (tk rfl (PE.fA Z0K rfl) rfl (tk rfl (PE.fA ZN rfl) rfl (ld rfl rfl (lh Z1L rfl rfl) rfl (tk rfl (PE.indexAddr Zdb rfl rfl (by decide) (by show (0:Int)<((ys.length+2:Nat):Int);omega)) rfl (tk rfl (PE.fA Z6N rfl) rfl (tk rfl (PE.fA ZN rfl) rfl (ld rfl rfl (lh Z1L rfl rfl) rfl (tk rfl (PE.indexAddr Zdb rfl rfl (by decide) (by show (1:Int)<((ys.length+2:Nat):Int);omega)) rfl ?_)))))))))))))))
 refine tk rfl (PE.fA Z6O rfl) rfl (Zu 1 rfl (tk rfl (PE.indexAddr Z0c rfl rfl (by decide) (by decide)) rfl (Zu 1 rfl (tk rfl (PE.indexAddr Z0c rfl rfl (by decide) (by decide)) rfl (Zu 1 rfl (tk rfl (PE.indexAddr Z0c rfl rfl (by decide) (by decide)) rfl (Zu 1 rfl (tk rfl (PE.indexAddr Z4A rfl rfl (by decide) (by decide)) rfl (ld rfl rfl (lh Z1t rfl rfl) rfl (tk rfl (PE.indexAddr Z0c rfl rfl (by decide) (by decide)) rfl (Zu 1 rfl (tk rfl (PE.indexAddr Z4A rfl rfl (by decide) (by decide)) rfl (ld rfl rfl (lh Z1t rfl rfl) rfl (tk rfl (PE.indexAddr Z0c rfl rfl (by decide) (by decide)) rfl (tk rfl (PE.fA Z6N rfl) rfl ?_)))))))))))))))
 refine tk rfl (PE.fA Z6O rfl) rfl (tk rfl (PE.indexArr Z9X rfl rfl (by decide) (by decide)) rfl (tk rfl (PE.indexArr Z9X rfl rfl (by decide) (by decide)) rfl (tk rfl (PE.indexArr Z9X rfl rfl (by decide) (by decide)) rfl (Zu 2 rfl ?_))))
 refine bsl (vs:=[(0,.pointer (some ⟨b6,0,none⟩)),(1,.pointer (some ⟨bgp,2,none⟩)),(2,.pointer (some ⟨bgp,13,none⟩)),(3,.pointer (some ⟨bs,0,none⟩)),(4,.pointer (some ⟨bs,4,none⟩)),(5,.pointer (some ⟨b69,0,none⟩)),(6,.pointer (some ⟨b70,0,none⟩)),(7,.pointer (some ⟨b71,1,none⟩)),(8,.pointer (some ⟨b73,0,none⟩)),(9,.pointer (some ⟨b76,0,none⟩)),(10,.pointer (some ⟨b12,0,none⟩)),(11,.pointer (some ⟨b12,1,none⟩)),(12,.pointer (some ⟨b13,0,none⟩)),(13,.pointer (some ⟨b13,1,none⟩)),(14,.pointer (some ⟨b13,2,none⟩))]) (out:=[.pointer (some ⟨b6,0,none⟩),.pointer (some ⟨bgp,2,none⟩),.pointer (some ⟨bgp,13,none⟩),.pointer (some ⟨bs,0,none⟩),.pointer (some ⟨bs,4,none⟩),.pointer (some ⟨b69,0,none⟩),.pointer (some ⟨b70,0,none⟩),.pointer (some ⟨b71,1,none⟩),.pointer (some ⟨b73,0,none⟩),.pointer (some ⟨b76,0,none⟩),.pointer (some ⟨b12,0,none⟩),.pointer (some ⟨b12,1,none⟩),.pointer (some ⟨b13,0,none⟩),.pointer (some ⟨b13,1,none⟩),.pointer (some ⟨b13,2,none⟩)]) rfl ZkR ZkV rfl rfl rfl rfl (by kernel_rfl) rfl (fun b116=>?_)
 refine bgT ?_
 have hi15:i=0∨i=1∨i=2∨i=3∨i=4∨i=5∨i=6∨i=7∨i=8∨i=9∨i=10∨i=11∨i=12∨i=13∨i=14:=by omega
 rcases hi15 with rfl | rfl | rfl | rfl | rfl | rfl | rfl | rfl | rfl | rfl | rfl | rfl | rfl | rfl | rfl<;>refine tk rfl (PE.indexAddr ZkK rfl rfl (by omega) (by omega)) rfl ?_<;>refine ld rfl rfl (lh ZkQ rfl rfl) rfl ?_<;>refine tk rfl (PE.nilCheck rfl) rfl ?_<;>refine sto rfl rfl rfl cn3 rfl rfl rfl rfl ?_<;>refine bg (fun w hs=>⟨trivial,trivial⟩) ?_
 exact Zx ⟨v,0,2,2,1,0,3,3,1,3,3,5,6,1,2⟩ (fun w h=>St.tail h)
 exact Zx ⟨6,v,2,2,1,0,3,3,1,3,3,5,6,1,2⟩ (fun w h=>St.tail h)
 exact Zx ⟨6,0,v,2,1,0,3,3,1,3,3,5,6,1,2⟩ (fun w h=>St.tail h)
 exact Zx ⟨6,0,2,v,1,0,3,3,1,3,3,5,6,1,2⟩ (fun w h=>St.tail h)
 exact Zx ⟨6,0,2,2,v,0,3,3,1,3,3,5,6,1,2⟩ (fun w h=>St.tail h)
 exact Zx ⟨6,0,2,2,1,v,3,3,1,3,3,5,6,1,2⟩ (fun w h=>St.tail h)
 exact Zx ⟨6,0,2,2,1,0,v,3,1,3,3,5,6,1,2⟩ (fun w h=>St.tail h)
 exact Zx ⟨6,0,2,2,1,0,3,v,1,3,3,5,6,1,2⟩ (fun w h=>St.tail h)
 exact Zx ⟨6,0,2,2,1,0,3,3,v,3,3,5,6,1,2⟩ (fun w h=>St.tail h)
 exact Zx ⟨6,0,2,2,1,0,3,3,1,v,3,5,6,1,2⟩ (fun w h=>St.tail h)
 exact Zx ⟨6,0,2,2,1,0,3,3,1,3,v,5,6,1,2⟩ (fun w h=>St.tail h)
 exact Zx ⟨6,0,2,2,1,0,3,3,1,3,3,v,6,1,2⟩ (fun w h=>St.tail h)
 exact Zx ⟨6,0,2,2,1,0,3,3,1,3,3,5,v,1,2⟩ (fun w h=>St.tail h)
 exact Zx ⟨6,0,2,2,1,0,3,3,1,3,3,5,6,v,2⟩ (fun w h=>St.tail h)
 exact Zx ⟨6,0,2,2,1,0,3,3,1,3,3,5,6,1,v⟩ (fun w h=>St.tail h)
 rintro sx
 refine Sy.heap (fun w h=>St.rows (sz:=2) (rows:=Z7 [⟨0,1⟩,⟨sx.f1,2⟩,⟨1,3⟩,⟨2,3⟩,⟨3,4⟩,⟨4,5⟩,⟨1,sx.f2⟩]) (rest:=[]) (h.pull bgp) (Z2N _)) ?_
 refine Sy.heap (fun w h=>St.rows (sz:=3) (rows:=Z8 (⟨sx.f3,3,true⟩::⟨1,sx.f4,false⟩::ys)) (rest:=junk) (h.pull bs) (Z3r _)) ?_
 refine Sy.heap (fun w h=>St.intRows (l:=[sx.f5,4]) (h.pull b69)) ?_
 refine Sy.heap (fun w h=>St.intRows (l:=[sx.f6]) (h.pull b70)) ?_
 refine Sy.heap (fun w h=>St.intRows (l:=[2,sx.f7]) (h.pull b71)) ?_
 refine Sy.heap (fun w h=>St.inn0 h) ?_
 refine Sy.heap (fun w h=>St.innCons (a:=some ⟨b73,0,none⟩) (c:=2) (l0:=[sx.f8,3]) (l:=[]) (St.intRows (l:=[sx.f8,3]) (h.pull b73))) ?_
 refine Sy.heap (fun w h=>St.innCons (a:=some ⟨b72,0,none⟩) (c:=2) (l0:=[0,2]) (l:=[⟨some ⟨b73,0,none⟩,2,[sx.f8,3]⟩]) (St.intRows (l:=[0,2]) (h.pull b72))) ?_
 refine Sy.heap (fun w h=>St.rows (sz:=1) (rows:=Zg ([⟨some ⟨b72,0,none⟩,2,[0,2]⟩,⟨some ⟨b73,0,none⟩,2,[sx.f8,3]⟩]:List PL)) (rest:=[]) (h.pull b74) (Z2n _)) ?_
 refine Sy.heap (fun w h=>St.inn0 h) ?_
 refine Sy.heap (fun w h=>St.innCons (a:=some ⟨b76,0,none⟩) (c:=1) (l0:=[sx.f9]) (l:=[]) (St.intRows (l:=[sx.f9]) (h.pull b76))) ?_
 refine Sy.heap (fun w h=>St.innCons (a:=some ⟨b75,0,none⟩) (c:=2) (l0:=[2,4]) (l:=[⟨some ⟨b76,0,none⟩,1,[sx.f9]⟩]) (St.intRows (l:=[2,4]) (h.pull b75))) ?_
 refine Sy.heap (fun w h=>St.rows (sz:=1) (rows:=Zg ([⟨some ⟨b75,0,none⟩,2,[2,4]⟩,⟨some ⟨b76,0,none⟩,1,[sx.f9]⟩]:List PL)) (rest:=[]) (h.pull b77) (Z2n _)) ?_
 refine Z0 (sqt 10 rfl (spL rfl rfl (lhA (htl (⟨sx.f0,[⟨0,1⟩,⟨sx.f1,2⟩,⟨1,3⟩,⟨2,3⟩,⟨3,4⟩,⟨4,5⟩,⟨1,sx.f2⟩],(⟨sx.f3,3,true⟩::⟨1,sx.f4,false⟩::ys)⟩:Hse) (Hse.sg (⟨sx.f0,[⟨0,1⟩,⟨sx.f1,2⟩,⟨1,3⟩,⟨2,3⟩,⟨3,4⟩,⟨4,5⟩,⟨1,sx.f2⟩],(⟨sx.f3,3,true⟩::⟨1,sx.f4,false⟩::ys)⟩:Hse) (some ⟨bgp,0,none⟩) 7) (Hse.ss (⟨sx.f0,[⟨0,1⟩,⟨sx.f1,2⟩,⟨1,3⟩,⟨2,3⟩,⟨3,4⟩,⟨4,5⟩,⟨1,sx.f2⟩],(⟨sx.f3,3,true⟩::⟨1,sx.f4,false⟩::ys)⟩:Hse) (some ⟨bs,0,none⟩) 3)) ZA rfl rfl rfl) rfl (pur 5 rfl (spL rfl rfl (lhA (ZY ⟨sx.f10,sx.f11,true⟩) Z6r rfl rfl rfl) rfl (spL rfl rfl (lhA [.int .i64 sx.f12,.int .i64 sx.f13,.int .i64 sx.f14] Zky rfl rfl rfl) rfl ?_)))))
 refine cl rfl Zj6 rfl rfl (Z49 (⟨sx.f0,[⟨0,1⟩,⟨sx.f1,2⟩,⟨1,3⟩,⟨2,3⟩,⟨3,4⟩,⟨4,5⟩,⟨1,sx.f2⟩],(⟨sx.f3,3,true⟩::⟨1,sx.f4,false⟩::ys)⟩:Hse) (some ⟨bgp,0,none⟩) (some ⟨bs,0,none⟩) 7 3 (nl rfl) (by show ys.length+1+1≤_;omega) [sx.f5,4] [sx.f6] [2,sx.f7] (some ⟨b69,0,none⟩) (some ⟨b70,0,none⟩) (some ⟨b71,0,none⟩) 2 1 2 (nl rfl) (nl rfl) (nl rfl) (Nat.le_refl _) (Nat.le_refl _) (Nat.le_refl _) ([⟨some ⟨b72,0,none⟩,2,[0,2]⟩,⟨some ⟨b73,0,none⟩,2,[sx.f8,3]⟩]:List PL) (some ⟨b74,0,none⟩) 2 (nl rfl) (by simp) ([⟨some ⟨b75,0,none⟩,2,[2,4]⟩,⟨some ⟨b76,0,none⟩,1,[sx.f9]⟩]:List PL) (some ⟨b77,0,none⟩) 2 (nl rfl) (by simp) ⟨sx.f10,sx.f11,true⟩ sx.f12 sx.f13 sx.f14 _ _) ?_
 rintro _ _ _ ⟨rfl,rfl,rfl⟩
 refine pur 1 rfl ?_
 refine Z1 rfl ?_ ?_<;>intro hc2
 exact absurd hc2 (by simp)
 refine Z2 (sqt 5 rfl (sp rfl (PE.fA ZT rfl) rfl (spL rfl rfl (lh Z2g rfl rfl) rfl (sp rfl (PE.slHi (h:=6) Z7U rfl rfl (by decide)) rfl (sp rfl (PE.fA ZT rfl) rfl ?_)))))
 refine ZG (l':=htl (⟨sx.f0,[⟨0,1⟩,⟨sx.f1,2⟩,⟨1,3⟩,⟨2,3⟩,⟨3,4⟩,⟨4,5⟩],(⟨sx.f3,3,true⟩::⟨1,sx.f4,false⟩::ys)⟩:Hse) (Hse.sg (⟨sx.f0,[⟨0,1⟩,⟨sx.f1,2⟩,⟨1,3⟩,⟨2,3⟩,⟨3,4⟩,⟨4,5⟩],(⟨sx.f3,3,true⟩::⟨1,sx.f4,false⟩::ys)⟩:Hse) (some ⟨bgp,0,none⟩) 7) (Hse.ss (⟨sx.f0,[⟨0,1⟩,⟨sx.f1,2⟩,⟨1,3⟩,⟨2,3⟩,⟨3,4⟩,⟨4,5⟩],(⟨sx.f3,3,true⟩::⟨1,sx.f4,false⟩::ys)⟩:Hse) (some ⟨bs,0,none⟩) 3)) rfl rfl rfl Zj9 rfl rfl rfl rfl (nl rfl) ?_
 refine Sy.heap (fun w h=>(show St _ (RowsA (some ⟨bgp,0,none⟩) 2 (Z7 [⟨0,1⟩,⟨sx.f1,2⟩,⟨1,3⟩,⟨2,3⟩,⟨3,4⟩,⟨4,5⟩])::_) w from St.rowsTake (a:=some ⟨bgp,0,none⟩) (sz:=2) (rows:=Z7 [⟨0,1⟩,⟨sx.f1,2⟩,⟨1,3⟩,⟨2,3⟩,⟨3,4⟩,⟨4,5⟩,⟨1,sx.f2⟩]) h 6)) ?_
 refine sqt 8 rfl (spL rfl rfl (lhA (htl (⟨sx.f0,[⟨0,1⟩,⟨sx.f1,2⟩,⟨1,3⟩,⟨2,3⟩,⟨3,4⟩,⟨4,5⟩],(⟨sx.f3,3,true⟩::⟨1,sx.f4,false⟩::ys)⟩:Hse) (Hse.sg (⟨sx.f0,[⟨0,1⟩,⟨sx.f1,2⟩,⟨1,3⟩,⟨2,3⟩,⟨3,4⟩,⟨4,5⟩],(⟨sx.f3,3,true⟩::⟨1,sx.f4,false⟩::ys)⟩:Hse) (some ⟨bgp,0,none⟩) 7) (Hse.ss (⟨sx.f0,[⟨0,1⟩,⟨sx.f1,2⟩,⟨1,3⟩,⟨2,3⟩,⟨3,4⟩,⟨4,5⟩],(⟨sx.f3,3,true⟩::⟨1,sx.f4,false⟩::ys)⟩:Hse) (some ⟨bs,0,none⟩) 3)) ZA rfl rfl rfl) rfl (pur 2 rfl (sp rfl (PE.indexArr Z9X rfl rfl (by decide) (by decide)) rfl (spL rfl rfl (lh sc3 rfl rfl) rfl (pur 1 rfl ?_)))))
 refine cl rfl Zkk rfl rfl (Z3c (⟨sx.f0,[⟨0,1⟩,⟨sx.f1,2⟩,⟨1,3⟩,⟨2,3⟩,⟨3,4⟩,⟨4,5⟩],(⟨sx.f3,3,true⟩::⟨1,sx.f4,false⟩::ys)⟩:Hse) (some ⟨bgp,0,none⟩) (some ⟨bs,0,none⟩) 7 3 (nl rfl) (by show ys.length+1+1≤_;omega) [sx.f5,4] [sx.f6] (some ⟨b69,0,none⟩) (some ⟨b70,0,none⟩) 2 1 (nl rfl) (nl rfl) (Nat.le_refl _) (Nat.le_refl _) sx.f14 ([⟨some ⟨b75,0,none⟩,2,[2,4]⟩,⟨some ⟨b76,0,none⟩,1,[sx.f9]⟩]:List PL) (some ⟨b77,0,none⟩) 2 (nl rfl) (by simp) _ _) ?_
 rintro _ _ _ ⟨rfl,rfl,rfl⟩
 refine pur 1 rfl ?_
 refine Z1 rfl ?_ ?_<;>intro hc3
 exact absurd hc3 (by simp)
 refine Z2 (sqr 2 rfl (sp rfl (PE.add rfl rfl (by omega)) rfl (pur 1 rfl ?_)))
 exact Zb ⟨k+1,by omega⟩ (fun w h=>St.sub (((h.del b13).del b12).del b6))
 refine Z9 (Za (Za (Zm (sqr 2 rfl (sp rfl (PE.add rfl rfl (by omega)) rfl (pur 1 rfl ?_))))))
 exact Zb ⟨i+1,by omega⟩ (fun w h=>h.facts SubF.sub)
 refine Z9 (Za (Za (Zm (Z0 (sqt 1 rfl (pur 1 rfl (Z4 ?_)))))))
 refine Ze (ι:={n:Nat // n≤70}) (fun y=>⟨[(146,.int .i64 y.1)],H,R⟩) (fun y=>70-y.1) ⟨0,Nat.zero_le _⟩ ?_ (fun y=>?_)
 exact Zi (fun w h=>(h.ftail).ftail)
 obtain ⟨n,hn⟩:=y
 dsimp only at hn ⊢
 refine sqt 1 rfl (pur 1 rfl (Z0 ?_))
 refine Z1 rfl ?_ ?_<;>intro hc4<;>try simp only [cS] at hc4
 refine Z2 (Z0 (Z4 (sqt 2 rfl (pur 2 rfl (sqt 6 rfl (pur 1 rfl (sp rfl (PE.rem rfl rfl (by omega)) rfl (sp rfl (PE.add rfl rfl (by omega)) rfl (sp rfl (PE.build (out:=[_,_,_]) Z3J Z0V rfl rfl) rfl (alc rfl Z0V rfl (fun b15=>?_)))))))))))
 refine ZG (l':=htl ⟨(2+(n:Int)%4),[],[]⟩ (.slice none 0 0) (.slice none 0 0)) rfl rfl rfl Z1i rfl rfl rfl rfl (nl rfl) ?_
 refine Z0 (sqt 3 rfl (pur 1 rfl (sp rfl (PE.rem rfl rfl (by omega)) rfl (pur 1 rfl (Z4 ?_)))))
 refine Ze (ι:=(x:{i:Nat // i≤n%7})×OSl 34 2 (Z7 (ZeU n x.1))) (fun x=>⟨[(14,.int .i64 n),(15,.pointer (some ⟨b15,0,none⟩)),(146,.int .i64 n),(154,.int .i64 ((n:Int)%7)),(155,.int .i64 x.1.1)],x.2.G++((b15,cel 27 (htl ⟨(2+(n:Int)%4),[],[]⟩ x.2.fs (.slice none 0 0)))::H),R⟩) (fun x=>n%7-x.1.1) ⟨⟨0,Nat.zero_le _⟩,OSl.nil _ _⟩ ?_ (fun x=>?_)
 exact Zi idH
 obtain ⟨⟨i,hi⟩,o⟩:=x
 dsimp only at hi o ⊢
 have hil:=Z6g n i
 refine sqt 1 rfl (pur 1 rfl (Z0 ?_))
 refine Z1 rfl ?_ ?_<;>intro hc5<;>try simp only [cS] at hc5
 obtain ⟨⟨hm1,hm1b⟩,⟨hm2,hm2b⟩,hm3⟩:=ZeV n i (by omega) (by omega)
 refine Z2 (Z0 (Z4 (sqt 2 rfl (pur 2 rfl (Z0 ?_)))))
 refine Zo [0,0,2,7,0,16,63,0,0,0,768,1920,3968,0,8192,32640,65535,0,262143] (tks 0 5 (.ld 5 (tks 6 8 (.ld 14 (.tk 15 (.tk 16 (.big 17 (.big 18 .done)))))))) ZF (by kernel_rfl) ?_
 refine Zu 2 rfl (tk rfl (PE.add rfl rfl (by omega)) rfl (tk rfl (PE.quo rfl rfl (by omega)) rfl (tk rfl (PE.fA Z0h rfl) rfl (ld rfl rfl (lh (v:=.int .i64 (2+(n:Int)%4)) sc3 rfl rfl) rfl (tk rfl (PE.rem rfl rfl ⟨hm3,by omega⟩) rfl (Zu 3 rfl (tk rfl (PE.mul rfl rfl ⟨by omega,by omega⟩) rfl (tk rfl (PE.add rfl rfl (by omega)) rfl (tk rfl (PE.add rfl rfl (by omega)) rfl (tk rfl (PE.fA Z0h rfl) rfl (ld rfl rfl (lh (v:=.int .i64 (2+(n:Int)%4)) sc3 rfl rfl) rfl (tk rfl (PE.rem rfl rfl (by omega)) rfl (tk rfl (PE.build (out:=[_,_]) Zcr Z51 rfl rfl) rfl (alc rfl Z51 rfl (fun b17=>?_)))))))))))))))
 refine bg (fun w hs=>⟨(lh (v:=.int .i64 (2+(n:Int)%4)) sc3 rfl rfl) w hs,(lh (v:=.int .i64 (2+(n:Int)%4)) sc3 rfl rfl) w hs,trivial⟩) ?_
 refine ZG (l':=grow ⟨((n:Int) / ((i:Int)+1)%(2+(n:Int)%4)),(((n:Int)+(i:Int)*(i:Int)+1)%(2+(n:Int)%4))⟩) rfl rfl rfl ZfR rfl rfl rfl rfl (nl rfl) ?_
 refine bgT (Z0 (sqt 5 rfl (sp rfl (PE.fA Z15 rfl) rfl (spL rfl rfl (lh (v:=.int .i64 ((n:Int) / ((i:Int)+1)%(2+(n:Int)%4))) sc3 rfl rfl) rfl (sp rfl (PE.fA Z0K rfl) rfl (spL rfl rfl (lh (v:=.int .i64 (((n:Int)+(i:Int)*(i:Int)+1)%(2+(n:Int)%4))) sc3 rfl rfl) rfl (pur 1 rfl ?_)))))))
 refine ZL (ι:={g:Gp // g=smG n i}) (fun y=>⟨[(14,.int .i64 n),(15,.pointer (some ⟨b15,0,none⟩)),(146,.int .i64 n),(154,.int .i64 ((n:Int)%7)),(155,.int .i64 i),(17,.pointer (some ⟨b17,0,none⟩))],(b17,cel 34 (grow y.1))::(o.G++((b15,cel 27 (htl ⟨(2+(n:Int)%4),[],[]⟩ o.fs (.slice none 0 0)))::H)),R⟩) ?_ ?_
 refine Z1 rfl ?_ ?_<;>intro hc6<;>try simp only [cS] at hc6
 have hb0:=Int.emod_nonneg ((n:Int)+(i:Int)*(i:Int)+1) (show (2+(n:Int)%4)≠0 by omega)
 have hb1:=Int.emod_lt_of_pos ((n:Int)+(i:Int)*(i:Int)+1) (show 0<(2+(n:Int)%4) by omega)
 refine sqr 8 rfl (sp rfl (PE.fA Z0K rfl) rfl (spL rfl rfl (lh (v:=.int .i64 (((n:Int)+(i:Int)*(i:Int)+1)%(2+(n:Int)%4))) sc3 rfl rfl) rfl (sp rfl (PE.add rfl rfl (by omega)) rfl (sp rfl (PE.fA Z0h rfl) rfl (spL rfl rfl (lh (v:=.int .i64 (2+(n:Int)%4)) sc3 rfl rfl) rfl (sp rfl (PE.rem rfl rfl ⟨by omega,by omega⟩) rfl (sp rfl (PE.fA Z0K rfl) rfl ?_)))))))
 refine ZG (l':=grow ⟨((n:Int) / ((i:Int)+1)%(2+(n:Int)%4)),((((n:Int)+(i:Int)*(i:Int)+1)%(2+(n:Int)%4))+1)%(2+(n:Int)%4)⟩) rfl rfl rfl cn3 rfl rfl rfl rfl (nl rfl) ?_
 exact Zk ⟨⟨((n:Int) / ((i:Int)+1)%(2+(n:Int)%4)),((((n:Int)+(i:Int)*(i:Int)+1)%(2+(n:Int)%4))+1)%(2+(n:Int)%4)⟩,by unfold smG;rw [dT hc6];rfl⟩ idH
 refine Z2 ?_
 exact Zk ⟨⟨((n:Int) / ((i:Int)+1)%(2+(n:Int)%4)),(((n:Int)+(i:Int)*(i:Int)+1)%(2+(n:Int)%4))⟩,by unfold smG;rw [dF hc6];rfl⟩ idH
 rintro ⟨g,hg⟩
 dsimp only
 rw [hg]
 refine sqr 7 rfl (sp rfl (PE.fA ZT rfl) rfl (spL rfl rfl (lh Z2g rfl rfl) rfl (spL rfl rfl (lhA (grow (smG n i)) Z7d rfl rfl rfl) rfl ?_)))
 refine bsl (out:=[_,_]) rfl Z7U Z51 rfl rfl rfl rfl rfl rfl (fun b190=>?_)
 refine apO (o) rfl Zh7 rfl rfl (Z02 (row:=grow (smG n i)) rfl) rfl rfl ((by rw [ZJ,hil];simp only [List.length_singleton];omega)) rfl (fun o191=>?_)
 refine sp rfl (PE.fA ZT rfl) rfl ?_
 refine ZG (l':=htl ⟨(2+(n:Int)%4),[],[]⟩ o191.fs (.slice none 0 0)) rfl rfl rfl Zj9 rfl (by rw [o191.cells.1];first | done | rfl) (by rw [o191.cells.1];simp [o191.cells.2]) (by rw [o191.cells.1];first | done | rfl) (by rw [o191.cells.1];first | done | exact Nat.le_of_ble_eq_true rfl) ?_
 refine sqr 2 rfl (sp rfl (PE.add rfl rfl (by omega)) rfl (pur 1 rfl ?_))
 exact Zb ⟨⟨i+1,by omega⟩,o191.cast (by rw [ZbT];simp [Z7])⟩ (fun w h=>(h.del b190).del b17)
 obtain rfl:i=n%7:=by omega
 obtain ⟨ag,cg,he,hf⟩:=o.freeze
 rw [he,ZJ,hil]
 refine Sy.heap (fun w h=>hf h) ?_
 clear he hf hil
 refine Z9 (Za (Za (Zm (Z0 (sqt 4 rfl (pur 1 rfl (sp rfl (PE.quo rfl rfl (by omega)) rfl (sp rfl (PE.rem rfl rfl (by omega)) rfl (pur 1 rfl (Z4 ?_))))))))))
 refine Ze (ι:=(x:{i:Nat // i≤n / 2%4})×OSl 30 3 (Z8 (ZgF n x.1))) (fun x=>⟨[(14,.int .i64 n),(15,.pointer (some ⟨b15,0,none⟩)),(146,.int .i64 n),(196,.int .i64 ((n:Int) / 2%4)),(197,.int .i64 x.1.1)],x.2.G++((b15,cel 27 (htl ⟨(2+(n:Int)%4),[],[]⟩ (.slice ag (n%7) cg) x.2.fs))::H),RowsA ag 2 (Z7 (ZeU n (n%7)))::R⟩) (fun x=>n / 2%4-x.1.1) ⟨⟨0,Nat.zero_le _⟩,OSl.nil _ _⟩ ?_ (fun x=>?_)
 exact Zi idH
 obtain ⟨⟨i,hi⟩,o⟩:=x
 dsimp only at hi o ⊢
 have hil:=Z94 n i
 refine sqt 1 rfl (pur 1 rfl (Z0 ?_))
 refine Z1 rfl ?_ ?_<;>intro hc7<;>try simp only [cS] at hc7
 obtain ⟨⟨hm1,hm1b⟩,⟨hm2,hm2b⟩,hm3⟩:=ZeV n i (by omega) (by omega)
 refine Z2 (Z0 (Z4 (sqt 2 rfl (pur 2 rfl ?_))))
 refine Zo [0,1,0,0,8,28,60,0,0,384,0,1024,3968,0,0,24576,57344,122880,262140,524284,1048575,2097151,4194303] (.tk 0 (.ld 1 (tks 2 9 (.ld 11 (tks 12 7 (.big 19 (.big 20 (.tk 21 (.big 22 .done))))))))) ZF (by kernel_rfl) ?_
 refine tk rfl (PE.fA ZN rfl) rfl (ld rfl rfl (lh Z1L rfl rfl) rfl (Zu 2 rfl (tk rfl (PE.add rfl rfl (by omega)) rfl (tk rfl (PE.mul rfl rfl ⟨by omega,by omega⟩) rfl (tk rfl (PE.rem rfl rfl (by omega)) rfl (Zu 2 rfl (tk rfl (PE.add rfl rfl (by omega)) rfl (tk rfl (PE.fA Z0h rfl) rfl (ld rfl rfl (lh (v:=.int .i64 (2+(n:Int)%4)) sc3 rfl rfl) rfl (tk rfl (PE.rem rfl rfl (by omega)) rfl (Zu 2 rfl (tk rfl (PE.shrN rfl rfl (by omega)) rfl (tk rfl (PE.rem rfl rfl ⟨Int.natCast_nonneg _,by omega⟩) rfl (Zu 1 rfl (tk rfl (PE.build (out:=[_,_,_]) ZdL Z41 rfl rfl) rfl ?_)))))))))))))))
 refine bsl (out:=[_,_,_]) rfl Z7j Z41 rfl rfl rfl rfl rfl rfl (fun b219=>?_)
 refine bg (fun w hs=>⟨trivial,(lh Z1L rfl rfl) w hs,trivial⟩) ?_
 refine apO (o) rfl Z7e rfl rfl (Z02 (row:=ZY (smS n i)) rfl) rfl rfl ((by rw [ZE,hil];simp only [List.length_singleton];omega)) rfl (fun o220=>?_)
 refine bgT (tk rfl (PE.fA ZN rfl) rfl ?_)
 refine ZG (l':=htl ⟨(2+(n:Int)%4),[],[]⟩ (.slice ag (n%7) cg) o220.fs) rfl rfl rfl Zja rfl (by rw [o220.cells.1];first | done | rfl) (by rw [o220.cells.1];simp [o220.cells.2]) (by rw [o220.cells.1];first | done | rfl) (by rw [o220.cells.1];first | done | exact Nat.le_of_ble_eq_true rfl) ?_
 refine bgT (sqr 2 rfl (sp rfl (PE.add rfl rfl (by omega)) rfl (pur 1 rfl ?_)))
 exact Zb ⟨⟨i+1,by omega⟩,o220.cast (by rw [ZbU];simp [Z8])⟩ (fun w h=>h.del b219)
 obtain rfl:i=n / 2%4:=by omega
 obtain ⟨as_,cs,he,hf⟩:=o.freeze
 rw [he,ZE,hil]
 refine Sy.heap (fun w h=>hf h) ?_
 clear he hf
 obtain ⟨B,hB,hBg,hBs,hb⟩:∃ B:Hse,B=⟨(2+(n:Int)%4),ZeU n (n%7),ZgF n (n / 2%4)⟩∧B.gaps.length=n%7∧B.sights.length=n / 2%4∧B.bins=(2+(n:Int)%4):=⟨_,rfl,Z6g _ _,hil,rfl⟩
 have hlg:B.gaps.length≤9223372036854775807:=by omega
 have hls:B.sights.length≤9223372036854775807:=by omega
 have hgl:B.gaps.length≤6:=by omega
 refine Sy.heap (H':=(b15,cel 27 (htl B (B.sg ag cg) (B.ss as_ cs)))::H) (R':=RowsA as_ 3 (Z8 B.sights)::RowsA ag 2 (Z7 B.gaps)::R) (fun w h=>by rw [hB];unfold Hse.sg Hse.ss;dsimp only;rw [Z6g,Z94];exact h) ?_
 clear hB hil
 refine Z9 (Za (Za (Zm (Z0 ?_))))
 refine Z78 (ι:=Int×Int×Nat×Nat) (fun y=>⟨[(14,.int .i64 n),(15,.pointer (some ⟨b15,0,none⟩)),(146,.int .i64 n),(19,.slice (some ⟨y.2.2.1,0,none⟩) 1 1),(20,.slice (some ⟨y.2.2.2,0,none⟩) 1 1)],(y.2.2.1,cel 3 [.int .i64 y.1])::(y.2.2.2,cel 3 [.int .i64 y.2.1])::(b15,cel 27 (htl B (B.sg ag cg) (B.ss as_ cs)))::H,RowsA as_ 3 (Z8 B.sights)::RowsA ag 2 (Z7 B.gaps)::R⟩) ?_ ?_
 refine Zo [0,0,2,7,15,0,32,0,128,480,992,31,4095] (.tk 0 (.tk 1 (.ld 2 (.tk 3 (tks 5 3 (.ld 8 (.tk 9 (.any (.alt 4 (.tk 11 (.big 10 (.tk 12 .done))) (.alt 10 (.big 4 (.tk 11 (.tk 12 .done))) .stop)))))))))) ZF (by kernel_rfl) ?_
 refine Zu 1 rfl (tk rfl (PE.fA Z0h rfl) rfl (ld rfl rfl (lh sc3 rfl rfl) rfl (tk rfl (PE.rem rfl rfl (by omega)) rfl (Zu 1 rfl (tk rfl (PE.add rfl rfl (by omega)) rfl (tk rfl (PE.fA Z0h rfl) rfl (ld rfl rfl (lh sc3 rfl rfl) rfl (tk rfl (PE.rem rfl rfl (by omega)) rfl ?_))))))))
 refine Z0u ?_ ?_
 refine bsl (out:=[_]) rfl Z03 zl3 rfl rfl rfl rfl rfl rfl (fun b227=>?_)
 refine bg (fun w hs=>⟨(lh sc3 rfl rfl) w hs,trivial,trivial⟩) ?_
 refine Zu 1 rfl ?_
 refine bsl (out:=[_]) rfl Z03 zl3 rfl rfl rfl rfl rfl rfl (fun b233=>?_)
 refine bgT (Zu 1 rfl ?_)
 exact Zx ((n:Int)%B.bins,((n:Int)+1)%B.bins,b227,b233) (fun w h=>(h.pull b233).pull b227)
 refine Z0u ?_ ?_
 refine bsl (out:=[_]) rfl Z03 zl3 rfl rfl rfl rfl rfl rfl (fun b233=>?_)
 refine bg (fun w hs=>⟨trivial,(lh sc3 rfl rfl) w hs,trivial⟩) ?_
 refine bsl (out:=[_]) rfl Z03 zl3 rfl rfl rfl rfl rfl rfl (fun b227=>?_)
 refine bgT (Zu 2 rfl ?_)
 exact Zx ((n:Int)%B.bins,((n:Int)+1)%B.bins,b227,b233) (fun w h=>(h.pull b233).pull b227)
 exact Z1G
 rintro ⟨ff,fk,b227,b233⟩
 dsimp only
 refine Sy.heap (fun w h=>St.intRows (l:=[fk]) ((St.intRows (l:=[ff]) h).pull b233)) ?_
 refine sqt 9 rfl (spL rfl rfl (lhA (htl B (B.sg ag cg) (B.ss as_ cs)) ZA rfl rfl rfl) rfl (pur 2 rfl ?_))
 refine cl rfl ZjI rfl rfl (Zhb B ag as_ cg cs hlg hls [ff] [fk] (some ⟨b227,0,none⟩) (some ⟨b233,0,none⟩) 1 1 (nl rfl) (nl rfl) (Nat.le_refl _) (Nat.le_refl _) _ _) ?_
 rintro _ _ _ ⟨gl,aj,cj,e1,hjl,hjc,rfl,rfl,rfl⟩
 refine pur 5 rfl (sqt 9 rfl (spL rfl rfl (lhA (htl B (B.sg ag cg) (B.ss as_ cs)) ZA rfl rfl rfl) rfl (pur 2 rfl ?_)))
 refine cl rfl Zkl rfl rfl (Zfs B ag as_ cg cs hlg hls [ff] [fk] (some ⟨b227,0,none⟩) (some ⟨b233,0,none⟩) 1 1 (nl rfl) (nl rfl) (Nat.le_refl _) (Nat.le_refl _) _ _) ?_
 rintro _ _ _ ⟨pl,o,e2,hpl,hpi,rfl,rfl,rfl⟩
 obtain ⟨ap0,cp0,he,hf⟩:=o.freeze
 rw [Zt] at he
 rw [he]
 refine pur 5 rfl (sqt 12 rfl (spL rfl rfl (lhA (htl B (B.sg ag cg) (B.ss as_ cs)) ZA rfl rfl rfl) rfl (pur 3 rfl (sp rfl (PE.rem rfl rfl (by omega)) rfl (sp rfl (PE.add rfl rfl (by omega)) rfl ?_)))))
 refine cl rfl Zj7 rfl rfl (Zfo B ag as_ cg cs hlg hls [ff] [fk] (some ⟨b227,0,none⟩) (some ⟨b233,0,none⟩) 1 1 (nl rfl) (nl rfl) (Nat.le_refl _) (Nat.le_refl _) (1+(n:Int)%2) _ _) ?_
 rintro _ _ _ ⟨ql,aq,cq,e3,hql,hqi,rfl,rfl,rfl⟩
 refine pur 5 rfl (Z0 (Z0 ?_))
 refine Z78 (ι:={c:Bool // c=true→0<pl.length}) (fun y=>⟨[(14,.int .i64 n),(15,.pointer (some ⟨b15,0,none⟩)),(146,.int .i64 n),(19,.slice (some ⟨b227,0,none⟩) 1 1),(20,.slice (some ⟨b233,0,none⟩) 1 1),(21,.slice aj gl.length cj),(23,.slice ap0 pl.length cp0),(25,.slice aq ql.length cq),(265,.bool y.1)],o.G++((b15,cel 27 (htl B (B.sg ag cg) (B.ss as_ cs)))::H),RowsA aq 1 (Zg ql)::Inn ql::Inn pl::RowsA aj 1 (Z3 gl)::RowsA (some ⟨b233,0,none⟩) 1 (Z3 [fk])::RowsA (some ⟨b227,0,none⟩) 1 (Z3 [ff])::RowsA as_ 3 (Z8 B.sights)::RowsA ag 2 (Z7 B.gaps)::R⟩) ?_ ?_
 refine sqr 8 rfl (pur 1 rfl (sp rfl (PE.rem rfl rfl (by omega)) rfl (pur 2 rfl ?_)))
 refine Zj 261 rfl ?_ ?_<;>intro g261
 try simp only [cS] at g261
 let c8:Bool:=decide ((0:Int)<(pl.length:Int))
 have k8:c8=true→0<pl.length:=fun h=>by have:=of_decide_eq_true h;omega
 refine pur 1 rfl ?_
 refine spG rfl rfl rfl rfl (PE.lenSl Z0J rfl) rfl ?_
 refine pur 2 rfl ?_
 exact Zx ⟨c8,k8⟩ idH
 try simp only [cS] at g261
 let c8:Bool:=false
 have k8:c8=true→0<pl.length:=fun h=>Bool.noConfusion h
 refine pur 4 rfl ?_
 exact Zx ⟨c8,k8⟩ idH
 rintro ⟨c8,k8⟩
 dsimp only
 refine ZL (ι:={y:List PL×Option Addr×Nat // (y.1.length≤20∧∀ x∈y.1,x.l.length≤10)}) (fun y=>⟨[(14,.int .i64 n),(15,.pointer (some ⟨b15,0,none⟩)),(146,.int .i64 n),(19,.slice (some ⟨b227,0,none⟩) 1 1),(20,.slice (some ⟨b233,0,none⟩) 1 1),(21,.slice aj gl.length cj),(23,.slice y.1.2.1 y.1.1.length y.1.2.2),(25,.slice aq ql.length cq)],(b15,cel 27 (htl B (B.sg ag cg) (B.ss as_ cs)))::H,RowsA y.1.2.1 1 (Zg y.1.1)::Inn y.1.1::RowsA aq 1 (Zg ql)::Inn ql::RowsA aj 1 (Z3 gl)::RowsA (some ⟨b233,0,none⟩) 1 (Z3 [fk])::RowsA (some ⟨b227,0,none⟩) 1 (Z3 [ff])::RowsA as_ 3 (Z8 B.sights)::RowsA ag 2 (Z7 B.gaps)::R⟩) ?_ ?_
 refine Z1 rfl ?_ ?_<;>intro hc8<;>try simp only [cS] at hc8
 have hpp:=k8 hc8
 obtain ⟨p0,pt,rfl⟩:∃ p0 pt,pl=p0::pt:=by
   cases pl with
   | nil=>exact absurd hpp (by decide)
   | cons x l=>exact ⟨x,l,rfl⟩
 obtain ⟨bo,co,jo,hfs,hoG,hoj,hoc,hom⟩:=o.is.resolve_left (fun h=>by have:=congrArg List.length h.1;rw [Zt] at this;simp at this)
 rw [Zt] at hfs
 rw [hfs] at he
 simp only [Value.slice.injEq] at he
 obtain ⟨rfl,_,rfl⟩:=he
 refine sqr 7 rfl (pur 2 rfl (sp rfl (PE.indexAddr Z4A rfl rfl (by decide) (by simp only [List.length_cons];omega)) rfl (spL rfl rfl ((fun w hs=>lh (b:=bo) (off:=0) (o:=cel 22 ((Zg (p0::pt)).flatten++jo)) (l:=(Zg (p0::pt)).flatten++jo) (H:=(bo,cel 22 ((Zg (p0::pt)).flatten++jo))::((b15,cel 27 (htl B (B.sg ag cg) (B.ss as_ cs)))::H)) Z1t rfl rfl w (by rw [hoG] at hs;exact hs))) rfl ?_)))
 refine bsl (out:=[_]) rfl Z7T Z5c rfl rfl rfl rfl rfl rfl (fun b270=>?_)
 refine apO o rfl Zh6 (congrArg some hfs.symm) rfl (Z02 (row:=Z3j p0) rfl) rfl rfl (by rw [Zt];simp only [List.length_singleton];omega) rfl (fun o271=>?_)
 refine pur 1 rfl ?_
 obtain ⟨ap,cp,he,hf⟩:=(o271.cast (by simp [Zg]):OSl 22 1 (Zg ((p0::pt)++[p0]))).freeze
 rw [show o271.fs=_ from he,Zt]
 exact Zk ⟨((p0::pt)++[p0],ap,cp),by simp only [List.length_append,List.length_singleton];omega,fun x hx=>Nat.le_trans (hpi x ((List.mem_append.1 hx).elim id fun h1=>by rw [List.mem_singleton.1 h1];simp)) (by omega)⟩ (fun w h=>St.sub (St.innPart (l:=p0::pt) (hf (h.del b270)) ((p0::pt)++[p0]) (fun x hx=>(List.mem_append.1 hx).elim id fun h1=>by rw [List.mem_singleton.1 h1];simp)))
 refine Z2 ?_
 exact Zk ⟨(pl,ap0,cp0),by dsimp only;omega,fun x hx=>Nat.le_trans (hpi x hx) (by omega)⟩ (fun w h=>St.sub (hf h))
 clear hpl hpi k8 he hf
 clear o
 clear pl
 rintro ⟨⟨pl,ap,cp⟩,hpl,hpi⟩
 dsimp only at hpl hpi ⊢
 refine Z0 (Z0 ?_)
 refine Z78 (ι:={c:Bool // c=true→0<gl.length}) (fun y=>⟨[(14,.int .i64 n),(15,.pointer (some ⟨b15,0,none⟩)),(146,.int .i64 n),(19,.slice (some ⟨b227,0,none⟩) 1 1),(20,.slice (some ⟨b233,0,none⟩) 1 1),(21,.slice aj gl.length cj),(23,.slice ap pl.length cp),(25,.slice aq ql.length cq),(279,.bool y.1)],(b15,cel 27 (htl B (B.sg ag cg) (B.ss as_ cs)))::H,RowsA ap 1 (Zg pl)::Inn pl::RowsA aq 1 (Zg ql)::Inn ql::RowsA aj 1 (Z3 gl)::RowsA (some ⟨b233,0,none⟩) 1 (Z3 [fk])::RowsA (some ⟨b227,0,none⟩) 1 (Z3 [ff])::RowsA as_ 3 (Z8 B.sights)::RowsA ag 2 (Z7 B.gaps)::R⟩) ?_ ?_
 refine sqr 8 rfl (pur 1 rfl (sp rfl (PE.rem rfl rfl (by omega)) rfl (pur 2 rfl ?_)))
 refine Zj 275 rfl ?_ ?_<;>intro g275
 try simp only [cS] at g275
 let c9:Bool:=decide ((0:Int)<(gl.length:Int))
 have k9:c9=true→0<gl.length:=fun h=>by have:=of_decide_eq_true h;omega
 refine pur 1 rfl ?_
 refine spG rfl rfl rfl rfl (PE.lenSl Zy rfl) rfl ?_
 refine pur 2 rfl ?_
 exact Zx ⟨c9,k9⟩ idH
 try simp only [cS] at g275
 let c9:Bool:=false
 have k9:c9=true→0<gl.length:=fun h=>Bool.noConfusion h
 refine pur 4 rfl ?_
 exact Zx ⟨c9,k9⟩ idH
 rintro ⟨c9,k9⟩
 dsimp only
 refine ZL (ι:={y:List Int×Option Addr×Nat // y.1.length≤6∧y.1.length≤y.2.2}) (fun y=>⟨[(14,.int .i64 n),(15,.pointer (some ⟨b15,0,none⟩)),(146,.int .i64 n),(19,.slice (some ⟨b227,0,none⟩) 1 1),(20,.slice (some ⟨b233,0,none⟩) 1 1),(21,.slice y.1.2.1 y.1.1.length y.1.2.2),(23,.slice ap pl.length cp),(25,.slice aq ql.length cq)],(b15,cel 27 (htl B (B.sg ag cg) (B.ss as_ cs)))::H,RowsA y.1.2.1 1 (Z3 y.1.1)::RowsA ap 1 (Zg pl)::Inn pl::RowsA aq 1 (Zg ql)::Inn ql::RowsA (some ⟨b233,0,none⟩) 1 (Z3 [fk])::RowsA (some ⟨b227,0,none⟩) 1 (Z3 [ff])::RowsA as_ 3 (Z8 B.sights)::RowsA ag 2 (Z7 B.gaps)::R⟩) ?_ ?_
 refine Z1 rfl ?_ ?_<;>intro hc9<;>try simp only [cS] at hc9
 have hq1:=k9 hc9
 refine Zh (a:=aj) (sz:=1) (rows:=Z3 gl) (ne0 (by rw [irl];omega)) (fun bq oq he=>?_)
 subst he
 refine sqr 3 rfl (pur 1 rfl (sp rfl (PE.slLoA (l:=1) Z03 rfl rfl (by omega)) rfl (pur 1 rfl ?_)))
 obtain ⟨a9,ha9⟩:∃ a9:Option Addr,(if cj=1 then (some ⟨bq,oq,none⟩:Option Addr) else (some ⟨bq,oq,none⟩:Option Addr).map (·.add (1*1)))=a9:=⟨_,rfl⟩
 rw [ha9]
 refine Sy.heap (fun w h=>(show St _ (RowsA a9 1 (Z3 (gl.drop 1))::_) w from by
   rw [← ha9]
   by_cases e:cj=1
   · rw [if_pos e,List.eq_nil_of_length_eq_zero (show (gl.drop 1).length=0 by rw [List.length_drop];omega)]
     exact h.also fun w' _ i row hi=>by simp at hi
   · rw [if_neg e,Option.map_some,Z00]
     have h2:=h.cut (b:=bq) (off:=oq) (sz:=1) (rows:=Z3 gl) 1
     rw [show (Z3 gl).drop 1=Z3 (gl.drop 1) from List.map_drop.symm] at h2
     exact h2)) ?_
 clear ha9
 rw [show gl.length-1=(gl.drop 1).length by rw [List.length_drop]]
 exact Zk ⟨(gl.drop 1,a9,cj-1),by dsimp only;rw [List.length_drop];omega⟩ (fun w h=>St.sub h)
 refine Z2 ?_
 exact Zk ⟨(gl,aj,cj),by dsimp only;omega⟩ (fun w h=>St.sub h)
 clear k9 hjl hjc
 clear aj cj gl
 rintro ⟨⟨gl,aj,cj⟩,hjl,hjc⟩
 dsimp only at hjl hjc ⊢
 refine Z0 (Z0 ?_)
 refine Z78 (ι:=Bool) (fun y=>⟨[(14,.int .i64 n),(15,.pointer (some ⟨b15,0,none⟩)),(146,.int .i64 n),(19,.slice (some ⟨b227,0,none⟩) 1 1),(20,.slice (some ⟨b233,0,none⟩) 1 1),(21,.slice aj gl.length cj),(23,.slice ap pl.length cp),(25,.slice aq ql.length cq),(289,.bool y)],(b15,cel 27 (htl B (B.sg ag cg) (B.ss as_ cs)))::H,RowsA aj 1 (Z3 gl)::RowsA ap 1 (Zg pl)::Inn pl::RowsA aq 1 (Zg ql)::Inn ql::RowsA (some ⟨b233,0,none⟩) 1 (Z3 [fk])::RowsA (some ⟨b227,0,none⟩) 1 (Z3 [ff])::RowsA as_ 3 (Z8 B.sights)::RowsA ag 2 (Z7 B.gaps)::R⟩) ?_ ?_
 refine sqr 8 rfl (pur 1 rfl (sp rfl (PE.rem rfl rfl (by omega)) rfl (pur 2 rfl ?_)))
 refine Zj 285 rfl ?_ ?_<;>intro g285
 try simp only [cS] at g285
 let c10:Bool:=decide ((0:Int)<(ql.length:Int))
 have k10:c10=true→0<ql.length:=fun h=>by have:=of_decide_eq_true h;omega
 refine pur 1 rfl ?_
 refine spG rfl rfl rfl rfl (PE.lenSl Z0J rfl) rfl ?_
 refine pur 2 rfl ?_
 exact Zx c10 idH
 try simp only [cS] at g285
 let c10:Bool:=false
 have k10:c10=true→0<ql.length:=fun h=>Bool.noConfusion h
 refine pur 4 rfl ?_
 exact Zx c10 idH
 rintro c10
 dsimp only
 refine ZL (ι:={y:List PL×Option Addr×Nat // (y.1.length≤20∧∀ x∈y.1,x.l.length≤10)}) (fun y=>⟨[(14,.int .i64 n),(15,.pointer (some ⟨b15,0,none⟩)),(146,.int .i64 n),(19,.slice (some ⟨b227,0,none⟩) 1 1),(20,.slice (some ⟨b233,0,none⟩) 1 1),(21,.slice aj gl.length cj),(23,.slice ap pl.length cp),(25,.slice y.1.2.1 y.1.1.length y.1.2.2)],(b15,cel 27 (htl B (B.sg ag cg) (B.ss as_ cs)))::H,RowsA y.1.2.1 1 (Zg y.1.1)::Inn y.1.1::RowsA aj 1 (Z3 gl)::RowsA ap 1 (Zg pl)::Inn pl::RowsA (some ⟨b233,0,none⟩) 1 (Z3 [fk])::RowsA (some ⟨b227,0,none⟩) 1 (Z3 [ff])::RowsA as_ 3 (Z8 B.sights)::RowsA ag 2 (Z7 B.gaps)::R⟩) ?_ ?_
 refine Z1 rfl ?_ ?_<;>intro hc10<;>try simp only [cS] at hc10
 refine sqr 4 rfl ?_
 refine bsl (out:=[_]) rfl Z7T Z5c rfl rfl rfl rfl rfl rfl (fun b290=>?_)
 refine pur 1 rfl ?_
 obtain ⟨o,ho,hG⟩:∃ o:OSl 22 1 (Zg [⟨none,0,[]⟩]),o.fs = .slice (some ⟨b290,0,none⟩) 1 1∧o.G=[(b290,cel 22 [.slice none 0 0])]:=⟨⟨_,_,Z2n _,.inr ⟨b290,1,[],rfl,rfl,rfl,Nat.le_refl _,by decide⟩⟩,rfl,rfl⟩
 rw [← ho]
 refine Sy.heap (H':=o.G++((b15,cel 27 (htl B (B.sg ag cg) (B.ss as_ cs)))::H)) (fun w h=>by rw [hG];exact h) ?_
 refine apO o rfl Zh6 rfl rfl (Z2o (a:=aq) (sz:=1) (rows:=Zg ql)) (Zt ql) (by simp [ZO,Zg,Z3j];intros;rfl) (by rw [Zt,Zt];simp only [List.length_singleton];omega) rfl (fun o292=>?_)
 refine pur 1 rfl ?_
 obtain ⟨a9,c9,he,hf⟩:=(o292.cast (by simp [Zg]):OSl 22 1 (Zg (⟨none,0,[]⟩::ql))).freeze
 rw [show o292.fs=_ from he,Zt]
 exact Zk ⟨(⟨none,0,[]⟩::ql,a9,c9),by simp only [List.length_cons];omega,fun x hx=>(List.mem_cons.1 hx).elim (fun h1=>by rw [h1];exact Nat.zero_le _) (hqi x)⟩ (fun w h=>St.sub (St.innNo (l:=ql) (hf h)))
 refine Z2 ?_
 exact Zk ⟨(ql,aq,cq),by dsimp only;omega,hqi⟩ (fun w h=>St.sub h)
 clear hql hqi
 clear aq cq ql
 rintro ⟨⟨ql,aq,cq⟩,hql,hqi⟩
 dsimp only at hql hqi ⊢
 refine sqt 20 rfl (spL rfl rfl (lhA (htl B (B.sg ag cg) (B.ss as_ cs)) ZA rfl rfl rfl) rfl (pur 6 rfl (sp rfl (PE.rem rfl rfl (by omega)) rfl (pur 1 rfl (sp rfl (PE.rem rfl rfl (by omega)) rfl (sp rfl (PE.build (out:=[_,_,_]) ZdL Z41 rfl rfl) rfl (pur 1 rfl (sp rfl (PE.rem rfl rfl (by omega)) rfl (pur 1 rfl (sp rfl (PE.rem rfl rfl (by omega)) rfl (pur 1 rfl (sp rfl (PE.rem rfl rfl (by omega)) rfl (sp rfl (PE.buildArr (out:=[_,_,_]) Z9X Zj3 rfl rfl) rfl ?_)))))))))))))
 refine cl rfl Zj6 rfl rfl (Z49 B ag as_ cg cs hlg hls [ff] [fk] gl (some ⟨b227,0,none⟩) (some ⟨b233,0,none⟩) aj 1 1 cj (nl rfl) (nl rfl) (by omega) (Nat.le_refl _) (Nat.le_refl _) hjc pl ap cp (by omega) (fun x hx=>by have:=hpi x hx;omega) ql aq cq (by omega) (fun x hx=>by have:=hqi x hx;omega) ⟨(n:Int)%11,(n:Int)%5,false⟩ ((n:Int)%6) ((n:Int)%5) ((n:Int)%3) _ _) ?_
 rintro _ _ _ ⟨rfl,rfl,rfl⟩
 refine pur 1 rfl ?_
 refine Z1 rfl ?_ ?_<;>intro hc11
 exact absurd hc11 (by simp)
 refine Z2 (sqr 2 rfl (sp rfl (PE.add rfl rfl (by omega)) rfl (pur 1 rfl ?_)))
 exact Zb ⟨n+1,by omega⟩ (fun w h=>St.sub (h.del b15))
 refine Z9 (Za (Za (Zm (Z0 (sqt 1 rfl (pur 1 rfl (Z4 ?_)))))))
 refine Ze (ι:={n:Nat // n≤13}) (fun y=>⟨[(314,.int .i64 y.1)],H,R⟩) (fun y=>13-y.1) ⟨0,Nat.zero_le _⟩ ?_ (fun y=>?_)
 exact Zi idH
 obtain ⟨n,hn⟩:=y
 dsimp only at hn ⊢
 refine sqt 1 rfl (pur 1 rfl (Z0 ?_))
 refine Z1 rfl ?_ ?_<;>intro hc12<;>try simp only [cS] at hc12
 have hlc:=Zds n (by omega)
 refine Z2 (Z0 (Z4 (sqt 2 rfl (pur 2 rfl (sqt 10 rfl (pur 1 rfl (sp rfl (PE.build (out:=[_,_,_]) Z3J Z0V rfl rfl) rfl (sp rfl (PE.build (out:=[_,_,_]) Z3J Z0V rfl rfl) rfl ?_))))))))
 refine cl rfl Zcp rfl rfl (Za7 0 (by decide) _ _) ?_
 rintro _ _ R9 ⟨bgp,bs,rfl,rfl,hR9⟩
 obtain rfl:=hR9.symm
 refine alc rfl Z0V rfl (fun b28=>alc rfl Z0V rfl (fun b29=>alc rfl Z0V rfl (fun b30=>?_)))
 refine ZG (l':=htl ⟨(n:Int),[],[]⟩ (.slice none 0 0) (.slice none 0 0)) rfl rfl rfl Z1i rfl rfl rfl rfl (nl rfl) ?_
 refine ZG (l':=htl ⟨3,[],[]⟩ (.slice none 0 0) (.slice none 0 0)) rfl rfl rfl Z1i rfl rfl rfl rfl (nl rfl) ?_
 refine ZG (l':=htl ⟨6,[],[]⟩ (.slice (some ⟨bgp,0,none⟩) 7 7) (.slice (some ⟨bs,0,none⟩) 0 3)) rfl rfl rfl Z1i rfl rfl rfl rfl (nl rfl) ?_
 refine Sy.heap (fun w h=>St.rows (sz:=2) (rows:=Z7 Z4Q) (rest:=[]) (by rw [List.append_nil];exact h.pull bgp) (Z2N _)) ?_
 refine Z0 (sqt 2 rfl (pur 2 rfl (Z4 ?_)))
 obtain ⟨os0,hs1,hs2⟩:∃ os0:OSl 30 3 (Z8 (lgS 0)),os0.fs = .slice (some ⟨bs,0,none⟩) 0 3∧os0.G=[(bs,cel 30 (Z8 sixS).flatten)]:=⟨⟨_,_,by simp [lgS,Z8],.inr ⟨bs,3,_,rfl,rfl,rfl,Nat.zero_le _,by decide⟩⟩,rfl,rfl⟩
 refine Ze (ι:=(x:{i:Nat // i≤n})×OSl 34 2 (Z7 (lgG x.1))×OSl 30 3 (Z8 (lgS x.1))) (fun x=>⟨[(27,.int .i64 n),(28,.pointer (some ⟨b28,0,none⟩)),(29,.pointer (some ⟨b29,0,none⟩)),(30,.pointer (some ⟨b30,0,none⟩)),(314,.int .i64 n),(321,.int .i64 n),(322,.int .i64 x.1.1)],x.2.1.G++(x.2.2.G++((b30,cel 27 (htl ⟨6,[],[]⟩ (.slice (some ⟨bgp,0,none⟩) 7 7) x.2.2.fs))::(b29,cel 27 (htl ⟨3,[],[]⟩ x.2.1.fs (.slice none 0 0)))::(b28,cel 27 (htl ⟨(n:Int),[],[]⟩ (.slice none 0 0) (.slice none 0 0)))::H)),RowsA (some ⟨bgp,0,none⟩) 2 (Z7 Z4Q)::R⟩) (fun x=>n-x.1.1) ⟨⟨0,Nat.zero_le _⟩,OSl.nil _ _,os0⟩ ?_ (fun x=>?_)
 exact Zi (fun w h=>by dsimp only;rw [hs1,hs2];exact h.pull bs)
 obtain ⟨⟨i,hi⟩,og,os⟩:=x
 dsimp only at hi og os ⊢
 have hgl:=Zbg i
 have hsl:=Zge i
 refine sqt 1 rfl (pur 1 rfl (Z0 ?_))
 refine Z1 rfl ?_ ?_<;>intro hc13<;>try simp only [cS] at hc13
 refine Z2 (Z0 (Z4 (sqt 2 rfl (pur 2 rfl (sqt 12 rfl (sp rfl (PE.fA ZT rfl) rfl (spL rfl rfl (lh Z2g rfl rfl) rfl (pur 1 rfl (sp rfl (PE.rem rfl rfl (by omega)) rfl (pur 1 rfl (sp rfl (PE.add rfl rfl (by omega)) rfl (sp rfl (PE.rem rfl rfl (by omega)) rfl (sp rfl (PE.build (out:=[_,_]) Zcr Z51 rfl rfl) rfl ?_)))))))))))))
 refine bsl (out:=[_,_]) rfl Z7U Z51 rfl rfl rfl rfl rfl rfl (fun b333=>?_)
 refine apO (og) rfl Zh7 rfl rfl (Z02 (row:=grow ⟨(i:Int)%3,((i:Int)+1)%3⟩) rfl) rfl rfl ((by rw [ZJ,hgl];simp only [List.length_singleton];omega)) rfl (fun o334=>?_)
 refine sp rfl (PE.fA ZT rfl) rfl ?_
 refine ZG (l':=htl ⟨3,[],[]⟩ o334.fs (.slice none 0 0)) rfl rfl rfl Zj9 rfl (by rw [o334.cells.1];first | done | rfl) (by rw [o334.cells.1];simp [o334.cells.2]) (by rw [o334.cells.1];first | done | rfl) (by rw [o334.cells.1];first | done | exact Nat.le_of_ble_eq_true rfl) ?_
 refine sqr 10 rfl (sp rfl (PE.fA ZN rfl) rfl (spL rfl rfl (lh Z1L rfl rfl) rfl (pur 2 rfl (sp rfl (PE.rem rfl rfl (by omega)) rfl (sp rfl (PE.build (out:=[_,_,_]) ZdL Z41 rfl rfl) rfl ?_)))))
 refine bsl (out:=[_,_,_]) rfl Z7j Z41 rfl rfl rfl rfl rfl rfl (fun b342=>?_)
 refine apO (os) rfl Z7e rfl rfl (Z02 (row:=ZY ⟨(i:Int),(i:Int)%6,true⟩) rfl) rfl rfl ((by rw [ZE,hsl];simp only [List.length_singleton];omega)) rfl (fun o343=>?_)
 refine sp rfl (PE.fA ZN rfl) rfl ?_
 refine ZG (l':=htl ⟨6,[],[]⟩ (.slice (some ⟨bgp,0,none⟩) 7 7) o343.fs) rfl rfl rfl Zja rfl (by rw [o343.cells.1];first | done | rfl) (by rw [o343.cells.1];simp [o343.cells.2]) (by rw [o343.cells.1];first | done | rfl) (by rw [o343.cells.1];first | done | exact Nat.le_of_ble_eq_true rfl) ?_
 refine sqr 2 rfl (sp rfl (PE.add rfl rfl (by omega)) rfl (pur 1 rfl ?_))
 exact Zb ⟨⟨i+1,by omega⟩,o334.cast (by rw [Zdq];simp [Z7]),o343.cast (by rw [Zdr];simp [Z8])⟩ (fun w h=>(h.del b342).del b333)
 obtain rfl:n=i:=by omega
 obtain ⟨ag,cg,he,hf⟩:=og.freeze
 obtain ⟨as_,cs,he2,hcs,hf2⟩:=os.freezeC
 rw [he,ZJ,hgl,he2,ZE,hsl]
 rw [ZE,hsl] at hcs
 refine Sy.heap (fun w h=>hf2 (hf h)) ?_
 clear he hf hgl he2 hf2
 refine Z9 (Za (Za (Zm (Z0 (sqt 2 rfl (pur 2 rfl ?_))))))
 refine ZL (ι:=Unit) (fun _=>⟨[(27,.int .i64 n),(28,.pointer (some ⟨b28,0,none⟩)),(29,.pointer (some ⟨b29,0,none⟩)),(30,.pointer (some ⟨b30,0,none⟩)),(314,.int .i64 n)],(b30,cel 27 (htl ⟨6,[],[]⟩ (.slice (some ⟨bgp,0,none⟩) 7 7) (.slice as_ ((lgS n).take 9).length cs)))::(b29,cel 27 (htl ⟨3,[],[]⟩ (.slice ag n cg) (.slice none 0 0)))::(b28,cel 27 (htl ⟨(n:Int),[],[]⟩ (.slice none 0 0) (.slice none 0 0)))::H,RowsA as_ 3 (Z8 ((lgS n).take 9))::RowsA ag 2 (Z7 (lgG n))::RowsA (some ⟨bgp,0,none⟩) 2 (Z7 Z4Q)::R⟩) ?_ ?_
 refine Z1 rfl ?_ ?_<;>intro hc14<;>try simp only [cS] at hc14
 refine sqr 5 rfl (sp rfl (PE.fA ZN rfl) rfl (spL rfl rfl (lh Z1L rfl rfl) rfl (sp rfl (PE.slHi (h:=9) Z7j rfl rfl (by omega)) rfl (sp rfl (PE.fA ZN rfl) rfl ?_))))
 refine ZG (l':=htl ⟨6,[],[]⟩ (.slice (some ⟨bgp,0,none⟩) 7 7) (.slice as_ 9 cs)) rfl rfl rfl Zja rfl rfl rfl rfl (nl rfl) ?_
 exact Zk () (fun w h=>by dsimp only;rw [show ((lgS n).take 9).length=9 by rw [List.length_take,hsl];omega];have h2:=St.rowsTake (a:=as_) (sz:=3) (rows:=Z8 (lgS n)) h 9;rw [Z5y] at h2;exact St.sub h2)
 refine Z2 ?_
 exact Zk () (fun w h=>by dsimp only;rw [show (lgS n).take 9=lgS n from List.take_of_length_le (by rw [hsl];omega),hsl];exact h)
 rintro ⟨⟩
 refine sqt 6 rfl (spL rfl rfl (lhA (htl ⟨(n:Int),[],[]⟩ (.slice none 0 0) (.slice none 0 0)) ZA rfl rfl rfl) rfl (spL rfl rfl (lhA (htl ⟨3,[],[]⟩ (.slice ag n cg) (.slice none 0 0)) ZA rfl rfl rfl) rfl (spL rfl rfl (lhA (htl ⟨6,[],[]⟩ (.slice (some ⟨bgp,0,none⟩) 7 7) (.slice as_ ((lgS n).take 9).length cs)) ZA rfl rfl rfl) rfl ?_)))
 refine bsl (out:=[_,_,_,_,_,_,_,_,_]) rfl Zkr Z0V rfl rfl rfl rfl rfl rfl (fun b355=>?_)
 refine sp rfl (PE.lenSl Ziw rfl) rfl (pur 1 rfl (Z4 ?_))
 refine Sy.heap (fun w h=>St.rows (sz:=3) (rows:=[[.int .i64 (n:Int),(.slice none 0 0),(.slice none 0 0)],[.int .i64 3,.slice ag n cg,(.slice none 0 0)],[.int .i64 6,.slice (some ⟨bgp,0,none⟩) 7 7,.slice as_ ((lgS n).take 9).length cs]]) (rest:=[]) (h.pull b355) (by simp)) ?_
 refine Ze (ι:={i:Nat // i≤3}) (fun x=>⟨[(27,.int .i64 n),(28,.pointer (some ⟨b28,0,none⟩)),(29,.pointer (some ⟨b29,0,none⟩)),(30,.pointer (some ⟨b30,0,none⟩)),(314,.int .i64 n),(355,.slice (some ⟨b355,0,none⟩) 3 3),(356,.int .i64 3),(357,.int .i64 x.1)],(b30,cel 27 (htl ⟨6,[],[]⟩ (.slice (some ⟨bgp,0,none⟩) 7 7) (.slice as_ ((lgS n).take 9).length cs)))::(b29,cel 27 (htl ⟨3,[],[]⟩ (.slice ag n cg) (.slice none 0 0)))::(b28,cel 27 (htl ⟨(n:Int),[],[]⟩ (.slice none 0 0) (.slice none 0 0)))::H,RowsA (some ⟨b355,0,none⟩) 3 [[.int .i64 (n:Int),(.slice none 0 0),(.slice none 0 0)],[.int .i64 3,.slice ag n cg,(.slice none 0 0)],[.int .i64 6,.slice (some ⟨bgp,0,none⟩) 7 7,.slice as_ ((lgS n).take 9).length cs]]::RowsA as_ 3 (Z8 ((lgS n).take 9))::RowsA ag 2 (Z7 (lgG n))::RowsA (some ⟨bgp,0,none⟩) 2 (Z7 Z4Q)::R⟩) (fun x=>3-x.1) ⟨0,Nat.zero_le _⟩ ?_ (fun x=>?_)
 exact Zi idH
 obtain ⟨i,hi⟩:=x
 dsimp only at hi ⊢
 refine sqt 1 rfl (pur 1 rfl (Z0 ?_))
 refine Z1 rfl ?_ ?_<;>intro hc15<;>try simp only [cS] at hc15
 obtain ⟨h,xg,xs,yg,ys,hrow,hlg,hls,hck,hfc⟩:∃ (h:Hse) (xg xs:Option Addr) (yg ys:Nat),([[.int .i64 (n:Int),(.slice none 0 0),(.slice none 0 0)],[.int .i64 3,.slice ag n cg,(.slice none 0 0)],[.int .i64 6,.slice (some ⟨bgp,0,none⟩) 7 7,.slice as_ ((lgS n).take 9).length cs]]:List (List Value))[i]?=some (htl h (h.sg xg yg) (h.ss xs ys))∧h.gaps.length≤9223372036854775807∧h.sights.length≤9223372036854775807∧decide (h.check=0)=[decide (0<n)&&decide (n<8),decide (n<11),decide (n<9)].getD i false∧∀ H9 w,St H9 (RowsA (some ⟨b355,0,none⟩) 3 [[.int .i64 (n:Int),(.slice none 0 0),(.slice none 0 0)],[.int .i64 3,.slice ag n cg,(.slice none 0 0)],[.int .i64 6,.slice (some ⟨bgp,0,none⟩) 7 7,.slice as_ ((lgS n).take 9).length cs]]::RowsA as_ 3 (Z8 ((lgS n).take 9))::RowsA ag 2 (Z7 (lgG n))::RowsA (some ⟨bgp,0,none⟩) 2 (Z7 Z4Q)::R) w→St H9 (RowsA xs 3 (Z8 h.sights)::RowsA xg 2 (Z7 h.gaps)::RowsA (some ⟨b355,0,none⟩) 3 [[.int .i64 (n:Int),(.slice none 0 0),(.slice none 0 0)],[.int .i64 3,.slice ag n cg,(.slice none 0 0)],[.int .i64 6,.slice (some ⟨bgp,0,none⟩) 7 7,.slice as_ ((lgS n).take 9).length cs]]::RowsA as_ 3 (Z8 ((lgS n).take 9))::RowsA ag 2 (Z7 (lgG n))::RowsA (some ⟨bgp,0,none⟩) 2 (Z7 Z4Q)::R) w:=by
   have hgl:=Zbg n
   have hs9:((lgS n).take 9).length≤9:=by rw [List.length_take];omega
   have hi3:i=0∨i=1∨i=2:=by omega
   rcases hi3 with rfl | rfl | rfl
   · exact ⟨lg3 n 0,none,none,0,0,rfl,Nat.zero_le _,Nat.zero_le _,hlc 0 (by omega),fun H9 w h9=>St.noR (St.noR h9)⟩
   · exact ⟨lg3 n 1,ag,none,cg,0,by show some _=some (htl (lg3 n 1) (Value.slice ag (lgG n).length cg) _);rw [hgl];rfl,by show (lgG n).length≤_;omega,Nat.zero_le _,hlc 1 (by omega),fun H9 w h9=>St.noR (show St H9 (RowsA ag 2 (Z7 (lg3 n 1).gaps)::RowsA (some ⟨b355,0,none⟩) 3 [[.int .i64 (n:Int),(.slice none 0 0),(.slice none 0 0)],[.int .i64 3,.slice ag n cg,(.slice none 0 0)],[.int .i64 6,.slice (some ⟨bgp,0,none⟩) 7 7,.slice as_ ((lgS n).take 9).length cs]]::RowsA as_ 3 (Z8 ((lgS n).take 9))::RowsA ag 2 (Z7 (lgG n))::RowsA (some ⟨bgp,0,none⟩) 2 (Z7 Z4Q)::R) w from (St.sub h9:St H9 (RowsA ag 2 (Z7 (lgG n))::RowsA (some ⟨b355,0,none⟩) 3 [[.int .i64 (n:Int),(.slice none 0 0),(.slice none 0 0)],[.int .i64 3,.slice ag n cg,(.slice none 0 0)],[.int .i64 6,.slice (some ⟨bgp,0,none⟩) 7 7,.slice as_ ((lgS n).take 9).length cs]]::RowsA as_ 3 (Z8 ((lgS n).take 9))::RowsA ag 2 (Z7 (lgG n))::RowsA (some ⟨bgp,0,none⟩) 2 (Z7 Z4Q)::R) w))⟩
   · exact ⟨lg3 n 2,some ⟨bgp,0,none⟩,as_,7,cs,rfl,(by show 7≤_;decide),by show ((lgS n).take 9).length≤_;omega,hlc 2 (by omega),fun H9 w h9=>(St.sub h9:St H9 (RowsA as_ 3 (Z8 ((lgS n).take 9))::RowsA (some ⟨bgp,0,none⟩) 2 (Z7 Z4Q)::RowsA (some ⟨b355,0,none⟩) 3 [[.int .i64 (n:Int),(.slice none 0 0),(.slice none 0 0)],[.int .i64 3,.slice ag n cg,(.slice none 0 0)],[.int .i64 6,.slice (some ⟨bgp,0,none⟩) 7 7,.slice as_ ((lgS n).take 9).length cs]]::RowsA as_ 3 (Z8 ((lgS n).take 9))::RowsA ag 2 (Z7 (lgG n))::RowsA (some ⟨bgp,0,none⟩) 2 (Z7 Z4Q)::R) w)⟩
 refine Sy.heap (fun w h9=>hfc _ w h9) ?_
 refine Z2 (Z0 (Z4 (sqt 6 rfl (pur 1 rfl (sp rfl (PE.indexAddr Zkp rfl rfl (by omega) (by omega)) rfl (spL rfl rfl (lfA ZA hrow rfl) rfl (alc rfl Z0V rfl (fun b33=>pur 1 rfl ?_))))))))
 refine ZG (l':=htl h (h.sg xg yg) (h.ss xs ys)) rfl rfl rfl Z1i rfl rfl rfl rfl (nl rfl) ?_
 refine Z0 (sqt 20 rfl (spL rfl rfl (lhA (htl h (h.sg xg yg) (h.ss xs ys)) ZA rfl rfl rfl) rfl ?_))
 refine bsl (out:=[_]) rfl Z03 zl3 rfl rfl rfl rfl rfl rfl (fun b363=>?_)
 refine bsl (out:=[_]) rfl Z03 zl3 rfl rfl rfl rfl rfl rfl (fun b364=>?_)
 refine sp rfl (PE.build (out:=[_,_,_]) ZdL Z41 rfl rfl) rfl (sp rfl (PE.buildArr (out:=[_,_,_]) Z9X Zj3 rfl rfl) rfl ?_)
 refine Sy.heap (fun w h9=>St.noR (sz:=1) (St.inn0 (St.intRows (l:=[2]) ((St.intRows (l:=[0]) (h9.pull b363)).pull b364)))) ?_
 refine cl rfl Zj6 rfl rfl (Z49 h xg xs yg ys hlg hls [0] [2] [] (some ⟨b363,0,none⟩) (some ⟨b364,0,none⟩) none 1 1 0 (nl rfl) (nl rfl) (Nat.zero_le _) (Nat.le_refl _) (Nat.le_refl _) (Nat.le_refl _) [] none 0 (Nat.zero_le _) (by simp) [] none 0 (Nat.zero_le _) (by simp) ⟨0,0,true⟩ 0 0 1 _ _) ?_
 rintro _ _ _ ⟨rfl,rfl,rfl⟩
 refine pur 2 rfl ?_
 refine Zj 369 rfl ?_ ?_<;>intro g369
 exact absurd g369 (by simp)
 refine Z0m rfl rfl rfl rfl rfl (lhA (htl h (h.sg xg yg) (h.ss xs ys)) ZA rfl rfl rfl) rfl ?_
 refine Za0 (out:=[_]) rfl rfl rfl rfl Z03 zl3 rfl rfl rfl rfl rfl rfl (fun b371=>?_)
 refine Za0 (out:=[_]) rfl rfl rfl rfl Z03 zl3 rfl rfl rfl rfl rfl rfl (fun b372=>?_)
 refine Za0 (out:=[_]) rfl rfl rfl rfl Z7T Z5c rfl rfl rfl rfl rfl rfl (fun b373=>?_)
 refine Za0 (out:=[_,_]) rfl rfl rfl rfl Z7T Z5c rfl rfl rfl rfl rfl rfl (fun b374=>?_)
 refine spG rfl rfl rfl rfl (PE.build (out:=[_,_,_]) ZdL Z41 rfl rfl) rfl ?_
 refine pur 1 rfl ?_
 refine spG rfl rfl rfl rfl (PE.sub rfl rfl (by omega)) rfl ?_
 refine spG rfl rfl rfl rfl (PE.buildArr (out:=[_,_,_]) Z9X Zj3 rfl rfl) rfl ?_
 refine Sy.heap (fun w h9=>St.noR (sz:=1) (St.intRows (l:=[0]) ((St.intRows (l:=[1]) (h9.pull b371)).pull b372))) ?_
 refine Sy.heap (fun w h9=>St.innNo (l:=[]) (St.inn0 h9)) ?_
 refine Sy.heap (fun w h9=>St.innNo (l:=[⟨none,0,[]⟩]) h9) ?_
 refine Sy.heap (fun w h9=>St.rows (sz:=1) (rows:=Zg [⟨none,0,[]⟩]) (rest:=[]) (h9.pull b373) (Z2n _)) ?_
 refine Sy.heap (fun w h9=>St.rows (sz:=1) (rows:=Zg [⟨none,0,[]⟩,⟨none,0,[]⟩]) (rest:=[]) (h9.pull b374) (Z2n _)) ?_
 refine clG rfl rfl rfl rfl Zj6 rfl rfl (Z49 h xg xs yg ys hlg hls [] [1] [0] none (some ⟨b371,0,none⟩) (some ⟨b372,0,none⟩) 0 1 1 (Nat.zero_le _) (nl rfl) (nl rfl) (Nat.le_refl _) (Nat.le_refl _) (Nat.le_refl _) [⟨none,0,[]⟩] (some ⟨b373,0,none⟩) 1 (nl rfl) (by simp) [⟨none,0,[]⟩,⟨none,0,[]⟩] (some ⟨b374,0,none⟩) 2 (nl rfl) (by simp) ⟨0,0,false⟩ ((n:Int)-1) 9 0 _ _) ?_
 rintro _ _ _ ⟨rfl,rfl,rfl⟩
 refine pur 2 rfl ?_
 refine Z1 rfl ?_ ?_<;>intro hc16
 exact absurd hc16 (by simp)
 refine Z2 (sqt 18 rfl (spL rfl rfl (lhA (htl h (h.sg xg yg) (h.ss xs ys)) ZA rfl rfl rfl) rfl ?_))
 refine clV rfl Z1N rfl rfl (Z0a h xg xs yg ys hlg hls _ _) ?_
 refine pur 4 rfl ?_
 refine Zj 387 rfl ?_ ?_<;>intro g387
 try simp only [cS] at g387
 refine pur 7 rfl ?_
 refine bsl (out:=[_,_,_]) rfl Zks zl4 rfl rfl rfl rfl rfl rfl (fun b395=>?_)
 refine pur 1 rfl (sp rfl (PE.indexAddr Zkq rfl rfl (by omega) (by omega)) rfl (spL rfl rfl (lh (v:=.bool (([decide ((n:Int)<8),decide ((n:Int)<11),decide ((n:Int)<9)]:List Bool).getD i false)) sc4 rfl (by rcases (show i=0∨i=1∨i=2 by omega) with rfl | rfl | rfl<;>rfl)) rfl (sp rfl (PE.neqBool ub4 rfl rfl) rfl ?_)))
 refine Z1 rfl ?_ ?_<;>intro hc17
 exfalso
 rcases (show i=0∨i=1∨i=2 by omega) with rfl | rfl | rfl<;>simp_all<;>omega
 refine Z2 (sqr 2 rfl (sp rfl (PE.add rfl rfl (by omega)) rfl (pur 1 rfl ?_)))
 exact Zb ⟨i+1,by omega⟩ (fun w h9=>St.sub ((h9.del b395).del b33))
 try simp only [cS] at g387
 refine pur 7 rfl ?_
 refine bsl (out:=[_,_,_]) rfl Zks zl4 rfl rfl rfl rfl rfl rfl (fun b395=>?_)
 refine pur 1 rfl (sp rfl (PE.indexAddr Zkq rfl rfl (by omega) (by omega)) rfl (spL rfl rfl (lh (v:=.bool (([false,decide ((n:Int)<11),decide ((n:Int)<9)]:List Bool).getD i false)) sc4 rfl (by rcases (show i=0∨i=1∨i=2 by omega) with rfl | rfl | rfl<;>rfl)) rfl (sp rfl (PE.neqBool ub4 rfl rfl) rfl ?_)))
 refine Z1 rfl ?_ ?_<;>intro hc17
 exfalso
 rcases (show i=0∨i=1∨i=2 by omega) with rfl | rfl | rfl<;>simp_all<;>omega
 refine Z2 (sqr 2 rfl (sp rfl (PE.add rfl rfl (by omega)) rfl (pur 1 rfl ?_)))
 exact Zb ⟨i+1,by omega⟩ (fun w h9=>St.sub ((h9.del b395).del b33))
 refine Z9 (Za (Za (Zm (sqr 2 rfl (sp rfl (PE.add rfl rfl (by omega)) rfl (pur 1 rfl ?_))))))
 exact Zb ⟨n+1,by omega⟩ (fun w h=>St.sub (((h.del b30).del b29).del b28))
 refine Z9 (Za (Za (Zm (sqt 2 rfl ?_))))
 refine clV rfl Z2U rfl rfl (Z0x _ _) ?_
 refine pur 1 rfl (Z5 ?_)
 exact rtA rfl rfl rfl ⟨rfl,rfl,rfl⟩ idH
end Go.Proofs.YtclnhdkneegfkaaGreat
