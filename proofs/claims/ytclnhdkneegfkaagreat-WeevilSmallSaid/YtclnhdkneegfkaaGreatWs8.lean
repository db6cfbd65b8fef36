/- Walks of the functions of the program, and the laws that join them: what the last theorem of this claim needs, in order. -/
import Derived.Test.YtclnhdkneegfkaaGreatWs7
namespace Go.Proofs.YtclnhdkneegfkaaGreat
set_option linter.unusedSimpArgs false
set_option linter.unusedVariables false
open Go
theorem Zjn:arE Tryz.prog 79=some (10,3):=by kernel_rfl
theorem ZhC:cal Tryz.prog 122=true:=by kernel_rfl
theorem ZhP:cal Tryz.prog 139=true:=by kernel_rfl
theorem ZhQ:cal Tryz.prog 140=true:=by kernel_rfl
theorem Zju:cal Tryz.prog 36=true:=by kernel_rfl
theorem Fn.lendWO {P:Program} {f:FuncId} {args:List Value} {q:Value→Zf→Prop} {b e sz:Nat} {l:List Value} {T:Zf} {R:Z6} (hz:l.length=sz)
   (h:∀ B:World→Prop,Fn P f args T (RowsA (some ⟨b,0,none⟩) sz [l]::B::R) (fun v H' R'=>q v H'∧R'=RowsA (some ⟨b,0,none⟩) sz [l]::B::R)):Fn P f args ((b,cel e l)::T) R (fun v H' R'=>∃ T',q v T'∧H'=(b,cel e l)::T'∧R'=R):=fun w hw=>by
 have h5:St T (RowsA (some ⟨b,0,none⟩) sz [l]::Z7f b (cel e l) R::R) w :=
   St.also hw.lend (fun w' hg=>Z2E (e:=e) (rows:=[l]) (junk:=[]) (by simpa using (hg (Z7f b (cel e l) R) (by simp)).1) (fun r hr=>by rw [List.mem_singleton.1 hr];exact hz))
 refine CallsIn.mono (h _ w h5) ?_
 rintro e' w' ⟨u,H',R',⟨hp,rfl⟩,he,hs'⟩
 have h6:=hs'.ftail
 exact ⟨u,_,R,⟨H',hp,rfl,rfl⟩,he,h6.unlend (Z89 h6)⟩
def Z6t (l:List Int):List Int:=l.map fun x => -x
theorem ZeJ (l:List Int) (i:Nat):na (Z6t l) i = -na l i:=by
 unfold na Z6t
 rw [List.getD_eq_getElem?_getD,List.getD_eq_getElem?_getD,List.getElem?_map]
 cases l[i]?<;>simp
theorem Zbs (l:List Int):(fun i => -na l i)=na (Z6t l):=by funext i;rw [ZeJ]
def Zbr (l:List Int) (k:Nat):List Int:=(Z6t l).take k++List.replicate (l.length-k) 0
theorem Z2D (l:List Int):(Z6t l).length=l.length:=List.length_map _
theorem Zdz {l:List Int} {k:Nat} (h:k≤l.length):(Zbr l k).length=l.length:=by unfold Zbr;rw [List.length_append,List.length_take,Z2D,List.length_replicate];omega
theorem ZdA {l:List Int} {k:Nat} (h:k<l.length):(Zbr l k).set k (-na l k)=Zbr l (k+1):=by
 unfold Zbr
 have h1:((Z6t l).take k).length=k:=by rw [List.length_take,Z2D];omega
 rw [List.set_append_right _ _ (by omega),h1,Nat.sub_self,show l.length-k=(l.length-(k+1))+1 by omega,List.replicate_succ,List.set_cons_zero,← ZeJ,List.take_add_one,Z0Z (l:=Z6t l) (by rw [Z2D];exact h),List.append_assoc];rfl
theorem Zdy (l:List Int):Zbr l l.length=Z6t l:=by unfold Zbr;rw [Nat.sub_self,List.take_of_length_le (by rw [Z2D];exact Nat.le_refl _)];exact List.append_nil _
def Zj8 (l:List Int):Nat:=msF (fun i=>decide (na l i=0)) 10
theorem ZaG {l:List Int} {i:Nat} (h:i<10):(!(Zj8 l).testBit i)=decide (na l i≠0):=by
 unfold Zj8
 rw [Z4g,decide_eq_true h,Bool.true_and,← decide_not]
theorem Stp.cg {gs:List Gp} {op op2:Nat→Bool} {f:Nat→Int} (ho:∀ i,i<gs.length→op i=op2 i) {u i v:Nat}:Stp gs op f u i v↔Stp gs op2 f u i v:=by
 constructor
 · rintro ⟨g,h1,h2,h3⟩;exact ⟨g,h1,by rw [← ho i (List.getElem?_eq_some_iff.1 h1).1];exact h2,h3⟩
 · rintro ⟨g,h1,h2,h3⟩;exact ⟨g,h1,by rw [ho i (List.getElem?_eq_some_iff.1 h1).1];exact h2,h3⟩
theorem Srch.cg {gs:List Gp} {op op2:Nat→Bool} {f:Nat→Int} {S K:Nat} {V:List (Nat×Int)} (ho:∀ i,i<gs.length→op i=op2 i) (h:Srch gs op f S K V):Srch gs op2 f S K V:=⟨h.nd,h.lt,h.from_,fun q x hx=>(h.par q x hx).imp id fun ⟨h1,i,p,y,h2,h3,h4,h5,h6⟩=>⟨h1,i,p,y,h2,h3,h4,h5,(Stp.cg ho).1 h6⟩⟩
theorem Shn.cg {gs:List Gp} {op op2:Nat→Bool} {f:Nat→Int} {S K:Nat} {V:List (Nat×Int)} (ho:∀ i,i<gs.length→op i=op2 i) (h:Shn gs op f S K V):Shn gs op2 f S K V:=⟨h.s.cg ho,h.no,fun u v i h1 h2=>h.cl u v i h1 ((Stp.cg ho).2 h2)⟩
theorem Way.cg {gs:List Gp} {op op2:Nat→Bool} {f:Nat→Int} {S K:Nat} (ho:∀ i,i<gs.length→op i=op2 i):∀ {l:List (Nat×Nat)} {u w:Nat},Way gs op f S K u l w→Way gs op2 f S K u l w
 | [],u,w,h=>by cases h;exact .nil _
 | (i,v)::l,u,w,h=>by
   cases h with
   | cons hg ho9 hk hsv hs h =>
     exact .cons hg (by rw [← ho i (List.getElem?_eq_some_iff.1 hg).1];exact ho9) hk hsv hs (Way.cg ho h)
theorem WayK.cg {gs:List Gp} {op op2:Nat→Bool} {f:Nat→Int} {S K u w:Nat} {l:List (Nat×Nat)} (ho:∀ i,i<gs.length→op i=op2 i) (h:WayK gs op f S K u l w):WayK gs op2 f S K u l w:=⟨h.way.cg ho,h.nd,h.from_,h.to⟩
def WyK (gs:List Gp) (S K:Nat) (p:List Int):Prop:=∃ (op:Nat→Bool) (f:Nat→Int) (u:Nat) (l:List (Nat×Nat)) (w:Nat),WayK gs op f S K u l w∧l≠[]∧p=l.map fun x=>(x.1:Int)
structure WysP (gs:List Gp) (S K:Nat) (pl:List PL):Prop where
 rng:∀ x∈(lls pl).flatten,0≤x∧x<(gs.length:Int)
 nd:(lls pl).flatten.Nodup
 wy:∀ p∈lls pl,WyK gs S K p
structure WysI (gs:List Gp) (S K:Nat) (fl:List Int) (pl:List PL) (F:Int):Prop where
 p:WysP gs S K pl
 len:fl.length=10
 flw:Flw (na fl) S K gs
 cnt:Z1r (na fl) S gs+pl.length=F
 zr:∀ x∈(lls pl).flatten,na fl x.toNat=0
theorem ZfY {f:Nat→Int} {l:List (Nat×Nat)} {i:Nat} (h:i∈l.map (·.1)):Z7A f l i=0:=by
 obtain ⟨x,hx,rfl⟩:=List.mem_map.1 h
 unfold Z7A
 rw [List.any_eq_true.2 ⟨x,hx,decide_eq_true rfl⟩];rfl
theorem WysI.more {gs:List Gp} {S K:Nat} {fl fl2:List Int} {pl:List PL} {F:Int} (h:WysI gs S K fl pl F) (ht:Two gs S K) {u w:Nat} {l:List (Nat×Nat)} (hw:WayK gs (fun i=>decide (na fl i≠0)) (na (Z6t fl)) S K u l w) (hl:l≠[]) (h2:fl2.length=10) (he:∀ i,na fl2 i=Z7A (na fl) l i) {x:PL} (hx:x.l=l.map fun y=>(y.1:Int)):WysI gs S K fl2 (pl++[x]) F:=by
 have hw2:WayK gs (fun i=>decide (na fl i≠0)) (fun i => -na fl i) S K u l w:=by rw [Zbs];exact hw
 obtain ⟨h3,h4⟩:=h.flw.less ht.no ht.ab hw2
 have hfe:na fl2=Z7A (na fl) l:=funext he
 have hfn:(lls (pl++[x])).flatten=(lls pl).flatten++l.map fun y=>(y.1:Int):=by rw [Z3G,List.flatten_append,List.flatten_singleton,hx]
 have hin:∀ y∈l.map fun y:Nat×Nat=>(y.1:Int),∃ i:Nat,y=i∧i<gs.length∧na fl i≠0∧i∈l.map (·.1):=fun y hy=>by
   obtain ⟨z,hz,rfl⟩:=List.mem_map.1 hy
   obtain ⟨g,_,h5,h6,_⟩:=hw.way.mem z hz
   exact ⟨z.1,rfl,(List.getElem?_eq_some_iff.1 h5).1,of_decide_eq_true h6,List.mem_map.2 ⟨z,hz,rfl⟩⟩
 refine ⟨⟨fun y hy=>?_,?_,fun p hp=>?_⟩,h2,by rw [hfe];exact h3,?_,fun y hy=>?_⟩
 · rw [hfn] at hy
   rcases List.mem_append.1 hy with h5 | h5
   · exact h.p.rng y h5
   · obtain ⟨i,rfl,h6,_⟩:=hin y h5;omega
 · rw [hfn]
   refine List.nodup_append.2 ⟨h.p.nd,?_,fun a ha b hb e=>?_⟩
   · have h5:=hw.nd
     rw [List.nodup_iff_pairwise_ne,List.pairwise_map] at h5 ⊢
     exact h5.imp fun h6 h7=>h6 (by omega)
   · subst e
     obtain ⟨i,rfl,_,h6,_⟩:=hin a hb
     have h7:=h.zr _ ha
     rw [Int.toNat_natCast] at h7
     exact h6 h7
 · rw [Z3G] at hp
   rcases List.mem_append.1 hp with h5 | h5
   · exact h.p.wy p h5
   · rw [List.mem_singleton.1 h5,hx]
     exact ⟨_,_,u,l,w,hw,hl,rfl⟩
 · rw [hfe,h4,List.length_append,List.length_singleton]
   have:=h.cnt;omega
 · rw [he]
   rw [hfn] at hy
   rcases List.mem_append.1 hy with h5 | h5
   · have h6:=h.zr y h5
     unfold Z7A
     rw [h6]
     cases l.any fun x=>decide (x.1=y.toNat)<;>rfl
   · obtain ⟨i,rfl,_,_,h6⟩:=hin y h5
     rw [Int.toNat_natCast];exact ZfY h6
theorem WysI.done {gs:List Gp} {S K:Nat} {fl:List Int} {pl:List PL} {F:Int} (h:WysI gs S K fl pl F) {V:List (Nat×Int)} (hs:Shn gs (fun i=>decide (na fl i≠0)) (na (Z6t fl)) S K V):(pl.length:Int)=F:=by
 have h1:=Shn.empty (f:=na fl) (by rw [Zbs];exact hs) h.flw
 have:=h.cnt;omega
theorem WysI.few {gs:List Gp} {S K:Nat} {fl:List Int} {pl:List PL} {F:Int} (h:WysI gs S K fl pl F):(pl.length:Int)≤F:=by
 have h1:=Zb0 h.flw.drc
 have:=h.cnt;omega
theorem ZfX {gs:List Gp} {S K m:Nat} (h:Cut gs S K m):m≤gs.length:=by
 obtain ⟨C,_,_,h3⟩:=h.1
 rw [← h3];exact Z1O _ _
theorem Zh4 {α:Type} {l:List α} {p q:α→Bool} (h:∀ x∈l,p x=q x):l.all p=l.all q:=by
 rw [Bool.eq_iff_iff,List.all_eq_true,List.all_eq_true]
 exact ⟨fun h1 x hx=>by rw [← h x hx];exact h1 x hx,fun h1 x hx=>by rw [h x hx];exact h1 x hx⟩
def Hse.shB (h:Hse) (fr to_ gp:List Int):Bool:=to_.all fun k=>decide (far≤wk h.gaps (msk gp) (msk fr) k.toNat)
def Hse.shE (h:Hse) (fr to_ gp:List Int):Int:=bif decide (h.botE fr to_≠0) then h.botE fr to_ else ZM (h.gaps.length:Int) gp
def Hse.shR (h:Hse) (fr to_ gp:List Int):Bool×Int:=(decide (h.shE fr to_ gp=0)&&h.shB fr to_ gp,h.shE fr to_ gp)
theorem Z91 {h:Hse} {fr to_ gp:List Int} {e:Int} (he:h.shE fr to_ gp=e) (h0:e≠0):h.shR fr to_ gp=(false,e):=by unfold Hse.shR;rw [he,decide_eq_false h0];rfl
theorem ZeT {h:Hse} {fr to_ gp:List Int} (he:h.shE fr to_ gp=0):h.shR fr to_ gp=(h.shB fr to_ gp,0):=by unfold Hse.shR;rw [he];rfl
def Zjl (e:Nat) (h:Hse) (fr to_:List Int) (H:Zf) (R:Z6):Value→Zf→Z6→Prop:=fun v H' R'=>(h.botE fr to_≠0∧v = .tuple #[.slice none 0 0,.int .i64 (h.botE fr to_)]∧H'=H∧R'=R) ∨
 (h.botE fr to_=0∧∃ (pl:List PL) (o:OSl e 1 (Zg pl)),pl.length≤10∧WysP h.gaps (msk fr) (msk to_) pl∧Cut h.gaps (msk fr) (msk to_) pl.length∧v = .tuple #[o.fs,.int .i64 0]∧H'=o.G++H∧R'=Inn pl::R)
def Zjm (h:Hse) (fr to_:List Int) (H:Zf) (R:Z6):Value→Zf→Z6→Prop:=fun v H' R'=>H'=H∧((h.botE fr to_≠0∧v = .tuple #[.slice none 0 0,.int .i64 (h.botE fr to_)]∧R'=R) ∨
 (h.botE fr to_=0∧∃ (pl:List PL) (a:Option Addr) (c:Nat),pl.length≤10∧pl.length≤c∧WysP h.gaps (msk fr) (msk to_) pl∧Cut h.gaps (msk fr) (msk to_) pl.length∧v = .tuple #[.slice a pl.length c,.int .i64 0]∧R'=RowsA a 1 (Zg pl)::Inn pl::R))
theorem ZfE (fl:List Int) (hfl:fl.length=10) (bw i:Nat) (hi:i<10) (H:Zf) (R:Z6) [mF:MemRows (some ⟨bw,0,none⟩) 10 [Zw fl] R] :
    FnV Tryz.prog 36 [.int .i64 (i:Int),.pointer (some ⟨bw,0,none⟩)] H R (.bool (!(decide (na fl i=0)))):=by
 refine Zl Tryz.func36 rfl Tryz.ntmps36 rfl ?_
 refine sqt 1 rfl (pur 1 rfl (sqt 5 rfl (pur 1 rfl (sp rfl (PE.indexArr ZcB rfl rfl (by omega) (by omega)) rfl (spL rfl rfl (lfB (sz:=10) sc3 (Z0G (w:=fl) (k:=i) (by omega) (by show 0+((i:Nat):Int).toNat*1=i;omega))) rfl (pur 2 rfl (Z5 ?_)))))))
 exact rtA rfl rfl rfl ⟨by simp [ZU],rfl,rfl⟩ drp
abbrev dkW (h:Hse) (ag as_:Option Addr) (cg cs:Nat) (bd b9:Nat) (fl:List Int):Dk:=(Dk.mk h ag as_ cg cs bd 36 [] [.pointer (some ⟨b9,0,none⟩)] (Zj8 fl) [RowsA (some ⟨b9,0,none⟩) 10 [Zw fl]])
theorem Zik (h:Hse) (ag as_:Option Addr) (cg cs:Nat) (hok:h.ok) (bd b9:Nat) (fl:List Int) (hfl:fl.length=10):(dkW h ag as_ cg cs bd b9 fl).Ok:=⟨hok,Zju,fun i H R hi hR=>by
 have hi10:i<10:=Nat.lt_of_lt_of_le hi hok.gl
 have e:(!(dkW h ag as_ cg cs bd b9 fl).cl.testBit i)=!(decide (na fl i=0)):=by
   show (!(Zj8 fl).testBit i)=_
   rw [ZaG hi10,decide_not]
 rw [e]
 haveI:MemRows (some ⟨b9,0,none⟩) 10 [Zw fl] R:=⟨hR _ (by simp)⟩
 exact ZfE fl hfl b9 i hi10 H R⟩
set_option maxHeartbeats 1000000 in
theorem Za9 (h:Hse) (ag as_:Option Addr) (cg cs:Nat) (hlg:h.gaps.length≤9223372036854775807) (hls:h.sights.length≤9223372036854775807) (fr to_:List Int) (af at_:Option Addr) (cf ct:Nat) (hlf:fr.length≤1000000) (hlt:to_.length≤1000000) (hfc:fr.length≤cf) (htc:to_.length≤ct) (H:Zf) (R:Z6) [hG:MemRows ag 2 (Z7 h.gaps) R] [hS:MemRows as_ 3 (Z8 h.sights) R] [hF:MemRows af 1 (Z3 fr) R] [hT:MemRows at_ 1 (Z3 to_) R] :
    Fn Tryz.prog 8 [h.v (h.sg ag cg) (h.ss as_ cs),.slice af fr.length cf,.slice at_ to_.length ct] H R (Zjl 22 h fr to_ H R):=by
 refine Zl Tryz.func8 rfl Tryz.ntmps8 rfl ?_
 refine sqt 3 rfl (bx rfl rfl rfl (fun b3=>pur 2 rfl (Z0 (sqt 5 rfl (spL rfl rfl (lhA (htl h (h.sg ag cg) (h.ss as_ cs)) ZA rfl rfl rfl) rfl (pur 2 rfl ?_))))))
 refine clV rfl Z9j rfl rfl (Z5h h ag as_ cg cs hlg hls fr to_ af at_ cf ct (by omega) (by omega) hfc htc _ _) ?_
 refine pur 1 rfl (sqt 2 rfl (pur 2 rfl ?_))
 refine Z1 rfl ?_ ?_<;>intro hc0
 have hbe:h.botE fr to_≠0:=of_decide_eq_true hc0
 refine sqt 3 rfl (pur 3 rfl (Z5 ?_))
 exact rtB rfl rfl rfl rfl (.inl ⟨hbe,rfl,rfl,rfl⟩) (fun w h9=>h9.del b3)
 have hbe:h.botE fr to_=0:=Classical.byContradiction fun e=>by rw [decide_eq_true e] at hc0;cases hc0
 have hb:=Z0A hbe
 obtain ⟨q1,q2,q3,q4,q5,q6⟩:=ZV hb
 have hok:=hb.ok
 have hgl:=hok.gl
 have ht:=Z3x hb
 refine Z2 (sqt 11 rfl (spL rfl rfl (lhA (htl h (h.sg ag cg) (h.ss as_ cs)) ZA rfl rfl rfl) rfl ?_))
 refine cl rfl Z5O rfl rfl (Z5K h ag as_ cg cs _ _) ?_
 rintro _ _ _ ⟨bd,rfl,rfl,rfl⟩
 refine pur 2 rfl ?_
 refine cl rfl ZhX rfl rfl (Zef (dkA h ag as_ cg cs bd) (Z0l h ag as_ cg cs hok bd) fr to_ af at_ cf ct q1 q2 q3 (by omega) hb.no _ _) ?_
 rintro _ _ R1 ⟨f0,V0,m0,rfl,rfl,hR1,hfl0,hfw0,hsh0⟩
 obtain rfl:=hR1.symm
 clear hR1
 rw [show (dkA h ag as_ cg cs bd).h.gaps=h.gaps from rfl] at hfw0
 rw [ZaR h ag as_ cg cs bd] at hsh0
 obtain ⟨hcut,_⟩:=hsh0.cut ht hfw0
 have hfull:Z1r (na f0) (msk fr) h.gaps=(Z1C (Z1F V0) h.gaps).length:=hsh0.full hfw0
 have hc10:=ZfX hcut
 have hwi:WysI h.gaps (msk fr) (msk to_) f0 [] (Z1C (Z1F V0) h.gaps).length:=⟨⟨by simp [lls],by simp [lls],by simp [lls]⟩,hfl0,hfw0,by rw [hfull];simp,by simp [lls]⟩
 refine pur 3 rfl (alc rfl Zj4 rfl (fun b9=>?_))
 refine ZdV rfl rfl rfl Zk0 rfl (by rw [Zp];exact hfl0) rfl (Z19 _) ?_
 refine pur 1 rfl (sqt 1 rfl (pur 1 rfl (Z4 ?_)))
 skip
 refine Sy.heap (fun w h9=>St.inn0 h9) ?_
 refine Ze (ι:=(x:{x:List Int×List PL // WysI h.gaps (msk fr) (msk to_) x.1 x.2 (Z1C (Z1F V0) h.gaps).length})×OSl 22 1 (Zg x.1.2)) (fun y=>⟨[(1,.slice af fr.length cf),(2,.slice at_ to_.length ct),(3,.pointer (some ⟨b3,0,none⟩)),(9,.pointer (some ⟨b9,0,none⟩)),(11,y.2.fs)],(b9,cel 79 (Zw y.1.1.1))::(y.2.G++((m0,Z0Q false (vkv V0))::(b3,cel 27 (htl h (h.sg ag cg) (h.ss as_ cs)))::H)),Inn y.1.1.2::RowsA (some ⟨bd,0,none⟩) 4 [(dkA h ag as_ cg cs bd).row]::R⟩) (fun y=>(Z1C (Z1F V0) h.gaps).length-y.1.1.2.length) ⟨⟨(f0,[]),hwi⟩,OSl.nil _ _⟩ ?_ (fun y=>?_)
 exact Zi idH
 obtain ⟨⟨⟨fl,pl⟩,hwi⟩,plo⟩:=y
 dsimp only at hwi plo ⊢
 have hfl:=hwi.len
 have hpf:=hwi.few
 refine Z4 (sqt 5 rfl (spL rfl rfl (lhA (htl h (h.sg ag cg) (h.ss as_ cs)) ZA rfl rfl rfl) rfl (sp rfl (PE.makeFunc rfl rfl) rfl (sp rfl (PE.build (out:=[_,_,_,_]) Zk5 Zke rfl rfl) rfl (bx rfl rfl rfl (fun b38=>pur 1 rfl (sqt 1 rfl (alc rfl Zj4 rfl (fun b13=>Z0 (sqt 2 rfl (spL rfl rfl (lhI fl ZgW rfl rfl (hfl)) rfl (pur 1 rfl (Z4 ?_)))))))))))))
 refine Sy.heap (fun w h9=>St.rows (sz:=4) (rows:=[(dkW h ag as_ cg cs b38 b9 fl).row]) (rest:=[]) (h9.pull b38) (by simp [Dk.row])) ?_
 refine Ze (ι:={k:Nat // k≤10}) (fun k=>⟨[(1,.slice af fr.length cf),(2,.slice at_ to_.length ct),(3,.pointer (some ⟨b3,0,none⟩)),(9,.pointer (some ⟨b9,0,none⟩)),(11,plo.fs),(12,.pointer (some ⟨b38,0,none⟩)),(13,.pointer (some ⟨b13,0,none⟩)),(39,.agg (Zw fl).toArray),(40,.int .i64 (k.1:Int))],(b13,cel 79 (Zw (Zbr fl k.1)))::(b9,cel 79 (Zw fl))::(plo.G++((m0,Z0Q false (vkv V0))::(b3,cel 27 (htl h (h.sg ag cg) (h.ss as_ cs)))::H)),RowsA (some ⟨b38,0,none⟩) 4 [(dkW h ag as_ cg cs b38 b9 fl).row]::Inn pl::RowsA (some ⟨bd,0,none⟩) 4 [(dkA h ag as_ cg cs bd).row]::R⟩) (fun k=>10-k.1) ⟨0,Nat.zero_le _⟩ ?_ (fun k=>?_)
 exact Zi (fun w h9=>by dsimp only;rw [show Zw (Zbr fl 0)=Zw (List.replicate 10 0) by unfold Zbr;rw [hfl];rfl];exact h9)
 obtain ⟨k,hk⟩:=k
 dsimp only at hk ⊢
 have hnl:=Zdz (l:=fl) (k:=k) (by omega)
 have hfk:=hwi.flw.one k
 refine sqt 1 rfl (pur 1 rfl (Z0 ?_))
 refine Z1 rfl ?_ ?_<;>intro hc1<;>try simp only [cS] at hc1
 refine Z2 (Z0 (Z4 (sqt 4 rfl (pur 1 rfl ?_))))
 refine sp rfl ((PE.indexI (l:=fl) (i:=k) Zjn (Z2K 10000 3 false 1 Zdc) (fun _=>rfl) rfl rfl (by omega) (by omega)).to (Zcj (by omega))) rfl ?_
 refine pur 2 rfl (sqr 5 rfl (pur 2 rfl ?_))
 refine sp rfl ((PE.negW rfl).to (show Value.int .i64 (IntKind.i64.wrap (0-na fl k))=Value.int .i64 (-na fl k) by rcases (show na fl k = -1∨na fl k=0∨na fl k=1 by omega) with e | e | e<;>rw [e]<;>rfl)) rfl ?_
 refine sp rfl (PE.indexArr ZcB rfl rfl (by omega) (by omega)) rfl ?_
 refine ZG (l':=Zw ((Zbr fl k).set k (-na fl k))) rfl rfl rfl cn3 rfl rfl rfl (Z0T (by rw [hnl,hfl];omega) (by show 0+((k:Nat):Int).toNat*1=k;omega)) (by rw [Zp,hnl,hfl];show 0+((k:Nat):Int).toNat*1+1≤_;omega) ?_
 refine sqr 2 rfl (sp rfl (PE.add rfl rfl (by omega)) rfl (pur 1 rfl ?_))
 rw [ZdA (by omega)]
 exact Zb ⟨k+1,by omega⟩ idH
 obtain rfl:k=10:=by omega
 have hna:=Zdy fl
 rw [hfl] at hna
 rw [hna]
 refine Z9 (Za (Za (Zm (sqt 10 rfl (pur 1 rfl (spL rfl rfl (lhA (rest:=[]) (Zw (Z6t fl)) ZgW rfl (by rw [List.append_nil];rfl) (by rw [Zp];exact (by rw [Z2D];exact hfl))) rfl (pur 2 rfl ?_)))))))
 refine Z0p b9 ?_
 refine cl rfl ZhY rfl rfl (Fn.lendWO (q:=(fun v T'=>∃ (V:List (Nat×Int)) (m:Nat) (l:List (Nat×Nat)) (o:OSl 3 1 (Z3 (l.map fun x=>(x.1:Int)))),v = .tuple #[o.fs,.map (some m)]∧T'=o.G++((m,Z0Q false (vkv V))::((b13,cel 79 (Zw (Z6t fl)))::(plo.G++((m0,Z0Q false (vkv V0))::(b3,cel 27 (htl h (h.sg ag cg) (h.ss as_ cs)))::H))))∧Srch h.gaps (fun i=>!(dkW h ag as_ cg cs b38 b9 fl).cl.testBit i) (na (Z6t fl)) (msk fr) (msk to_) V∧((l=[]∧Shn h.gaps (fun i=>!(dkW h ag as_ cg cs b38 b9 fl).cl.testBit i) (na (Z6t fl)) (msk fr) (msk to_) V)∨(l≠[]∧∃ u w,WayK h.gaps (fun i=>!(dkW h ag as_ cg cs b38 b9 fl).cl.testBit i) (na (Z6t fl)) (msk fr) (msk to_) u l w)))) (sz:=10) (by rw [Zp];exact hfl) (fun B=>Fn.mono (Zei (dkW h ag as_ cg cs b38 b9 fl) (Zik h ag as_ cg cs hok b38 b9 fl hfl) (Z6t fl) (by rw [Z2D];exact hfl) fr to_ af at_ cf ct q1 q2 q3 (by omega) hb.no _ _) (by rintro v H' R' ⟨V,m,l,o,rfl,rfl,rfl,hsr,hlw⟩;exact ⟨⟨V,m,l,o,rfl,rfl,hsr,hlw.imp id fun ⟨h1,u,w,h2,_⟩=>⟨h1,u,w,h2⟩⟩,rfl⟩))) ?_
 rintro _ _ R1 ⟨T',⟨V,m,l,o,rfl,rfl,hsr,hlw⟩,rfl,hR1⟩
 obtain rfl:=hR1.symm
 clear hR1
 have hcg:∀ i,i<h.gaps.length→(!(dkW h ag as_ cg cs b38 b9 fl).cl.testBit i)=decide (na fl i≠0):=fun i hi=>ZaG (by omega)
 obtain ⟨ao,co,heo,hfz⟩:=o.freeze
 rw [irl,List.length_map] at heo
 rw [heo]
 refine Sy.heap (H':=(b9,cel 79 (Zw fl))::((m,Z0Q false (vkv V))::(b13,cel 79 (Zw (Z6t fl)))::(plo.G++((m0,Z0Q false (vkv V0))::(b3,cel 27 (htl h (h.sg ag cg) (h.ss as_ cs)))::H)))) (fun w h9=>hfz (h9.perm (List.perm_middle (l₁:=o.G) (a:=_)).symm)) ?_
 clear hfz heo
 refine pur 5 rfl (Z0 (sqt 3 rfl (pur 1 rfl (sp rfl (PE.lenSl Zy rfl) rfl (pur 1 rfl ?_)))))
 refine Z1 rfl ?_ ?_<;>intro hc2<;>try simp only [cS] at hc2
 obtain ⟨rfl,hshn⟩:=hlw.resolve_right (fun h9=>h9.1 (List.length_eq_zero_iff.1 (by omega)))
 have hdn:=hwi.done (hshn.cg hcg)
 refine sqt 3 rfl (pur 3 rfl (Z5 ?_))
 exact rtB rfl rfl rfl rfl (.inr ⟨hbe,pl,plo,by omega,hwi.p,by rw [show pl.length=(Z1C (Z1F V0) h.gaps).length by omega];exact hcut,rfl,rfl,rfl⟩) (fun w h9=>((((((h9.del b9).del m).del b13).del m0).del b3)).facts (fun g hg=>by simp only [List.mem_cons] at hg ⊢;rcases hg with h8 | h8<;>simp [h8]))
 obtain ⟨hl0,u9,w9,hwk0⟩:=hlw.resolve_left (fun h9=>by rw [h9.1] at hc2;exact hc2 rfl)
 have hwk:=hwk0.cg hcg
 have hpm:=hwi.p
 have hlr:∀ x∈l,x.1<h.gaps.length:=fun x hx=>by obtain ⟨g,_,h5,_⟩:=hwk.way.mem x hx;exact (List.getElem?_eq_some_iff.1 h5).1
 have hl10:l.length≤10:=by
   have h9:=hwk.nd.length_le_of_subset (l₂:=List.range 10) fun v hv=>by
     obtain ⟨x,hx,rfl⟩:=List.mem_map.1 hv
     have:=hlr x hx
     exact List.mem_range.2 (by omega)
   simpa using h9
 obtain ⟨P,hP⟩:∃ P:List Int,P=l.map fun x=>(x.1:Int):=⟨_,rfl⟩
 have hPl:P.length=l.length:=by rw [hP,List.length_map]
 rw [← hP]
 rw [show l.length=P.length from hPl.symm]
 have hpk:∀ (k:Nat) (x:Nat×Nat),l[k]?=some x→P[k]?=some (x.1:Int):=fun k x hx=>by rw [hP,List.getElem?_map,hx];rfl
 refine Z2 (Z0 (sqt 3 rfl (pur 1 rfl (sp rfl (PE.lenSl Zy rfl) rfl (pur 1 rfl (Z4 ?_))))))
 refine Ze (ι:={y:Nat×List Int // y.1≤l.length∧y.2.length=10∧∀ i,na y.2 i=Z7A (na fl) (l.take y.1) i}) (fun y=>⟨[(1,.slice af fr.length cf),(2,.slice at_ to_.length ct),(3,.pointer (some ⟨b3,0,none⟩)),(9,.pointer (some ⟨b9,0,none⟩)),(11,plo.fs),(16,.slice ao P.length co),(61,.slice ao P.length co),(62,.int .i64 (P.length:Int)),(63,.int .i64 (y.1.1:Int))],(b9,cel 79 (Zw y.1.2))::((m,Z0Q false (vkv V))::(b13,cel 79 (Zw (Z6t fl)))::(plo.G++((m0,Z0Q false (vkv V0))::(b3,cel 27 (htl h (h.sg ag cg) (h.ss as_ cs)))::H))),RowsA ao 1 (Z3 P)::Inn pl::RowsA (some ⟨bd,0,none⟩) 4 [(dkA h ag as_ cg cs bd).row]::R⟩) (fun y=>l.length-y.1.1) ⟨(0,fl),Nat.zero_le _,hfl,fun i=>by simp [Z7A]⟩ ?_ (fun y=>?_)
 exact Zi (fun w h9=>h9.facts (fun g hg=>by simp only [List.mem_cons] at hg ⊢;rcases hg with h8 | h8 | h8 | h8<;>simp [h8]))
 obtain ⟨⟨k,f2⟩,hk,hf2,hdl⟩:=y
 dsimp only at hk hf2 hdl ⊢
 refine sqt 1 rfl (pur 1 rfl (Z0 ?_))
 refine Z1 rfl ?_ ?_<;>intro hc3<;>try simp only [cS] at hc3
 obtain ⟨x,hx⟩:∃ x,l[k]?=some x:=⟨_,List.getElem?_eq_getElem (by omega)⟩
 have hxr:=hlr x (List.mem_of_getElem? hx)
 obtain ⟨gi,hgi⟩:∃ gi,x.1=gi:=⟨_,rfl⟩
 have hPk:=hpk k x hx
 rw [hgi] at hPk hxr
 refine Zh (a:=ao) (sz:=1) (rows:=Z3 P) (ne0 (by rw [irl];omega)) (fun ba oa9 he=>?_)
 subst he
 refine Z2 (Z0 (Z4 (sqt 3 rfl (sp rfl (PE.indexAddr Z0c rfl rfl (by omega) (by omega)) rfl (spL rfl rfl (lf0 sc3 (ZB hPk) rfl) rfl (pur 1 rfl (sqr 3 rfl (pur 1 rfl (sp rfl (PE.indexArr ZcB rfl rfl (by omega) (by omega)) rfl ?_)))))))))
 refine ZG (l':=Zw (f2.set gi 0)) rfl rfl rfl cn3 rfl rfl rfl (Z0T (by omega) (by show 0+((gi:Nat):Int).toNat*1=gi;omega)) (by rw [Zp,hf2];show 0+((gi:Nat):Int).toNat*1+1≤_;omega) ?_
 refine sqr 2 rfl (sp rfl (PE.add rfl rfl (by omega)) rfl (pur 1 rfl ?_))
 exact Zc ⟨(k+1,f2.set gi 0),by dsimp only;omega,by dsimp only;rw [List.length_set];exact hf2,fun i=>by
   dsimp only
   rw [Z3h (by omega),hdl]
   unfold Z7A
   rw [Z4V hx,List.any_append]
   by_cases e:gi=i
   · subst e;simp [hgi]
   · rw [decide_eq_false e,cond_false]
     have:([x].any fun x=>decide (x.1=i))=false:=by simp [hgi,e]
     rw [this,Bool.or_false]⟩ (by dsimp only;omega) sbA idH
 obtain rfl:k=l.length:=by omega
 rw [List.take_length] at hdl
 have hmore:=hwi.more ht hwk hl0 hf2 hdl (x:=⟨ao,co,P⟩) hP
 have hmf:=hmore.few
 rw [List.length_append,List.length_singleton] at hmf
 refine Z9 (Za (Za (Zm (sqr 5 rfl (pur 2 rfl ?_)))))
 skip
 refine bsl (out:=[_]) rfl Z7T Z5c rfl rfl rfl rfl rfl rfl (fun b72=>?_)
 refine apO (plo) rfl Zh6 rfl rfl (Z02 (row:=Z3j ⟨ao,co,P⟩) rfl) rfl rfl ((by rw [Zt];simp only [List.length_singleton];omega)) rfl (fun o73=>?_)
 refine pur 1 rfl ?_
 exact Zd ⟨⟨(f2,pl++[⟨ao,co,P⟩]),hmore⟩,o73.cast (Z1Q pl ⟨ao,co,P⟩)⟩ (by dsimp only;rw [List.length_append,List.length_singleton];omega) (fun w h9=>(St.innSnoc (l:=pl) ⟨ao,co,P⟩ ((((h9.del b72).del m).del b13).pull b9)).facts (fun g hg=>by simp only [List.mem_cons] at hg ⊢;rcases hg with h8 | h8 | h8<;>simp [h8]))
theorem Zhe (h:Hse) (ag as_:Option Addr) (cg cs:Nat) (hlg:h.gaps.length≤9223372036854775807) (hls:h.sights.length≤9223372036854775807) (fr to_:List Int) (af at_:Option Addr) (cf ct:Nat) (hlf:fr.length≤1000000) (hlt:to_.length≤1000000) (hfc:fr.length≤cf) (htc:to_.length≤ct) (H:Zf) (R:Z6) [hG:MemRows ag 2 (Z7 h.gaps) R] [hS:MemRows as_ 3 (Z8 h.sights) R] [hF:MemRows af 1 (Z3 fr) R] [hT:MemRows at_ 1 (Z3 to_) R]:Fn Tryz.prog 8 [h.v (h.sg ag cg) (h.ss as_ cs),.slice af fr.length cf,.slice at_ to_.length ct] H R (Zjm h fr to_ H R) :=
 Fn.weakH (Za9 h ag as_ cg cs hlg hls fr to_ af at_ cf ct hlf hlt hfc htc H R) fun v H' R' hq=>by
   rcases hq with ⟨h1,rfl,rfl,rfl⟩ | ⟨h1,pl,o,h2,h3,h4,rfl,rfl,rfl⟩
   · exact ⟨_,_,⟨rfl,.inl ⟨h1,rfl,rfl⟩⟩,fun w h=>h⟩
   · obtain ⟨ap,cp,he,hcp,hf⟩:=o.freezeC
     rw [Zt] at hcp
     rw [he,Zt]
     exact ⟨_,_,⟨rfl,.inr ⟨h1,pl,ap,cp,h2,hcp,h3,h4,rfl,rfl⟩⟩,fun w h=>hf h⟩
theorem ZcR (gp:List Int) (ga:Option Addr) (gc bg9:Nat) (hgl:gp.length≤1000000) (i:Int) (H:Zf) (R:Z6) [mB:MemRows (some ⟨bg9,0,none⟩) 1 [[.slice ga gp.length gc]] R] [mG:MemRows ga 1 (Z3 gp) R] :
    FnV Tryz.prog 139 [.int .i64 i,.pointer (some ⟨bg9,0,none⟩)] H R (.bool (!(ZH gp i))):=by
 refine Zl Tryz.func139 rfl Tryz.ntmps139 rfl ?_
 refine sqt 1 rfl (pur 1 rfl (sqt 5 rfl (spL rfl rfl (lfB (sz:=1) Z1t rfl) rfl (pur 1 rfl ?_))))
 refine clV rfl Z6H rfl rfl (Z08 gp ga gc i (by omega) _ _) ?_
 refine pur 2 rfl (Z5 ?_)
 exact rtA rfl rfl rfl ⟨rfl,rfl,rfl⟩ drp
theorem ZcS (ws:List Int) (bw:Nat) (hws:ws.length=7) (x:Int) (hx:0≤x∧x<7) (H:Zf) (R:Z6) [hM:Mem1 bw (cel 146 (Zw ws)) H] :
    FnV Tryz.prog 140 [.int .i64 x,.pointer (some ⟨bw,0,none⟩)] H R (.bool (decide (far≤na ws x.toNat))):=by
 refine Zl Tryz.func140 rfl Tryz.ntmps140 rfl ?_
 refine sqt 1 rfl ?_
 obtain ⟨u,rfl⟩:∃ u:Nat,x=u:=⟨x.toNat,by omega⟩
 rw [Int.toNat_natCast]
 refine pur 1 rfl (sqt 5 rfl (pur 1 rfl (sp rfl (PE.indexArr Z56 rfl rfl (by omega) (by omega)) rfl (spL rfl rfl (lh sc3 rfl (Z0G (w:=ws) (k:=u) (by omega) (by show 0+((u:Nat):Int).toNat*1=u;omega))) rfl (pur 2 rfl (Z5 ?_))))))
 exact rtA rfl rfl rfl ⟨rfl,rfl,rfl⟩ drp
abbrev dkS (h:Hse) (ag as_:Option Addr) (cg cs:Nat) (bd b7:Nat) (gp:List Int) (ga:Option Addr) (gc:Nat):Dk:=Dk.mk h ag as_ cg cs bd 139 [] [.pointer (some ⟨b7,0,none⟩)] (msk gp) [RowsA (some ⟨b7,0,none⟩) 1 [[.slice ga gp.length gc]],RowsA ga 1 (Z3 gp)]
theorem Zij (h:Hse) (ag as_:Option Addr) (cg cs:Nat) (hok:h.ok) (bd b7:Nat) (gp:List Int) (ga:Option Addr) (gc:Nat) (hgl:gp.length≤1000000) (hg0:∀ x∈gp,0≤x):(dkS h ag as_ cg cs bd b7 gp ga gc).Ok:=⟨hok,ZhP,fun i H R hi hR=>by
 have e:(!(dkS h ag as_ cg cs bd b7 gp ga gc).cl.testBit i)=!(ZH gp i):=by
   show (!(msk gp).testBit i)=_
   rw [Z2k hg0]
 rw [e]
 haveI:MemRows (some ⟨b7,0,none⟩) 1 [[.slice ga gp.length gc]] R:=⟨hR _ (by simp)⟩
 haveI:MemRows ga 1 (Z3 gp) R:=⟨hR _ (by simp)⟩
 exact ZcR gp ga gc b7 hgl i H R⟩
theorem ZfD (h:Hse) (ag as_:Option Addr) (cg cs:Nat) (hok:h.ok) (fr to_ gp:List Int) (af at_ ga:Option Addr) (cf ct gc:Nat) (q1:∀ x∈fr,0≤x∧x<7) (q2:∀ x∈to_,0≤x∧x<7) (hlf:fr.length≤1000000) (hlt:to_.length≤1000000) (hgl:gp.length≤1000000) (hg0:∀ x∈gp,0≤x) (H:Zf) (R:Z6) [hG:MemRows ag 2 (Z7 h.gaps) R] [hS:MemRows as_ 3 (Z8 h.sights) R] [hF:MemRows af 1 (Z3 fr) R] [hT:MemRows at_ 1 (Z3 to_) R] [hGp:MemRows ga 1 (Z3 gp) R] :
    FnV Tryz.prog 122 [h.v (h.sg ag cg) (h.ss as_ cs),.slice af fr.length cf,.slice at_ to_.length ct,.slice ga gp.length gc] H R (.bool (h.shB fr to_ gp)):=by
 refine Zl Tryz.func122 rfl Tryz.ntmps122 rfl ?_
 refine sqt 3 rfl (bx rfl rfl rfl (fun b4=>bx rfl rfl rfl (fun b7=>pur 1 rfl (sqt 5 rfl (spL rfl rfl (lhA (htl h (h.sg ag cg) (h.ss as_ cs)) ZA rfl rfl rfl) rfl (sp rfl (PE.makeFunc rfl rfl) rfl (sp rfl (PE.build (out:=[_,_,_,_]) Zk5 Zke rfl rfl) rfl (bx rfl rfl rfl (fun b14=>pur 1 rfl (sqt 5 rfl ?_))))))))))
 refine Sy.heap (fun w h9=>St.rows (sz:=1) (rows:=[[.slice ga gp.length gc]]) (rest:=[]) (h9.pull b7) (by simp)) ?_
 refine Sy.heap (fun w h9=>St.rows (sz:=4) (rows:=[(dkS h ag as_ cg cs b14 b7 gp ga gc).row]) (rest:=[]) (h9.pull b14) (by simp [Dk.row])) ?_
 refine pur 2 rfl ?_
 refine clV rfl Z6E rfl rfl (Z4x (dkS h ag as_ cg cs b14 b7 gp ga gc) (Zij h ag as_ cg cs hok b14 b7 gp ga gc hgl hg0) fr af cf (by omega) q1 _ _) ?_
 refine alc rfl Z80 rfl (fun b10=>?_)
 refine ZdV rfl rfl rfl Z9p rfl (by rw [Zp,Z05]) rfl (Z19 _) ?_
 refine sqt 4 rfl (pur 1 rfl (sp rfl (PE.makeFunc rfl rfl) rfl ?_))
 refine clV rfl ZfK rfl rfl (Z2S to_ at_ ct 140 [] [_] (fun k=>decide (far≤na (wks h.gaps (msk gp) (msk fr)) k.toNat)) ZhQ (by omega) _ _ (fun _ x hx=>ZcS (wks h.gaps (msk gp) (msk fr)) b10 (Z05 _ _ _) x (q2 x hx) _ _)) ?_
 refine pur 1 rfl (Z5 ?_)
 exact rtA rfl rfl rfl ⟨by simp only [ZU];unfold Hse.shB;congr 1;exact Zh4 fun x hx=>by rw [Z1I (by have:=q2 x hx;omega)],rfl,rfl⟩ (fun w h9=>St.sub ((h9.del b10).del b4))
theorem Zfr (h:Hse) (ag as_:Option Addr) (cg cs:Nat) (hlg:h.gaps.length≤9223372036854775807) (hls:h.sights.length≤9223372036854775807) (fr to_:List Int) (af at_:Option Addr) (cf ct:Nat) (hlf:fr.length≤1000000) (hlt:to_.length≤1000000) (hfc:fr.length≤cf) (htc:to_.length≤ct) (gp:List Int) (ga:Option Addr) (gc:Nat) (hgl9:gp.length≤1000000) (hgc:gp.length≤gc) (H:Zf) (R:Z6) [hG:MemRows ag 2 (Z7 h.gaps) R] [hS:MemRows as_ 3 (Z8 h.sights) R] [hF:MemRows af 1 (Z3 fr) R] [hT:MemRows at_ 1 (Z3 to_) R] [hGp:MemRows ga 1 (Z3 gp) R] :
    FnV Tryz.prog 73 [h.v (h.sg ag cg) (h.ss as_ cs),.slice af fr.length cf,.slice at_ to_.length ct,.slice ga gp.length gc] H R (.tuple #[.bool (h.shR fr to_ gp).1,.int .i64 (h.shR fr to_ gp).2]):=by
 refine Zl Tryz.func73 rfl Tryz.ntmps73 rfl ?_
 refine sqt 3 rfl (bx rfl rfl rfl (fun b4=>pur 2 rfl (Z0 (sqt 5 rfl (spL rfl rfl (lhA (htl h (h.sg ag cg) (h.ss as_ cs)) ZA rfl rfl rfl) rfl (pur 2 rfl ?_))))))
 refine clV rfl Z9j rfl rfl (Z5h h ag as_ cg cs hlg hls fr to_ af at_ cf ct (by omega) (by omega) hfc htc _ _) ?_
 refine pur 1 rfl (sqt 2 rfl (pur 2 rfl ?_))
 refine Z1 rfl ?_ ?_<;>intro hc0
 have hbe:h.botE fr to_≠0:=of_decide_eq_true hc0
 have he:h.shE fr to_ gp=h.botE fr to_:=by unfold Hse.shE;rw [dT hbe];rfl
 refine sqt 3 rfl (pur 3 rfl (Z5 ?_))
 exact rtB rfl rfl rfl rfl ⟨by rw [Z91 (he) (hbe)]<;>rfl,rfl,rfl⟩ (fun w h9=>h9.del b4)
 have hbe:h.botE fr to_=0:=Classical.byContradiction fun e=>by rw [decide_eq_true e] at hc0;cases hc0
 have hb:=Z0A hbe
 obtain ⟨q1,q2,q3,q4,q5,q6⟩:=ZV hb
 have hok:=hb.ok
 have hgl:=hok.gl
 have he:h.shE fr to_ gp=ZM (h.gaps.length:Int) gp:=by unfold Hse.shE;rw [hbe];rfl
 refine Z2 (Z0 (sqt 5 rfl (pur 1 rfl (spL rfl rfl (lhA (htl h (h.sg ag cg) (h.ss as_ cs)) ZA rfl rfl rfl) rfl (sp rfl (PE.makeFunc rfl rfl) rfl ?_)))))
 refine clV rfl Z9n rfl rfl (Z2x gp ga gc 83 [h.v (h.sg ag cg) (h.ss as_ cs)] [] (fun k=>inB k 0 ((h.gaps.length:Int)-1)) ZaD (by omega) hgc _ _ (fun _ z _=>Zaj h (by omega) ag cg (h.ss as_ cs) z _ _)) ?_
 refine pur 1 rfl (sqt 2 rfl (pur 2 rfl ?_))
 refine Z1 rfl ?_ ?_<;>intro hc1<;>try simp only [cS] at hc1
 have hle:ZM h.gaps.length gp≠0:=hc1
 refine sqt 3 rfl (pur 3 rfl (Z5 ?_))
 exact rtB rfl rfl rfl rfl ⟨by rw [Z91 (he) (hle)]<;>rfl,rfl,rfl⟩ (fun w h9=>h9.del b4)
 have hle:ZM h.gaps.length gp=0:=Classical.byContradiction hc1
 rw [hle] at he
 refine Z2 (sqt 7 rfl (spL rfl rfl (lhA (htl h (h.sg ag cg) (h.ss as_ cs)) ZA rfl rfl rfl) rfl (pur 3 rfl ?_)))
 refine clV rfl ZhC rfl rfl (ZfD h ag as_ cg cs hok fr to_ gp af at_ ga cf ct gc q1 q2 hlf hlt hgl9 (fun x hx=>((ZQ hle).1 x hx).1) _ _) ?_
 refine pur 2 rfl (Z5 ?_)
 exact rtB rfl rfl rfl rfl ⟨by rw [ZeT he]<;>rfl,rfl,rfl⟩ (fun w h9=>h9.del b4)
theorem ZfI:cal Tryz.prog 70=true:=by kernel_rfl
theorem Z6o (gs:List Gp) (c S k:Nat):wkC gs c S k<0↔far≤wk gs c S k:=by
 unfold wkC
 by_cases h:far≤wk gs c S k
 · rw [decide_eq_true h];exact ⟨fun _=>h,fun _=>by rw [cond_true];decide⟩
 · rw [decide_eq_false h]
   have:=Z6p gs c S k
   exact ⟨fun h1=>by rw [cond_false] at h1;omega,fun h1=>absurd h1 h⟩
theorem Zgy {h:Hse} {fr to_ gp:List Int} (hn:∀ x∈to_,wkC h.gaps (msk gp) (msk fr) x.toNat<0):h.shB fr to_ gp=true:=by
 unfold Hse.shB
 exact List.all_eq_true.2 fun x hx=>decide_eq_true ((Z6o _ _ _ _).1 (hn x hx))
theorem ZiN {h:Hse} {fr to_ gp:List Int} {x:Int} (hx:x∈to_) (hn:¬ wkC h.gaps (msk gp) (msk fr) x.toNat<0):h.shB fr to_ gp=false:=by
 unfold Hse.shB
 exact List.all_eq_false.2 ⟨x,hx,by rw [decide_eq_false fun h9=>hn ((Z6o _ _ _ _).2 h9)];decide⟩
theorem Z7S {h:Hse} {fr to_ gp:List Int} (hw:Wth h.gaps 7) (hS:msk fr<2 ^ 7) (hK:msk to_<2 ^ 7) (ht:∀ x∈to_,0≤x):h.shB fr to_ gp=true↔Shut h.gaps (msk gp) (msk fr) (msk to_):=by
 rw [ZgB hw hS hK]
 unfold Hse.shB
 rw [List.all_eq_true]
 constructor
 · intro h1 k hk
   have h2:=of_decide_eq_true (h1 (k:Int) ((ZK ht k).1 hk))
   rw [Int.toNat_natCast] at h2
   exact (Z6o _ _ _ _).2 h2
 · intro h1 x hx
   refine decide_eq_true ((Z6o _ _ _ _).1 (h1 x.toNat ?_))
   rw [ZK ht,show ((x.toNat:Nat):Int)=x by have:=ht x hx;omega];exact hx
def ZdW (now:List Int) (g:Gp):List Int:=bif ZH now g.a then [g.b] else []
def Zc2 (now:List Int) (g:Gp):List Int:=ZdW now g++(bif ZH now g.b then [g.a] else [])
theorem ZdX (now:List Int) (g:Gp):(ZdW now g).length≤1∧(Zc2 now g).length≤2:=by
 unfold Zc2 ZdW
 cases ZH now g.a<;>cases ZH now g.b<;>simp
theorem ZdY {now:List Int} {g:Gp} {z:Int}:z∈Zc2 now g↔(g.a∈now∧z=g.b)∨(g.b∈now∧z=g.a):=by
 unfold Zc2 ZdW
 rw [List.mem_append]
 have key:∀ (a b:Int),(z∈(bif ZH now a then [b] else []))↔(a∈now∧z=b):=fun a b=>by
   cases h1:ZH now a with
   | true=>rw [cond_true,List.mem_singleton];exact ⟨fun h2=>⟨hasI_iff.1 h1,h2⟩,fun h2=>h2.2⟩
   | false=>rw [cond_false];exact ⟨fun h2=>absurd h2 List.not_mem_nil,fun h2=>by rw [hasI_iff.2 h2.1] at h1;cases h1⟩
 rw [key,key]
theorem Ze6 {gs:List Gp} {fr p now:List Int} {q:Nat} {g:Gp} (hg:gs[q]?=some g) (h:∀ z,z∈now↔z∈Z2i gs 0 fr p):∀ z,z∈Zc2 now g↔z∈Z2i gs 0 fr (p++[(q:Int)]):=fun z=>by
 rw [ZdY,Z3t,List.mem_filterMap,Int.toNat_natCast]
 constructor
 · rintro (⟨h1,rfl⟩ | ⟨h1,rfl⟩)
   · exact ⟨g.a,(h _).1 h1,by rw [Z5m hg (Nat.zero_testBit _) (.inl rfl)];exact congrArg some (by omega)⟩
   · exact ⟨g.b,(h _).1 h1,by rw [Z5m hg (Nat.zero_testBit _) (.inr rfl)];exact congrArg some (by omega)⟩
 · rintro ⟨b,h1,h2⟩
   by_cases e:g.a=b∨g.b=b
   · rw [Z5m hg (Nat.zero_testBit _) e] at h2
     injection h2 with h2
     rcases e with e | e
     · exact .inl ⟨(h _).2 (by rw [e];exact h1),by omega⟩
     · exact .inr ⟨(h _).2 (by rw [e];exact h1),by omega⟩
   · rw [ZaV hg (.inr ⟨fun h3=>e (.inl h3),fun h3=>e (.inr h3)⟩)] at h2;cases h2
theorem Zfa {l l':List Int} {p:Int→Bool} (h:∀ z,z∈l↔z∈l'):l.any p=l'.any p:=by
 rw [Bool.eq_iff_iff,List.any_eq_true,List.any_eq_true]
 exact ⟨fun ⟨x,h1,h2⟩=>⟨x,(h x).1 h1,h2⟩,fun ⟨x,h1,h2⟩=>⟨x,(h x).2 h1,h2⟩⟩
theorem Zgc {h:Hse} {fr to_:List Int} {ls:List (List Int)} (h0:h.botE fr to_=0) (h1:ZM h.gaps.length ls.flatten≠0):h.ledE fr to_ ls=ZM h.gaps.length ls.flatten∧h.ledR fr to_ ls=0:=by
 have e:h.ledE fr to_ ls=ZM h.gaps.length ls.flatten:=by unfold Hse.ledE;rw [h0,decide_eq_true h1];rfl
 exact ⟨e,Z3E e h1⟩
theorem Zbe {h:Hse} {fr to_:List Int} {ls:List (List Int)} {l:List Int} (h0:h.botE fr to_=0) (h1:ZM h.gaps.length ls.flatten=0) (hl:l∈ls) (h2:Z59 h.gaps 0 fr to_ l=false):h.ledE fr to_ ls=8∧h.ledR fr to_ ls=0:=by
 have e:h.ledE fr to_ ls=8:=by
   unfold Hse.ledE
   have:(ls.all fun l=>Z59 h.gaps 0 fr to_ l)=false:=List.all_eq_false.2 ⟨l,hl,by rw [h2];decide⟩
   rw [h0,h1,this];rfl
 exact ⟨e,Z3E e (by decide)⟩
theorem Zbf {h:Hse} {fr to_:List Int} {ls:List (List Int)} (h0:h.botE fr to_=0) (h1:ZM h.gaps.length ls.flatten=0) (h2:∀ l∈ls,Z59 h.gaps 0 fr to_ l=true):h.ledE fr to_ ls=0∧h.ledR fr to_ ls=ls.length:=by
 have e:h.ledE fr to_ ls=0:=by
   unfold Hse.ledE
   rw [h0,h1,List.all_eq_true.2 h2];rfl
 exact ⟨e,by unfold Hse.ledR;rw [e];rfl⟩
theorem Z9V {l:List Int} {p:Int→Bool} {k:Nat} {x:Int} (h:l[k]?=some x):(l.take (k+1)).any p=((l.take k).any p||p x):=by rw [List.take_add_one,h,List.any_append];simp
set_option maxHeartbeats 600000 in
theorem Z5N (h:Hse) (ag as_:Option Addr) (cg cs:Nat) (hok:h.ok) (fr to_ gp:List Int) (af at_ ga:Option Addr) (cf ct gc:Nat) (hfr:ZM h.bins fr=0) (hto:∀ x∈to_,0≤x∧x<h.bins) (hg0:∀ x∈gp,0≤x) (htl9:to_.length≤1000000) (hgl9:gp.length≤1000000) (H:Zf) (R:Z6) [hG:MemRows ag 2 (Z7 h.gaps) R] [hF:MemRows af 1 (Z3 fr) R] [hT:MemRows at_ 1 (Z3 to_) R] [hGp:MemRows ga 1 (Z3 gp) R] :
    FnV Tryz.prog 70 [h.v (h.sg ag cg) (h.ss as_ cs),.slice af fr.length cf,.slice at_ to_.length ct,.slice ga gp.length gc] H R (.bool (h.shB fr to_ gp)):=by
 refine Zl Tryz.func70 rfl Tryz.ntmps70 rfl ?_
 refine sqt 2 rfl ?_
 have hbn:=hok.bins
 refine bx rfl rfl rfl (fun b4=>pur 1 rfl (sqt 5 rfl (spL rfl rfl (lhA (htl h (h.sg ag cg) (h.ss as_ cs)) Z1q rfl rfl rfl) rfl (pur 2 rfl ?_))))
 refine cl rfl Z7w rfl rfl (Z1X h ag as_ cg cs hok fr gp af ga cf gc hfr hg0 hgl9 _ _) ?_
 rintro _ _ R1 ⟨wa,wc,rfl,rfl,hR1⟩
 obtain rfl:=hR1.symm
 clear hR1
 obtain ⟨W,hW⟩:∃ W,W=(wkL h.gaps (msk gp) (msk fr) h.bins.toNat):=⟨_,rfl⟩
 have hWl:W.length=h.bins.toNat:=by rw [hW,Z14]
 rw [← hW,← hWl]
 refine pur 1 rfl (Z0 (sqt 1 rfl (pur 1 rfl (Z4 ?_))))
 refine Ze (ι:={k:Nat // k≤to_.length∧∀ x∈to_.take k,wkC h.gaps (msk gp) (msk fr) x.toNat<0}) (fun k=>⟨[(2,.slice at_ to_.length ct),(4,.pointer (some ⟨b4,0,none⟩)),(9,.slice wa W.length wc),(10,.int .i64 (k.1:Int))],(b4,cel 57 (htl h (h.sg ag cg) (h.ss as_ cs)))::H,RowsA wa 1 (Z3 W)::R⟩) (fun k=>to_.length-k.1) ⟨0,Nat.zero_le _,by simp⟩ ?_ (fun k=>?_)
 exact Zi idH
 obtain ⟨k,hk,hn⟩:=k
 dsimp only at hk hn ⊢
 refine Z0 (sqt 4 rfl (pur 2 rfl (sp rfl (PE.lenSl Zy rfl) rfl (pur 1 rfl ?_))))
 refine Z1 rfl ?_ ?_<;>intro hc0<;>try simp only [cS] at hc0
 obtain ⟨x,hx⟩:∃ x,to_[k]?=some x:=⟨_,List.getElem?_eq_getElem (by omega)⟩
 have hxm:=List.mem_of_getElem? hx
 have hxb:=hto x hxm
 obtain ⟨u,rfl⟩:∃ u:Nat,x=u:=⟨x.toNat,by omega⟩
 have hub:u<h.bins.toNat:=by omega
 obtain ⟨y,hy⟩:∃ y,W[u]?=some y:=⟨_,List.getElem?_eq_getElem (by omega)⟩
 have hyc:y=wkC h.gaps (msk gp) (msk fr) u:=by rw [← Z1n hy,hW,Z50 hub]
 refine Zh (a:=at_) (sz:=1) (rows:=Z3 to_) (ne0 (by rw [irl];omega)) (fun bt ot he=>?_)
 subst he
 refine Zh (a:=wa) (sz:=1) (rows:=Z3 W) (ne0 (by rw [irl];omega)) (fun bw ow he=>?_)
 subst he
 refine Z2 (Z0 (Z4 (sqt 8 rfl (pur 3 rfl (sp rfl (PE.indexAddr Z0c rfl rfl (by omega) (by omega)) rfl (spL rfl rfl (lf0 sc3 (ZB hx) rfl) rfl (sp rfl (PE.indexAddr Z0c rfl rfl (by omega) (by omega)) rfl (spL rfl rfl (lf0 sc3 (ZB hy) rfl) rfl (pur 1 rfl ?_)))))))))
 refine Z1 rfl ?_ ?_<;>intro hc1<;>try simp only [cS] at hc1
 have hnn:=ZiN (h:=h) (fr:=fr) (gp:=gp) hxm (by rw [Int.toNat_natCast,← hyc];omega)
 refine sqt 1 rfl (pur 1 rfl (Z5 ?_))
 exact rtA rfl rfl rfl ⟨by simp only [ZU];rw [hnn],rfl,rfl⟩ (fun w h9=>St.sub ((h9.del b4).ftail))
 refine Z2 (sqr 3 rfl (pur 1 rfl (sp rfl (PE.add rfl rfl (by omega)) rfl (pur 1 rfl ?_))))
 exact Zc ⟨k+1,by omega,fun z hz=>by
   rw [List.take_add_one,hx] at hz
   rcases List.mem_append.1 hz with h1 | h1
   · exact hn z h1
   · rw [List.mem_singleton.1 h1,Int.toNat_natCast,← hyc];omega⟩ (by dsimp only;omega) sbA idH
 obtain rfl:k=to_.length:=by omega
 rw [List.take_length] at hn
 have hyy:=Zgy hn
 refine Z9 (Za (Za (Zm (sqt 1 rfl (pur 1 rfl (Z5 ?_))))))
 exact rtA rfl rfl rfl ⟨by simp only [ZU];rw [hyy],rfl,rfl⟩ (fun w h9=>St.sub ((h9.del b4).ftail))
set_option maxHeartbeats 600000 in
theorem Zhn (h:Hse) (ag as_:Option Addr) (cg cs:Nat) (fr to_:List Int) (af at_:Option Addr) (cf ct:Nat) (hlf:fr.length≤1000000) (hlt:to_.length≤1000000) (hfc:fr.length≤cf) (htc:to_.length≤ct) (hbe:h.botE fr to_=0) (H:Zf) (R:Z6) [hG:MemRows ag 2 (Z7 h.gaps) R] [hF:MemRows af 1 (Z3 fr) R] [hT:MemRows at_ 1 (Z3 to_) R] :
    Fn Tryz.prog 72 [h.v (h.sg ag cg) (h.ss as_ cs),.slice af fr.length cf,.slice at_ to_.length ct] H R (fun v H' R'=>(∃ m:Nat,Cut h.gaps (msk fr) (msk to_) m∧v = .int .i64 (m:Int))∧H'=H∧R'=R):=by
 refine Zl Tryz.func72 rfl Tryz.ntmps72 rfl ?_
 refine sqt 2 rfl ?_
 have hb:=Z0A hbe
 obtain ⟨q1,q2,q3,q4,q5,q6⟩:=ZV hb
 have hok:=hb.ok
 have hgl:=hok.gl
 have hbn:=hok.bins
 have ht:=Z3x hb
 have hto:=(ZQ hb.ek).1
 have hp10:=Nat.pow_le_pow_right (show 0<2 by decide) hgl
 have h10:(2:Nat) ^ 10=1024:=rfl
 refine bx rfl rfl rfl (fun b3=>pur 1 rfl (sqt 4 rfl (sp rfl (PE.fA Z16 rfl) rfl (spL rfl rfl (lh Z7h rfl rfl) rfl (sp rfl (PE.lenSl Z58 rfl) rfl (pur 1 rfl (Z0 (sqt 1 rfl (pur 1 rfl (Z4 ?_))))))))))
 refine Ze (ι:={y:Nat×Nat // y.1≤2 ^ h.gaps.length∧CtI h.gaps (msk fr) (msk to_) y.1 y.2}) (fun y=>⟨[(1,.slice af fr.length cf),(2,.slice at_ to_.length ct),(3,.pointer (some ⟨b3,0,none⟩)),(7,.int .i64 (y.1.2:Int)),(8,.int .i64 (y.1.1:Int))],(b3,cel 57 (htl h (h.sg ag cg) (h.ss as_ cs)))::H,R⟩) (fun y=>2 ^ h.gaps.length-y.1.1) ⟨(0,h.gaps.length),Nat.zero_le _,CtI.start _ _ _⟩ ?_ (fun y=>?_)
 exact Zi idH
 obtain ⟨⟨s,b⟩,hs,hct⟩:=y
 dsimp only at hs hct ⊢
 refine Z0 (sqt 6 rfl (pur 1 rfl (sp rfl (PE.fA Z16 rfl) rfl (spL rfl rfl (lh Z7h rfl rfl) rfl (sp rfl (PE.lenSl Z58 rfl) rfl ?_)))))
 refine clV rfl Z7y rfl rfl (Z2T h.gaps.length (by omega) _ _) ?_
 refine pur 1 rfl ?_
 refine Z1 rfl ?_ ?_<;>intro hc0<;>try simp only [cS] at hc0
 have hsl:s<2 ^ h.gaps.length:=by omega
 have hs10:s<2 ^ 10:=by omega
 have hcnt:(Zs s).length=cnt h.gaps.length s:=Z2C hsl hgl
 have hml:=Z22 s
 have hmm:=Z1x hs10
 refine Z2 (Z0 (Z4 (sqt 3 rfl (pur 1 rfl ?_))))
 refine cl rfl Z9m rfl rfl (Z3y s hs10 _ _) ?_
 rintro _ _ R1 ⟨o22,rfl,rfl,hR1⟩
 obtain rfl:=hR1.symm
 clear hR1
 obtain ⟨al,cl9,he,hcl9,hzz⟩:=o22.freezeC
 rw [irl] at hcl9
 rw [he,irl]
 refine Sy.heap (H':=_) (fun w h9=>hzz h9) ?_
 clear he hzz
 refine pur 1 rfl (sqt 11 rfl (pur 1 rfl (sp rfl (PE.lenSl Zy rfl) rfl (pur 3 rfl ?_))))
 refine Zj 27 rfl ?_ ?_<;>intro g27
 try simp only [cS] at g27
 refine Z0m rfl rfl rfl rfl rfl (lhA (htl h (h.sg ag cg) (h.ss as_ cs)) Z1q rfl rfl rfl) rfl (pur 3 rfl ?_)
 refine Z0C rfl rfl rfl rfl ZfI rfl rfl (Z5N h ag as_ cg cs hok fr to_ (Zs s) af at_ al cf ct cl9 hb.el hto (fun x hx=>by obtain ⟨j,_,_,rfl⟩:=memL_bit.1 hx;omega) (by omega) (by omega) _ _) ?_
 refine pur 1 rfl ?_
 refine Z1 rfl ?_ ?_<;>intro hc1<;>try simp only [cS] at hc1
 have hsh:=(Z7S ht.w ht.s ht.k (fun x hx=>(q2 x hx).1)).1 hc1
 rw [hmm] at hsh
 refine sqr 3 rfl (pur 1 rfl (sp rfl (PE.lenSl Zy rfl) rfl (pur 1 rfl (sqr 3 rfl (pur 1 rfl (sp rfl (PE.add rfl rfl (by omega)) rfl (pur 1 rfl ?_)))))))
 rw [hcnt]
 exact Zb ⟨(s+1,cnt h.gaps.length s),by dsimp only;omega,hct.take (by omega) hsh⟩ (fun w h9=>h9.ftail)
 have hsh:¬ Shut h.gaps s (msk fr) (msk to_):=fun e=>by
   have e2:=(Z7S (gp:=Zs s) ht.w ht.s ht.k (fun x hx=>(q2 x hx).1)).2 (by rw [hmm];exact e)
   rw [e2] at hc1;cases hc1
 refine Z2 (sqr 3 rfl (pur 1 rfl (sp rfl (PE.add rfl rfl (by omega)) rfl (pur 1 rfl ?_))))
 exact Zb ⟨(s+1,b),by dsimp only;omega,hct.skip (.inr hsh)⟩ (fun w h9=>h9.ftail)
 try simp only [cS] at g27
 refine pur 6 rfl ?_
 refine Zz rfl ?_
 refine Z2 (sqr 3 rfl (pur 1 rfl (sp rfl (PE.add rfl rfl (by omega)) rfl (pur 1 rfl ?_))))
 exact Zb ⟨(s+1,b),by dsimp only;omega,hct.skip (.inl (by omega))⟩ (fun w h9=>h9.ftail)
 obtain rfl:s=2 ^ h.gaps.length:=by omega
 have hcut:=hct.done ht
 refine Z9 (Za (Za (Zm (sqt 2 rfl (pur 2 rfl (Z5 ?_))))))
 exact rtA rfl rfl rfl ⟨⟨b,hcut,rfl⟩,rfl,rfl⟩ (fun w h9=>h9.del b3)
set_option maxHeartbeats 1000000 in
theorem Z8g (h:Hse) (ag as_:Option Addr) (cg cs:Nat) (fr to_:List Int) (af at_:Option Addr) (cf ct:Nat) (hlf:fr.length≤1000000) (hlt:to_.length≤1000000) (hfc:fr.length≤cf) (htc:to_.length≤ct) (hbe:h.botE fr to_=0) (pl:List PL) (ap:Option Addr) (cp:Nat) (hpl:pl.length≤1000000) (htot:(lls pl).flatten.length≤1000000) (H:Zf) (R:Z6) [hG:MemRows ag 2 (Z7 h.gaps) R] [hF:MemRows af 1 (Z3 fr) R] [hT:MemRows at_ 1 (Z3 to_) R] [hP:MemRows ap 1 (Zg pl) R] [hI:MemF (Inn pl) R] :
    FnV Tryz.prog 71 [h.v (h.sg ag cg) (h.ss as_ cs),.slice af fr.length cf,.slice at_ to_.length ct,.slice ap pl.length cp] H R (.tuple #[.int .i64 (h.ledR fr to_ (lls pl)),.int .i64 (h.ledE fr to_ (lls pl))]):=by
 refine Zl Tryz.func71 rfl Tryz.ntmps71 rfl ?_
 refine sqt 3 rfl ?_
 have hb:=Z0A hbe
 obtain ⟨q1,q2,q3,q4,q5,q6⟩:=ZV hb
 have hok:=hb.ok
 have hgl:=hok.gl
 have hll:=Z04 pl
 have hxl:∀ x∈pl,x.l.length≤1000000:=fun x hx=>by
   have hm:x.l∈lls pl:=List.mem_map.2 ⟨x,hx,rfl⟩
   have:=List.Sublist.length_le (List.sublist_flatten_of_mem hm)
   omega
 refine bx rfl rfl rfl (fun b4=>pur 2 rfl (sqt 1 rfl (pur 1 rfl (Z0 (sqt 1 rfl (pur 1 rfl (Z4 ?_)))))))
 refine Ze (ι:=(k:{k:Nat // k≤pl.length})×OSl 3 1 (Z3 (Z2h pl k.1))) (fun y=>⟨[(1,.slice af fr.length cf),(2,.slice at_ to_.length ct),(3,.slice ap pl.length cp),(4,.pointer (some ⟨b4,0,none⟩)),(10,y.2.fs),(11,.int .i64 (y.1.1:Int))],y.2.G++((b4,cel 57 (htl h (h.sg ag cg) (h.ss as_ cs)))::H),R⟩) (fun y=>pl.length-y.1.1) ⟨⟨0,Nat.zero_le _⟩,OSl.nil _ _⟩ ?_ (fun y=>?_)
 exact Zi idH
 obtain ⟨⟨k,hk⟩,o⟩:=y
 dsimp only at hk o ⊢
 have hct:=Z0B pl k
 have hct2:=Z0B pl (k+1)
 refine Z0 (sqt 4 rfl (pur 2 rfl (sp rfl (PE.lenSl Z0J rfl) rfl (pur 1 rfl ?_))))
 refine Z1 rfl ?_ ?_<;>intro hc0<;>try simp only [cS] at hc0
 obtain ⟨x,hx⟩:∃ x,pl[k]?=some x:=⟨_,List.getElem?_eq_getElem (by omega)⟩
 have hst:=Z1h hx
 have hsl:=congrArg List.length hst
 rw [List.length_append] at hsl
 refine Sy.heap (fun w h9=>St.inn (x:=x) h9 (List.mem_of_getElem? hx)) ?_
 refine Zh (a:=ap) (sz:=1) (rows:=Zg pl) (ne0 (by rw [Zt];omega)) (fun bp op9 he=>?_)
 subst he
 refine Z2 (Z0 (Z4 (sqr 7 rfl (pur 3 rfl (sp rfl (PE.indexAddr Z4A rfl rfl (by omega) (by omega)) rfl (spL rfl rfl (lf0 Z1t (Z0M hx) rfl) rfl ?_))))))
 refine apO (news:=Z3 x.l) o rfl Z1v rfl rfl (Z2o) (irl _) (by simp [ZO,Z3,Value.oneCell']) (by rw [irl,irl];omega) rfl (fun o31=>?_)
 refine pur 1 rfl (sqr 3 rfl (pur 1 rfl (sp rfl (PE.add rfl rfl (by omega)) rfl (pur 1 rfl ?_))))
 exact Zb ⟨⟨k+1,by omega⟩,o31.cast (by rw [hst];simp [Z3])⟩ (fun w h9=>h9.ftail)
 obtain rfl:k=pl.length:=by omega
 obtain ⟨a9,c9,he,hc9,hzz⟩:=(o.cast (show _=Z3 (lls pl).flatten by rw [Z4a])).freezeC
 rw [irl] at hc9
 rw [show o.fs=_ from he,irl]
 refine Sy.heap (H':=_) (fun w h9=>hzz h9) ?_
 clear he hzz
 refine Z9 (Za (Za (Zm (Z0 (sqt 6 rfl (pur 1 rfl (sp rfl (PE.fA Z16 rfl) rfl (spL rfl rfl (lh Z7h rfl rfl) rfl (sp rfl (PE.lenSl Z58 rfl) rfl ?_)))))))))
 refine clV rfl Z7v rfl rfl (Z1f (lls pl).flatten a9 c9 (h.gaps.length:Int) (by omega) (by omega) hc9 _ _) ?_
 refine pur 1 rfl (sqt 2 rfl (pur 2 rfl ?_))
 refine Z1 rfl ?_ ?_<;>intro hc1<;>try simp only [cS] at hc1
 have hE:=Zgc hbe hc1
 refine sqt 3 rfl (pur 3 rfl (Z5 ?_))
 exact rtB rfl rfl rfl rfl ⟨by rw [hE.1,hE.2]<;>rfl,rfl,rfl⟩ (fun w h9=>(h9.ftail).del b4)
 have hle:ZM h.gaps.length (lls pl).flatten=0:=Classical.byContradiction hc1
 have hlx:=(ZQ hle).1
 refine Sy.heap (fun w h9=>h9.ftail) ?_
 refine Z2 (Z0 (sqt 1 rfl (pur 1 rfl (Z4 ?_))))
 refine Ze (ι:={k:Nat // k≤pl.length∧∀ l∈(lls pl).take k,Z59 h.gaps 0 fr to_ l=true}) (fun k=>⟨[(1,.slice af fr.length cf),(2,.slice at_ to_.length ct),(3,.slice ap pl.length cp),(4,.pointer (some ⟨b4,0,none⟩)),(13,.int .i64 (k.1:Int))],(b4,cel 57 (htl h (h.sg ag cg) (h.ss as_ cs)))::H,R⟩) (fun k=>pl.length-k.1) ⟨0,Nat.zero_le _,by simp⟩ ?_ (fun k=>?_)
 exact Zi idH
 obtain ⟨k,hk,hkl⟩:=k
 dsimp only at hk hkl ⊢
 refine Z0 (sqt 4 rfl (pur 2 rfl (sp rfl (PE.lenSl Z0J rfl) rfl (pur 1 rfl ?_))))
 refine Z1 rfl ?_ ?_<;>intro hc2<;>try simp only [cS] at hc2
 obtain ⟨x,hx⟩:∃ x,pl[k]?=some x:=⟨_,List.getElem?_eq_getElem (by omega)⟩
 have hxm:=List.mem_of_getElem? hx
 have hgx:=Z1m hx
 have hlm:=List.mem_of_getElem? hgx
 have hx9:=hxl x hxm
 refine Sy.heap (fun w h9=>St.inn (x:=x) h9 (List.mem_of_getElem? hx)) ?_
 refine Zh (a:=ap) (sz:=1) (rows:=Zg pl) (ne0 (by rw [Zt];omega)) (fun bp op9 he=>?_)
 subst he
 refine Z2 (Z0 (Z4 (Z0 (sqt 6 rfl (pur 2 rfl (sp rfl (PE.indexAddr Z4A rfl rfl (by omega) (by omega)) rfl (spL rfl rfl (lf0 Z1t (Z0M hx) rfl) rfl (sp rfl (PE.lenSl Zy rfl) rfl (pur 1 rfl ?_)))))))))
 refine Z1 rfl ?_ ?_<;>intro hc3<;>try simp only [cS] at hc3
 have hE:=Zbe hbe hle hlm (by unfold Z59;rw [dF (show ¬ 0<x.l.length by omega)];rfl)
 refine sqt 2 rfl (pur 2 rfl (Z5 ?_))
 exact rtB rfl rfl rfl rfl ⟨by rw [hE.1,hE.2]<;>rfl,rfl,rfl⟩ (fun w h9=>(h9.ftail).del b4)
 refine Z2 (sqt 2 rfl (pur 2 rfl (Z0 (sqt 1 rfl (pur 1 rfl (Z4 ?_))))))
 refine Ze (ι:={y:Nat×List Int×Option Addr×Nat // y.1≤x.l.length∧y.2.1.length≤7∧∀ z,z∈y.2.1↔z∈Z2i h.gaps 0 fr (x.l.take y.1)}) (fun y=>⟨[(1,.slice af fr.length cf),(2,.slice at_ to_.length ct),(3,.slice (some ⟨bp,op9,none⟩) pl.length cp),(4,.pointer (some ⟨b4,0,none⟩)),(13,.int .i64 (k:Int)),(14,.slice y.1.2.2.1 y.1.2.1.length y.1.2.2.2),(15,.int .i64 (y.1.1:Int))],(b4,cel 57 (htl h (h.sg ag cg) (h.ss as_ cs)))::H,RowsA y.1.2.2.1 1 (Z3 y.1.2.1)::RowsA x.a 1 (Z3 x.l)::R⟩) (fun y=>x.l.length-y.1.1) ⟨(0,fr,af,cf),Nat.zero_le _,by dsimp only;omega,fun z=>by simp [Z2i]⟩ ?_ (fun y=>?_)
 exact Zi (fun w h9=>h9.also (f:=RowsA af 1 (Z3 fr)) (fun w9 hg=>hg _ (List.mem_cons_of_mem _ hF.mem)))
 obtain ⟨⟨i,now,an,cn⟩,hi,hnl,hnw⟩:=y
 dsimp only at hi hnl hnw ⊢
 refine Z0 (sqt 7 rfl (pur 3 rfl (sp rfl (PE.indexAddr Z4A rfl rfl (by omega) (by omega)) rfl (spL rfl rfl (lf0 Z1t (Z0M hx) rfl) rfl (sp rfl (PE.lenSl Zy rfl) rfl (pur 1 rfl ?_))))))
 refine Z1 rfl ?_ ?_<;>intro hc4<;>try simp only [cS] at hc4
 obtain ⟨q,hq⟩:∃ q,x.l[i]?=some q:=⟨_,List.getElem?_eq_getElem (by omega)⟩
 have hqr:=hlx q (List.mem_flatten.2 ⟨_,hlm,List.mem_of_getElem? hq⟩)
 obtain ⟨u,rfl⟩:∃ u:Nat,q=u:=⟨q.toNat,by omega⟩
 obtain ⟨g,hg⟩:∃ g,h.gaps[u]?=some g:=⟨_,List.getElem?_eq_getElem (by omega)⟩
 have hsn:=Ze6 hg hnw
 have htk:x.l.take (i+1)=x.l.take i++[(u:Int)]:=by rw [List.take_add_one,hq];rfl
 rw [← htk] at hsn
 have hs2:=ZdX now g
 refine Zh (a:=x.a) (sz:=1) (rows:=Z3 x.l) (ne0 (by rw [irl];omega)) (fun bx9 ox9 hxa=>?_)
 rw [hxa]
 refine Zh (a:=ag) (sz:=2) (rows:=Z7 h.gaps) (ne0 (by rw [ZJ];omega)) (fun ba bo he=>?_)
 subst he
 refine Z2 (Z0 (Z4 (Z0 ?_)))
 refine Zo [0,1,0,0,12,28,0,124,252,511,1023,0,4095] (.tk 0 (.ld 1 (tks 2 3 (.ld 5 (.tk 6 (.tk 7 (.ld 8 (.tk 9 (.ld 10 (.big 11 (.big 12 .done))))))))))) ZF (by kernel_rfl) ?_
 refine tk rfl (PE.fA Z16 rfl) rfl (ld rfl rfl (lh Z7h rfl rfl) rfl (Zu 2 rfl (tk rfl (PE.indexAddr Z4A rfl rfl (by omega) (by omega)) rfl ?_)))
 refine ld rfl rfl (lf0 Z1t (Z0M hx) (show (Z3j x)[0]?=some (Value.slice (some ⟨bx9,ox9,none⟩) x.l.length x.c) by rw [← hxa];rfl)) rfl ?_
 refine Zu 1 rfl (tk rfl (PE.indexAddr Z0c rfl rfl (by omega) (by omega)) rfl (ld rfl rfl (lf0 sc3 (ZB hq) rfl) rfl (tk rfl (PE.indexAddr Zjb rfl rfl (by omega) (by omega)) rfl (ld rfl rfl (lfA Z9O (row:=grow g) (Z1l hg) rfl) rfl (alc rfl Zcm rfl (fun b16=>?_))))))
 refine bg (fun w hs=>⟨(lfA Z9O (row:=grow g) (Z1l hg) rfl) w hs,(lf0 sc3 (ZB hq) rfl) w hs,(lf0 Z1t (Z0M hx) (show (Z3j x)[0]?=some (Value.slice (some ⟨bx9,ox9,none⟩) x.l.length x.c) by rw [← hxa];rfl)) w hs,(lh Z7h rfl rfl) w hs,trivial⟩) ?_
 refine ZG (l':=grow g) rfl rfl rfl Zd5 rfl rfl rfl rfl (nl rfl) ?_
 refine bgT (sqt 1 rfl (pur 1 rfl (Z0 (sqt 4 rfl ?_))))
 obtain ⟨o9,he9,hg9⟩:∃ o:OSl 3 1 (Z3 []),(∀ T:Zf,T=o.G++T)∧Value.slice none 0 0=o.fs:=⟨OSl.nil _ _,fun _=>rfl,rfl⟩
 rw [hg9]
 refine Sy.heap (H':=o9.G++((b16,cel 129 (grow g))::(b4,cel 57 (htl h (h.sg (some ⟨ba,bo,none⟩) cg) (h.ss as_ cs)))::H)) (fun w h9=>by rw [← he9];exact h9) ?_
 refine pur 1 rfl (sp rfl (PE.fA Z0o rfl) rfl (spL rfl rfl (lh sc3 rfl rfl) rfl ?_))
 refine clV rfl Z1g rfl rfl (Z0j now an cn g.a (by omega) _ _) ?_
 refine ZL (ι:=OSl 3 1 (Z3 (ZdW now g))) (fun o=>⟨[(1,.slice af fr.length cf),(2,.slice at_ to_.length ct),(3,.slice (some ⟨bp,op9,none⟩) pl.length cp),(4,.pointer (some ⟨b4,0,none⟩)),(13,.int .i64 (k:Int)),(14,.slice an now.length cn),(15,.int .i64 (i:Int)),(16,.pointer (some ⟨b16,0,none⟩)),(17,o.fs)],o.G++((b16,cel 129 (grow g))::(b4,cel 57 (htl h (h.sg (some ⟨ba,bo,none⟩) cg) (h.ss as_ cs)))::H),RowsA an 1 (Z3 now)::RowsA (some ⟨bx9,ox9,none⟩) 1 (Z3 x.l)::R⟩) ?_ ?_
 refine Z1 rfl ?_ ?_<;>intro hc5
 refine sqr 6 rfl (pur 1 rfl (sp rfl (PE.fA Z0F rfl) rfl (spL rfl rfl (lh sc3 rfl rfl) rfl ?_)))
 refine bsl (out:=[_]) rfl Z03 zl3 rfl rfl rfl rfl rfl rfl (fun b80=>?_)
 refine apO (o9) rfl Z1v rfl rfl (Z02 (row:=[.int .i64 g.b]) rfl) rfl rfl ((by rw [irl];simp only [List.length_singleton,List.length_nil];omega)) rfl (fun o81=>?_)
 refine pur 1 rfl ?_
 first | exact Zk (o81.cast (by unfold ZdW;simp [Z3, *])) (fun w h9=>h9.del b80) | exact Zk (o9.cast (by unfold ZdW;simp [Z3, *])) idH
 refine Z2 ?_
 first | exact Zk (o81.cast (by unfold ZdW;simp [Z3, *])) (fun w h9=>h9.del b80) | exact Zk (o9.cast (by unfold ZdW;simp [Z3, *])) idH
 intro o
 dsimp only
 refine Z0 (sqt 4 rfl (pur 1 rfl (sp rfl (PE.fA Z0F rfl) rfl (spL rfl rfl (lh sc3 rfl rfl) rfl ?_))))
 refine clV rfl Z1g rfl rfl (Z0j now an cn g.b (by omega) _ _) ?_
 refine ZL (ι:=OSl 3 1 (Z3 (Zc2 now g))) (fun o=>⟨[(1,.slice af fr.length cf),(2,.slice at_ to_.length ct),(3,.slice (some ⟨bp,op9,none⟩) pl.length cp),(4,.pointer (some ⟨b4,0,none⟩)),(13,.int .i64 (k:Int)),(15,.int .i64 (i:Int)),(17,o.fs)],o.G++((b16,cel 129 (grow g))::(b4,cel 57 (htl h (h.sg (some ⟨ba,bo,none⟩) cg) (h.ss as_ cs)))::H),RowsA an 1 (Z3 now)::RowsA (some ⟨bx9,ox9,none⟩) 1 (Z3 x.l)::R⟩) ?_ ?_
 refine Z1 rfl ?_ ?_<;>intro hc6
 refine sqr 6 rfl (pur 1 rfl (sp rfl (PE.fA Z0o rfl) rfl (spL rfl rfl (lh sc3 rfl rfl) rfl ?_)))
 refine bsl (out:=[_]) rfl Z03 zl3 rfl rfl rfl rfl rfl rfl (fun b89=>?_)
 refine apO (o) rfl Z1v rfl rfl (Z02 (row:=[.int .i64 g.a]) rfl) rfl rfl ((by rw [irl];simp only [List.length_singleton];omega)) rfl (fun o90=>?_)
 refine pur 1 rfl ?_
 first | exact Zk (o90.cast (by unfold Zc2;simp [Z3, *])) (fun w h9=>h9.del b89) | exact Zk (o.cast (by unfold Zc2;simp [Z3, *])) idH
 refine Z2 ?_
 first | exact Zk (o90.cast (by unfold Zc2;simp [Z3, *])) (fun w h9=>h9.del b89) | exact Zk (o.cast (by unfold Zc2;simp [Z3, *])) idH
 intro o
 dsimp only
 obtain ⟨a8,c8,he8,hc8,hzz⟩:=o.freezeC
 rw [irl] at hc8
 rw [he8,irl]
 refine Sy.heap (H':=_) (fun w h9=>hzz h9) ?_
 clear he8 hzz
 refine sqr 2 rfl (pur 2 rfl (sqr 3 rfl (pur 1 rfl (sp rfl (PE.add rfl rfl (by omega)) rfl (pur 1 rfl ?_)))))
 exact Zb ⟨(i+1,Zc2 now g,a8,c8),by dsimp only;omega,by dsimp only;omega,hsn⟩ (fun w h9=>(h9.del b16).facts (fun g hg=>by simp only [List.mem_cons] at hg ⊢;rcases hg with h8 | h8 | h8<;>simp [h8]))
 obtain rfl:i=x.l.length:=by omega
 rw [List.take_length] at hnw
 refine Z9 (Za (Za (Zm (sqt 1 rfl (pur 1 rfl (Z0 (sqt 1 rfl (pur 1 rfl (Z4 ?_)))))))))
 refine Ze (ι:={j:Nat // j≤now.length}) (fun j=>⟨[(1,.slice af fr.length cf),(2,.slice at_ to_.length ct),(3,.slice (some ⟨bp,op9,none⟩) pl.length cp),(4,.pointer (some ⟨b4,0,none⟩)),(13,.int .i64 (k:Int)),(14,.slice an now.length cn),(18,.bool ((now.take j.1).any (ZH to_))),(19,.int .i64 (j.1:Int))],(b4,cel 57 (htl h (h.sg ag cg) (h.ss as_ cs)))::H,RowsA an 1 (Z3 now)::R⟩) (fun j=>now.length-j.1) ⟨0,Nat.zero_le _⟩ ?_ (fun j=>?_)
 exact Zi (fun w h9=>h9.facts (fun g hg=>by simp only [List.mem_cons] at hg ⊢;rcases hg with h8 | h8<;>simp [h8]))
 obtain ⟨j,hj⟩:=j
 dsimp only at hj ⊢
 refine Z0 (sqt 4 rfl (pur 2 rfl (sp rfl (PE.lenSl Zy rfl) rfl (pur 1 rfl ?_))))
 refine Z1 rfl ?_ ?_<;>intro hc7<;>try simp only [cS] at hc7
 obtain ⟨z,hz⟩:∃ z,now[j]?=some z:=⟨_,List.getElem?_eq_getElem (by omega)⟩
 have has1:(now.take (j+1)).any (ZH to_)=((now.take j).any (ZH to_)||ZH to_ z):=Z9V hz
 refine Zh (a:=an) (sz:=1) (rows:=Z3 now) (ne0 (by rw [irl];omega)) (fun bn on he=>?_)
 subst he
 refine Z2 (Z0 (Z4 (sqr 10 rfl (pur 2 rfl ?_))))
 refine Zj 99 rfl ?_ ?_<;>intro g99
 refine pur 8 rfl (sqr 3 rfl (pur 1 rfl (sp rfl (PE.add rfl rfl (by omega)) rfl (pur 1 rfl ?_))))
 first
   | (have f1:(now.take (j+1)).any (ZH to_)=true:=by rw [has1,g99];rfl
      exact Zc ⟨j+1,by omega⟩ (by dsimp only;omega) (by rw [f1];exact sbA) idH)
   | (have f1:(now.take (j+1)).any (ZH to_)=ZH to_ z:=by rw [has1,g99];rfl
      exact Zc ⟨j+1,by omega⟩ (by dsimp only;omega) (by rw [f1];exact sbA) idH)
 refine pur 3 rfl ?_
 refine spG rfl rfl rfl rfl (PE.indexAddr Z0c rfl rfl (by omega) (by omega)) rfl ?_
 refine Z0m rfl rfl rfl rfl rfl (lf0 sc3 (ZB hz) rfl) rfl ?_
 refine Z0C rfl rfl rfl rfl Z1g rfl rfl (Z0j to_ at_ ct z (by omega) _ _) ?_
 refine pur 2 rfl (sqr 3 rfl (pur 1 rfl (sp rfl (PE.add rfl rfl (by omega)) rfl (pur 1 rfl ?_))))
 first
   | (have f1:(now.take (j+1)).any (ZH to_)=true:=by rw [has1,g99];rfl
      exact Zc ⟨j+1,by omega⟩ (by dsimp only;omega) (by rw [f1];exact sbA) idH)
   | (have f1:(now.take (j+1)).any (ZH to_)=ZH to_ z:=by rw [has1,g99];rfl
      exact Zc ⟨j+1,by omega⟩ (by dsimp only;omega) (by rw [f1];exact sbA) idH)
 obtain rfl:j=now.length:=by omega
 rw [List.take_length]
 have hld:Z59 h.gaps 0 fr to_ x.l=now.any (ZH to_):=by
   unfold Z59
   rw [dT (show 0<x.l.length by omega),Zfa hnw];rfl
 refine Z9 (Za (Za (Zm (sqt 2 rfl (pur 2 rfl ?_)))))
 refine Z1 rfl ?_ ?_<;>intro hc8
 have hld2:Z59 h.gaps 0 fr to_ x.l=false:=by rw [hld,← Bool.not_eq_true'];exact hc8
 have hE:=Zbe hbe hle hlm hld2
 refine sqt 2 rfl (pur 2 rfl (Z5 ?_))
 exact rtB rfl rfl rfl rfl ⟨by rw [hE.1,hE.2]<;>rfl,rfl,rfl⟩ (fun w h9=>(h9.ftail).del b4)
 have hld2:Z59 h.gaps 0 fr to_ x.l=true:=by rw [hld,← Bool.not_eq_false'];exact hc8
 refine Z2 (sqr 3 rfl (pur 1 rfl (sp rfl (PE.add rfl rfl (by omega)) rfl (pur 1 rfl ?_))))
 exact Zc ⟨k+1,by omega,fun l hl=>by
   rw [List.take_add_one,hgx] at hl
   rcases List.mem_append.1 hl with h1 | h1
   · exact hkl l h1
   · rw [List.mem_singleton.1 h1];exact hld2⟩ (by dsimp only;omega) sbA (fun w h9=>h9.ftail)
 obtain rfl:k=pl.length:=by omega
 rw [List.take_of_length_le (by omega)] at hkl
 have hE:=Zbf hbe hle hkl
 refine Z9 (Za (Za (Zm (sqt 4 rfl (pur 1 rfl (sp rfl (PE.lenSl Z0J rfl) rfl (pur 2 rfl (Z5 ?_))))))))
 exact rtB rfl rfl rfl rfl ⟨by rw [hE.1,hE.2,hll]<;>rfl,rfl,rfl⟩ (fun w h9=>h9.del b4)
theorem Zi9:cal Tryz.prog 71=true:=by kernel_rfl
theorem ZjJ:cal Tryz.prog 72=true:=by kernel_rfl
theorem ZjK:cal Tryz.prog 73=true:=by kernel_rfl
theorem Zkl:cal Tryz.prog 8=true:=by kernel_rfl
theorem Way.on {gs:List Gp} {op:Nat→Bool} {f:Nat→Int} {S K:Nat} (hn:∀ g∈gs,0≤g.a∧0≤g.b):∀ {l:List (Nat×Nat)} {u w:Nat},Way gs op f S K u l w→∀ here:List Int,(u:Int)∈here→(w:Int)∈(l.map fun x=>(x.1:Int)).foldl (fun here q=>here.filterMap (Z6s gs 0 q.toNat)) here
 | [],u,w,h,here,hu=>by cases h;exact hu
 | (i,v)::l,u,w,h,here,hu=>by
   cases h with
   | cons hg ho hk hsv hs h =>
     rename_i g
     have h0:=hn g (List.mem_of_getElem? hg)
     rw [List.map_cons,List.foldl_cons]
     refine Way.on hn h _ (List.mem_filterMap.2 ⟨(u:Int),hu,?_⟩)
     dsimp only
     rw [Int.toNat_natCast]
     rcases hs with ⟨h1,h2,_⟩ | ⟨h1,h2,_⟩
     · rw [Z5m hg (Nat.zero_testBit _) (.inl (by omega))];exact congrArg some (by omega)
     · rw [Z5m hg (Nat.zero_testBit _) (.inr (by omega))];exact congrArg some (by omega)
theorem WyK.lds {gs:List Gp} {fr to_ p:List Int} (hn:∀ g∈gs,0≤g.a∧0≤g.b) (hf:∀ x∈fr,0≤x) (ht:∀ x∈to_,0≤x) (h:WyK gs (msk fr) (msk to_) p):Z59 gs 0 fr to_ p=true:=by
 obtain ⟨op,f,u,l,w,h1,h2,rfl⟩:=h
 have h3:=h1.way.on hn fr ((ZK hf u).1 h1.from_)
 have h4:=(ZK ht w).1 h1.to
 have h5:=List.length_pos_iff.2 h2
 unfold Z59 Z2i
 rw [List.length_map,decide_eq_true h5,Bool.true_and,List.any_eq_true]
 exact ⟨_,h3,hasI_iff.2 h4⟩
theorem WysP.led {h:Hse} {fr to_:List Int} {pl:List PL} (hb:h.botE fr to_=0) (hp:WysP h.gaps (msk fr) (msk to_) pl):h.ledE fr to_ (lls pl)=0∧h.ledR fr to_ (lls pl)=pl.length:=by
 have hbo:=Z0A hb
 obtain ⟨q1,q2,_⟩:=ZV hbo
 have h1:=Zbf hb (Z2B (n:=(h.gaps.length:Int)) hp.rng hp.nd) (fun l hl=>(hp.wy l hl).lds (fun g hg=>by have:=hbo.ok.gaps g hg;omega) (fun x hx=>(q1 x hx).1) (fun x hx=>(q2 x hx).1))
 rw [Z04] at h1;exact h1
structure CutP (h:Hse) (fr to_ ctl:List Int):Prop where
 ls:ZM (h.gaps.length:Int) ctl=0
 sh:h.shB fr to_ ctl=true
 asc:∀ i,i+1<ctl.length→na ctl i<na ctl (i+1)
 few:ctl.length≤10
theorem ZfW {h:Hse} {fr to_:List Int} {f:Nat→Int} {V:List (Nat×Int)} (hb:h.botE fr to_=0) (hfw:Flw f (msk fr) (msk to_) h.gaps) (hsh:Shn h.gaps (fun _=>true) f (msk fr) (msk to_) V):CutP h fr to_ (Z1C (Z1F V) h.gaps):=by
 have hbo:=Z0A hb
 obtain ⟨q1,q2,_⟩:=ZV hbo
 have hgl:=hbo.ok.gl
 have ht:=Z3x hbo
 have hm:=Z6K hgl (Z1F V)
 obtain ⟨y,h1,h2,h3⟩:=Z23 (msk (Z1C (Z1F V) h.gaps))
 rw [hm] at h1
 have hml:=Z22 (msk (Z1C (Z1F V) h.gaps))
 rw [hm] at hml
 refine ⟨Z2B (fun x hx=>?_) ?_,(Z7S ht.w ht.s ht.k (fun x hx=>(q2 x hx).1)).2 (hsh.cut ht hfw).2,fun i hi=>?_,hml⟩
 · obtain ⟨i,g,h4,_,rfl⟩:=cutM_mem.1 hx
   have:=(List.getElem?_eq_some_iff.1 h4).1;omega
 · rw [h1,List.nodup_iff_pairwise_ne,List.pairwise_map]
   exact h2.imp fun h4 h5=>by omega
 · rw [h1] at hi ⊢
   rw [List.length_map] at hi
   have h4:=List.pairwise_iff_getElem.1 h2 i (i+1) (by omega) hi (by omega)
   rw [Z1n (x:=(y[i]:Int)) (by rw [List.getElem?_map,List.getElem?_eq_getElem (by omega)];rfl),Z1n (x:=(y[i+1]:Int)) (by rw [List.getElem?_map,List.getElem?_eq_getElem hi];rfl)]
   omega
def CtS (h:Hse) (fr to_:List Int) (m:Nat):Prop:=(h.botE fr to_≠0→m=0)∧(h.botE fr to_=0→Cut h.gaps (msk fr) (msk to_) m)
theorem ZiO {h:Hse} {fr to_ gp:List Int} (hb:h.botE fr to_=0):h.shE fr to_ gp=ZM (h.gaps.length:Int) gp:=by unfold Hse.shE;rw [hb];rfl
theorem Zgz {h:Hse} {fr to_ gp:List Int} (hb:h.botE fr to_≠0):h.shR fr to_ gp=(false,h.botE fr to_):=Z91 (by unfold Hse.shE;rw [decide_eq_true hb];rfl) hb
theorem Zgd {h:Hse} {fr to_:List Int} {ls:List (List Int)} (hb:h.botE fr to_≠0):h.ledE fr to_ ls=h.botE fr to_∧h.ledR fr to_ ls=0:=by
 have e:h.ledE fr to_ ls=h.botE fr to_:=by unfold Hse.ledE;rw [decide_eq_true hb];rfl
 exact ⟨e,Z3E e hb⟩
theorem Zhc (h:Hse) (ag as_:Option Addr) (cg cs:Nat) (hlg:h.gaps.length≤1000000) (hls:h.sights.length≤1000000) (fr to_:List Int) (af at_:Option Addr) (cf ct:Nat) (hlf:fr.length≤1000000) (hlt:to_.length≤1000000) (hfc:fr.length≤cf) (htc:to_.length≤ct) (m:Nat) (hm:CtS h fr to_ m) (H:Zf) (R:Z6) [hG:MemRows ag 2 (Z7 h.gaps) R] [hS:MemRows as_ 3 (Z8 h.sights) R] [hF:MemRows af 1 (Z3 fr) R] [hT:MemRows at_ 1 (Z3 to_) R]:Fn Tryz.prog 7 [h.v (h.sg ag cg) (h.ss as_ cs),.slice af fr.length cf,.slice at_ to_.length ct] H R (fun v H' R'=>∃ (ctl:List Int) (a:Option Addr) (c:Nat),ctl.length=m∧ctl.length≤c∧((h.botE fr to_)=0→CutP h fr to_ ctl)∧v = .tuple #[.slice a ctl.length c,.int .i64 (h.botE fr to_)]∧H'=H∧R'=RowsA a 1 (Z3 ctl)::R):=fun w hw=>by
 refine CallsIn.mono (Zfl h ag as_ cg cs (by omega) (by omega) fr to_ af at_ cf ct hlf hlt hfc htc H R w hw) ?_
 rintro e' w' ⟨v,H',R',⟨rfl,hq⟩,he,hs'⟩
 rcases hq with ⟨h1,rfl,rfl⟩ | ⟨h1,f,V,a,c,h2,h3,h4,rfl,rfl⟩
 · exact ⟨_,_,_,⟨[],none,0,(hm.1 h1).symm,Nat.le_refl _,fun h9=>absurd h9 h1,rfl,rfl,rfl⟩,he,St.norows (sz:=1) hs'⟩
 · exact ⟨_,_,_,⟨_,a,c,(h3.cut (Z3x (Z0A h1)) h2).1.unique (hm.2 h1),h4,fun _=>ZfW h1 h2 h3,by rw [h1],rfl,rfl⟩,he,hs'⟩
theorem Zft (h:Hse) (ag as_:Option Addr) (cg cs:Nat) (hlg:h.gaps.length≤1000000) (hls:h.sights.length≤1000000) (fr to_:List Int) (af at_:Option Addr) (cf ct:Nat) (hlf:fr.length≤1000000) (hlt:to_.length≤1000000) (hfc:fr.length≤cf) (htc:to_.length≤ct) (m:Nat) (hm:CtS h fr to_ m) (H:Zf) (R:Z6) [hG:MemRows ag 2 (Z7 h.gaps) R] [hS:MemRows as_ 3 (Z8 h.sights) R] [hF:MemRows af 1 (Z3 fr) R] [hT:MemRows at_ 1 (Z3 to_) R]:Fn Tryz.prog 8 [h.v (h.sg ag cg) (h.ss as_ cs),.slice af fr.length cf,.slice at_ to_.length ct] H R (fun v H' R'=>∃ (pl:List PL) (a:Option Addr) (c:Nat),pl.length=m∧pl.length≤c∧pl.length≤10∧((h.botE fr to_)=0→WysP h.gaps (msk fr) (msk to_) pl)∧v = .tuple #[.slice a pl.length c,.int .i64 (h.botE fr to_)]∧H'=H∧R'=RowsA a 1 (Zg pl)::Inn pl::R):=fun w hw=>by
 refine CallsIn.mono (Zhe h ag as_ cg cs (by omega) (by omega) fr to_ af at_ cf ct hlf hlt hfc htc H R w hw) ?_
 rintro e' w' ⟨v,H',R',⟨rfl,hq⟩,he,hs'⟩
 rcases hq with ⟨h1,rfl,rfl⟩ | ⟨h1,pl,a,c,h2,h3,h4,h5,rfl,rfl⟩
 · exact ⟨_,_,_,⟨[],none,0,(hm.1 h1).symm,Nat.le_refl _,Nat.zero_le _,fun h9=>absurd h9 h1,rfl,rfl,rfl⟩,he,St.norows (sz:=1) (St.inn0 hs')⟩
 · exact ⟨_,_,_,⟨pl,a,c,h5.unique (hm.2 h1),h3,h2,fun _=>h4,by rw [h1],rfl,rfl⟩,he,hs'⟩
set_option maxHeartbeats 1000000 in
theorem Z6A (h:Hse) (ag as_:Option Addr) (cg cs:Nat) (hlg:h.gaps.length≤9223372036854775807) (hls:h.sights.length≤9223372036854775807) (fr to_ gp:List Int) (af at_ ga:Option Addr) (cf ct gc:Nat) (hlf:fr.length≤9223372036854775807) (hlt:to_.length≤9223372036854775807) (hlp:gp.length≤9223372036854775807) (hfc:fr.length≤cf) (htc:to_.length≤ct) (hgc:gp.length≤gc) (pl:List PL) (ap:Option Addr) (cp:Nat) (hpl:pl.length≤9223372036854775807) (hpi:∀ x∈pl,x.l.length≤9223372036854775807) (H:Zf) (R:Z6) [hG:MemRows ag 2 (Z7 h.gaps) R] [hS:MemRows as_ 3 (Z8 h.sights) R] [hF:MemRows af 1 (Z3 fr) R] [hT:MemRows at_ 1 (Z3 to_) R] [hGp:MemRows ga 1 (Z3 gp) R] [hP:MemRows ap 1 (Zg pl) R] [hI:MemF (Inn pl) R] :
    Fn Tryz.prog 14 [h.v (h.sg ag cg) (h.ss as_ cs),.slice af fr.length cf,.slice at_ to_.length ct,.slice ga gp.length gc,.slice ap pl.length cp] H R (fun v H' R'=>v = .bool true∧H'=H∧R'=R):=by
 refine Zl Tryz.func14 rfl Tryz.ntmps14 rfl ?_
 refine sqt 2 rfl (bx rfl rfl rfl (fun b5=>pur 1 rfl (Z0 (sqt 13 rfl (spL rfl rfl (lhA (htl h (h.sg ag cg) (h.ss as_ cs)) ZA rfl rfl rfl) rfl ?_)))))
 refine clV rfl ZcX rfl rfl (Z5L h ag as_ cg cs (by omega) (by omega) _ _) ?_
 refine pur 1 rfl ?_
 refine Zj 36 rfl ?_ ?_<;>intro g36
 refine pur 10 rfl ?_
 refine ZP rfl ?_
 refine sqt 2 rfl ?_
 refine clV rfl Z2U rfl rfl (Z0x _ _) ?_
 refine pur 1 rfl (Z5 ?_)
 exact rtA rfl rfl rfl ⟨rfl,rfl,rfl⟩ (fun w h9=>St.sub (h9.del b5))
 refine pur 3 rfl ?_
 refine Za0 (out:=[_,_,_]) rfl rfl rfl rfl Z7T Z5c rfl rfl rfl rfl rfl rfl (fun b40=>?_)
 refine Sy.heap (fun w h9=>St.rows (sz:=1) (rows:=Zg [⟨af,cf,fr⟩,⟨at_,ct,to_⟩,⟨ga,gc,gp⟩]) (rest:=[]) (h9.pull b40) (by simp [Zg,Z3j])) ?_
 refine Z0C rfl rfl rfl rfl Zay rfl rfl (Z6D [⟨af,cf,fr⟩,⟨at_,ct,to_⟩,⟨ga,gc,gp⟩] (some ⟨b40,0,none⟩) 3 (by simp) (by simp;omega) _ _) ?_
 refine pur 2 rfl ?_
 refine Zj 43 rfl ?_ ?_<;>intro g43
 refine pur 3 rfl ?_
 refine ZP rfl ?_
 refine sqt 2 rfl ?_
 refine clV rfl Z2U rfl rfl (Z0x _ _) ?_
 refine pur 1 rfl (Z5 ?_)
 exact rtA rfl rfl rfl ⟨rfl,rfl,rfl⟩ (fun w h9=>St.sub (h9.del b5))
 refine Sy.heap (fun w h9=>h9.ftail) ?_
 refine pur 1 rfl ?_
 refine Z0C rfl rfl rfl rfl Zay rfl rfl (Z6D pl ap cp hpl hpi _ _) ?_
 refine pur 1 rfl ?_
 refine Z1 rfl ?_ ?_<;>intro hc0
 refine sqt 2 rfl ?_
 refine clV rfl Z2U rfl rfl (Z0x _ _) ?_
 refine pur 1 rfl (Z5 ?_)
 exact rtA rfl rfl rfl ⟨rfl,rfl,rfl⟩ (fun w h9=>St.sub (h9.del b5))
 have hsm:h.gaps.length≤14∧h.sights.length≤12:=by
   unfold Zco at g36
   rw [Bool.or_eq_false_iff] at g36
   have:=of_decide_eq_false g36.1;have:=of_decide_eq_false g36.2;omega
 obtain ⟨hsg14,hss12⟩:=hsm
 obtain ⟨hx2,_⟩:=Z8E g43
 have hfs:fr.length≤14:=hx2 fr (by simp [lls])
 have hts:to_.length≤14:=hx2 to_ (by simp [lls])
 have hps:gp.length≤14:=hx2 gp (by simp [lls])
 obtain ⟨hpx,hpm⟩:=Z8E hc0
 have hll:=Z04 pl
 have hpf:=ZaX hpx
 have hpi9:∀ x∈pl,x.l.length≤14:=fun x hx=>hpx x.l (List.mem_map.2 ⟨x,hx,rfl⟩)
 refine Z2 (Z0 ?_)
 refine Z6m [0,1,0,7,0,0,63,127] [0,1,2,3,4,5,6,7] ZF (by kernel_rfl) rfl (fun s L H1 R1=>∃ (oa:Option Addr) (ob:Option Addr) (oc:Nat) (od:Nat) (xa:Option Addr) (xb:Option Addr) (xc:Nat) (xd:Nat) (b11:Nat) (x11:List Value) (b12:Nat) (x12:List Value),Sub [(1,.slice af fr.length cf),(2,.slice at_ to_.length ct),(3,.slice ga gp.length gc),(4,.slice ap pl.length cp),(5,.pointer (some ⟨b5,0,none⟩))] L∧(∀ f∈(R:Z6),f∈R1)∧(s 0=true→lk L 48=some (h.v (h.sg ag cg) (h.ss as_ cs)))∧(s 1=true→lk L 49=some (h.v (h.sg oa oc) (h.ss ob od))∧(RowsA ob 3 (Z8 h.sights))∈R1∧(RowsA oa 2 (Z7 h.gaps))∈R1)∧(s 2=true→lk L 50=some (h.v (h.sg ag cg) (h.ss as_ cs)))∧(s 3=true→lk L 51=some (h.v (h.sg xa xc) (h.ss xb xd))∧(RowsA xb 3 (Z8 h.sights))∈R1∧(RowsA xa 2 (Z7 h.gaps))∈R1)∧(s 4=true→lk L 11=some (.pointer (some ⟨b11,0,none⟩))∧(s 6=false→x11=[.int .i64 0,.slice none 0 0,.slice none 0 0]))∧(s 5=true→lk L 12=some (.pointer (some ⟨b12,0,none⟩))∧(s 7=false→x12=[.int .i64 0,.slice none 0 0,.slice none 0 0]))∧(s 6=true→x11=htl h (h.sg oa oc) (h.ss ob od))∧(s 7=true→x12=htl h (h.sg xa xc) (h.ss xb xd))∧∀ w,St H1 R1 w→St ((bif s 5 then [(b12,cel 57 x12)] else [])++((bif s 4 then [(b11,cel 27 x11)] else [])++((b5,cel 27 (htl h (h.sg ag cg) (h.ss as_ cs)))::H))) R1 w) ?_ ?_ ?_
 exact ⟨none,none,0,0,none,none,0,0,0,[],0,[],sbA,fun _ hf=>hf,ff,ff,ff,ff,ff,ff,ff,ff,fun w y9=>y9⟩
 refine ⟨?_,?_,?_,?_,?_,?_,?_,?_,trivial⟩
 intro s Lz Hz Rz hdn hs hpre hI K hK
 obtain ⟨oa,ob,oc,od,xa,xb,xc,xd,b11,x11,b12,x12,hL0,hR0,q0,q1,q2,q3,q4,q5,q6,q7,hH⟩:=hI
 refine Sy.heap hH ?_
 refine spL rfl (Sub.lk hL0 _ _ rfl) ((lhA (htl h (h.sg ag cg) (h.ss as_ cs)) ZA rfl rfl rfl)) rfl ?_
 exact hK _ _ _ ⟨oa,ob,oc,od,xa,xb,xc,xd,b11,x11,b12,x12,ZD rfl hL0,hR0,fun _=>ZS,lm2 q1,lm1 q2,lm2 q3,lm2 q4,lm2 q5,q6,q7,fun w y9=>y9⟩
 intro s Lz Hz Rz hdn hs hpre hI K hK
 obtain ⟨oa,ob,oc,od,xa,xb,xc,xd,b11,x11,b12,x12,hL0,hR0,q0,q1,q2,q3,q4,q5,q6,q7,hH⟩:=hI
 have h0:s 0=true:=hpre 0 rfl
 refine Sy.heap hH ?_
 haveI m0:MemRows ag 2 (Z7 h.gaps) Rz:=⟨hR0 _ (inferInstance:MemRows ag 2 (Z7 h.gaps) (R)).mem⟩
 haveI m1:MemRows as_ 3 (Z8 h.sights) Rz:=⟨hR0 _ (inferInstance:MemRows as_ 3 (Z8 h.sights) (R)).mem⟩
 refine cl rfl Z9i rfl (by simp only [evs,show ev Lz (.tmp 48)=_ from (q0 h0)]) (Z8b h ag as_ cg cs (by omega) (by omega) _ _) ?_
 rintro _ _ R1 ⟨oa,ob,oc,od,rfl,rfl,hR1⟩
 obtain rfl:=hR1.symm
 clear hR1
 exact hK _ _ _ ⟨oa,ob,oc,od,xa,xb,xc,xd,b11,x11,b12,x12,ZD rfl hL0,Z07 (Z07 (hR0)),fun h=>Zr rfl (q0 h),fun _=>⟨ZS,(by simp),(by simp)⟩,fun h=>Zr rfl (q2 h),fun h=>⟨Zr rfl (q3 h).1,List.mem_cons_of_mem _ (List.mem_cons_of_mem _ ((q3 h).2.1)),List.mem_cons_of_mem _ (List.mem_cons_of_mem _ ((q3 h).2.2))⟩,fun h=>⟨Zr rfl (q4 h).1,(q4 h).2⟩,fun h=>⟨Zr rfl (q5 h).1,(q5 h).2⟩,nof hdn hs 6,q7,fun w y9=>y9⟩
 intro s Lz Hz Rz hdn hs hpre hI K hK
 obtain ⟨oa,ob,oc,od,xa,xb,xc,xd,b11,x11,b12,x12,hL0,hR0,q0,q1,q2,q3,q4,q5,q6,q7,hH⟩:=hI
 refine Sy.heap hH ?_
 refine spL rfl (Sub.lk hL0 _ _ rfl) ((lhA (htl h (h.sg ag cg) (h.ss as_ cs)) ZA rfl rfl rfl)) rfl ?_
 exact hK _ _ _ ⟨oa,ob,oc,od,xa,xb,xc,xd,b11,x11,b12,x12,ZD rfl hL0,hR0,lm1 q0,lm2 q1,fun _=>ZS,lm2 q3,lm2 q4,lm2 q5,q6,q7,fun w y9=>y9⟩
 intro s Lz Hz Rz hdn hs hpre hI K hK
 obtain ⟨oa,ob,oc,od,xa,xb,xc,xd,b11,x11,b12,x12,hL0,hR0,q0,q1,q2,q3,q4,q5,q6,q7,hH⟩:=hI
 obtain ⟨h0,h1,h2⟩:s 0=true∧s 1=true∧s 2=true:=⟨hpre 0 rfl,hpre 1 rfl,hpre 2 rfl⟩
 refine Sy.heap hH ?_
 haveI m0:MemRows ag 2 (Z7 h.gaps) Rz:=⟨hR0 _ (inferInstance:MemRows ag 2 (Z7 h.gaps) (R)).mem⟩
 haveI m1:MemRows as_ 3 (Z8 h.sights) Rz:=⟨hR0 _ (inferInstance:MemRows as_ 3 (Z8 h.sights) (R)).mem⟩
 refine cl rfl Zaz rfl (by simp only [evs,show ev Lz (.tmp 50)=_ from (q2 h2)]) (Z3f h ag as_ cg cs (by omega) (by omega) _ _) ?_
 rintro _ _ R1 ⟨xa,xb,xc,xd,rfl,rfl,hR1⟩
 obtain rfl:=hR1.symm
 clear hR1
 exact hK _ _ _ ⟨oa,ob,oc,od,xa,xb,xc,xd,b11,x11,b12,x12,ZD rfl hL0,Z07 (Z07 (hR0)),fun h=>Zr rfl (q0 h),fun h=>⟨Zr rfl (q1 h).1,List.mem_cons_of_mem _ (List.mem_cons_of_mem _ ((q1 h).2.1)),List.mem_cons_of_mem _ (List.mem_cons_of_mem _ ((q1 h).2.2))⟩,fun h=>Zr rfl (q2 h),fun _=>⟨ZS,(by simp),(by simp)⟩,fun h=>⟨Zr rfl (q4 h).1,(q4 h).2⟩,fun h=>⟨Zr rfl (q5 h).1,(q5 h).2⟩,q6,nof hdn hs 7,fun w y9=>y9⟩
 intro s Lz Hz Rz hdn hs hpre hI K hK
 obtain ⟨oa,ob,oc,od,xa,xb,xc,xd,b11,x11,b12,x12,hL0,hR0,q0,q1,q2,q3,q4,q5,q6,q7,hH⟩:=hI
 refine Sy.heap hH ?_
 refine alc rfl Z0V rfl (fun b11=>?_)
 exact hK _ _ _ ⟨oa,ob,oc,od,xa,xb,xc,xd,b11,[.int .i64 0,.slice none 0 0,.slice none 0 0],b12,x12,ZD rfl hL0,hR0,lm1 q0,lm2 q1,lm1 q2,lm2 q3,fun _=>⟨ZS,fun _=>rfl⟩,lm2 q5,nof hdn hs 6,q7,fun w y9=>by rw [hs] at y9;exact y9.perm (List.perm_middle.symm.trans (List.Perm.append_left _ (.refl _)))⟩
 intro s Lz Hz Rz hdn hs hpre hI K hK
 obtain ⟨oa,ob,oc,od,xa,xb,xc,xd,b11,x11,b12,x12,hL0,hR0,q0,q1,q2,q3,q4,q5,q6,q7,hH⟩:=hI
 refine Sy.heap hH ?_
 refine alc rfl ZgT rfl (fun b12=>?_)
 exact hK _ _ _ ⟨oa,ob,oc,od,xa,xb,xc,xd,b11,x11,b12,[.int .i64 0,.slice none 0 0,.slice none 0 0],ZD rfl hL0,hR0,lm1 q0,lm2 q1,lm1 q2,lm2 q3,lm2 q4,fun _=>⟨ZS,fun _=>rfl⟩,q6,nof hdn hs 7,fun w y9=>by rw [hs] at y9;exact y9.perm (.refl _)⟩
 intro s Lz Hz Rz hdn hs hpre hI K hK
 obtain ⟨oa,ob,oc,od,xa,xb,xc,xd,b11,x11,b12,x12,hL0,hR0,q0,q1,q2,q3,q4,q5,q6,q7,hH⟩:=hI
 obtain ⟨h0,h1,h2,h3,h4,h5⟩:s 0=true∧s 1=true∧s 2=true∧s 3=true∧s 4=true∧s 5=true:=⟨hpre 0 rfl,hpre 1 rfl,hpre 2 rfl,hpre 3 rfl,hpre 4 rfl,hpre 5 rfl⟩
 refine Sy.heap hH ?_
 obtain rfl:=(q4 h4).2 hs
 refine Sy.heap (H':=(bif s 5 then [(b12,cel 57 x12)] else [])++((b11,cel 27 [.int .i64 0,.slice none 0 0,.slice none 0 0])::((b5,cel 27 (htl h (h.sg ag cg) (h.ss as_ cs)))::H))) (fun w y9=>by rw [h4] at y9;exact y9) ?_
 refine ZG (l':=htl h (h.sg oa oc) (h.ss ob od)) rfl (q4 h4).1 (q1 h1).1 Z1i rfl rfl rfl rfl (Nat.le_refl _) ?_
 exact hK _ _ _ ⟨oa,ob,oc,od,xa,xb,xc,xd,b11,htl h (h.sg oa oc) (h.ss ob od),b12,x12,hL0,hR0,q0,q1,q2,q3,fun h=>⟨(q4 h).1,fun h=>by cases (show true=false from h)⟩,q5,fun _=>rfl,q7,fun w y9=>by show St ((bif s 5 then [(b12,cel 57 x12)] else [])++((bif s 4 then [(b11,cel 27 (htl h (h.sg oa oc) (h.ss ob od)))] else [])++((b5,cel 27 (htl h (h.sg ag cg) (h.ss as_ cs)))::H))) Rz w;rw [h4];exact y9⟩
 intro s Lz Hz Rz hdn hs hpre hI K hK
 obtain ⟨oa,ob,oc,od,xa,xb,xc,xd,b11,x11,b12,x12,hL0,hR0,q0,q1,q2,q3,q4,q5,q6,q7,hH⟩:=hI
 obtain ⟨h0,h1,h2,h3,h4,h5,h6⟩:s 0=true∧s 1=true∧s 2=true∧s 3=true∧s 4=true∧s 5=true∧s 6=true:=⟨hpre 0 rfl,hpre 1 rfl,hpre 2 rfl,hpre 3 rfl,hpre 4 rfl,hpre 5 rfl,hpre 6 rfl⟩
 refine Sy.heap hH ?_
 obtain rfl:=(q5 h5).2 hs
 refine Sy.heap (H':=(b12,cel 57 [.int .i64 0,.slice none 0 0,.slice none 0 0])::((bif s 4 then [(b11,cel 27 x11)] else [])++((b5,cel 27 (htl h (h.sg ag cg) (h.ss as_ cs)))::H))) (fun w y9=>by rw [h5] at y9;exact y9) ?_
 refine ZG (l':=htl h (h.sg xa xc) (h.ss xb xd)) rfl (q5 h5).1 (q3 h3).1 ZgY rfl rfl rfl rfl (Nat.le_refl _) ?_
 exact hK _ _ _ ⟨oa,ob,oc,od,xa,xb,xc,xd,b11,x11,b12,htl h (h.sg xa xc) (h.ss xb xd),hL0,hR0,q0,q1,q2,q3,q4,fun h=>⟨(q5 h).1,fun h=>by cases (show true=false from h)⟩,q6,fun _=>rfl,fun w y9=>by show St ((bif s 5 then [(b12,cel 57 (htl h (h.sg xa xc) (h.ss xb xd)))] else [])++((bif s 4 then [(b11,cel 27 x11)] else [])++((b5,cel 27 (htl h (h.sg ag cg) (h.ss as_ cs)))::H))) Rz w;rw [h5];exact y9⟩
 intro Lz Hz Rz hI
 obtain ⟨oa,ob,oc,od,xa,xb,xc,xd,b11,x11,b12,x12,hL0,hR0,q0,q1,q2,q3,q4,q5,q6,q7,hH⟩:=hI
 obtain rfl:=q7 rfl
 obtain rfl:=q6 rfl
 refine Sy.weak (L':=[(12,.pointer (some ⟨b12,0,none⟩)),(11,.pointer (some ⟨b11,0,none⟩)),(1,.slice af fr.length cf),(2,.slice at_ to_.length ct),(3,.slice ga gp.length gc),(4,.slice ap pl.length cp),(5,.pointer (some ⟨b5,0,none⟩))]) (H':=(b12,cel 57 (htl h (h.sg xa xc) (h.ss xb xd)))::(b11,cel 27 (htl h (h.sg oa oc) (h.ss ob od)))::(b5,cel 27 (htl h (h.sg ag cg) (h.ss as_ cs)))::H) (R':=RowsA xb 3 (Z8 h.sights)::RowsA xa 2 (Z7 h.gaps)::RowsA ob 3 (Z8 h.sights)::RowsA oa 2 (Z7 h.gaps)::R) ?_ (Sub.cons (q5 rfl).1 (Sub.cons (q4 rfl).1 hL0)).lk (fun w h=>St.facts (hH w h) (Z06 (q3 rfl).2.1 (Z06 (q3 rfl).2.2 (Z06 (q1 rfl).2.1 (Z06 (q1 rfl).2.2 hR0)))))
 refine sqt 12 rfl (pur 1 rfl ?_)
 refine cl rfl Z7s rfl rfl (Z5g fr af cf (by omega) _ _) ?_
 rintro _ _ R1 ⟨la,lc,hlc,rfl,rfl,hR1⟩
 obtain rfl:=hR1.symm
 clear hR1
 refine pur 1 rfl ?_
 refine cl rfl Z7s rfl rfl (Z5g to_ at_ ct (by omega) _ _) ?_
 rintro _ _ R1 ⟨ka,kc,hkc,rfl,rfl,hR1⟩
 obtain rfl:=hR1.symm
 clear hR1
 refine pur 1 rfl ?_
 refine cl rfl Z7s rfl rfl (Z5g gp ga gc (by omega) _ _) ?_
 rintro _ _ R1 ⟨ja,jc,hjc,rfl,rfl,hR1⟩
 obtain rfl:=hR1.symm
 clear hR1
 refine pur 1 rfl ?_
 refine cl rfl ZhS rfl rfl (Z6x pl ap cp (by omega) (fun x hx=>by have:=hpi9 x hx;omega) _ _) ?_
 rintro _ _ R1 ⟨ql,qa,qc,hqe,rfl,rfl,hR1⟩
 obtain rfl:=hR1.symm
 clear hR1
 have hqi:∀ x∈ql,x.l.length≤1000000:=fun x hx=>by
   have h1:x.l∈lls pl:=hqe▸List.mem_map.2 ⟨x,hx,rfl⟩
   have:=hpx x.l h1;omega
 have hql:ql.length=pl.length:=by have:=congrArg List.length hqe;rwa [Z04,Z04] at this
 refine pur 4 rfl (sqt 3 rfl (spL rfl rfl (lhA (htl h (h.sg xa xc) (h.ss xb xd)) Z1q rfl rfl rfl) rfl ?_))
 refine clV rfl ZaA rfl rfl (Z3e h xa xb xc xd (by omega) (by omega) _ _) ?_
 refine pur 1 rfl (Z0 (sqt 2 rfl (pur 2 rfl ?_)))
 refine ZL (ι:=Unit) (fun _=>⟨[(1,.slice af fr.length cf),(2,.slice at_ to_.length ct),(3,.slice ga gp.length gc),(4,.slice ap pl.length cp),(5,.pointer (some ⟨b5,0,none⟩)),(11,.pointer (some ⟨b11,0,none⟩)),(12,.pointer (some ⟨b12,0,none⟩)),(13,.slice la fr.length lc),(14,.slice ka to_.length kc),(15,.slice ja gp.length jc),(16,.slice qa ql.length qc),(17,.int .i64 (h.botE fr to_))],(b12,cel 57 (htl h (h.sg xa xc) (h.ss xb xd)))::(b11,cel 27 (htl h (h.sg oa oc) (h.ss ob od)))::(b5,cel 27 (htl h (h.sg ag cg) (h.ss as_ cs)))::H,RowsA qa 1 (Zg ql)::Inn ql::RowsA ja 1 (Z3 gp)::RowsA ka 1 (Z3 to_)::RowsA la 1 (Z3 fr)::RowsA xb 3 (Z8 h.sights)::RowsA xa 2 (Z7 h.gaps)::RowsA ob 3 (Z8 h.sights)::RowsA oa 2 (Z7 h.gaps)::R⟩) ?_ ?_
 refine Z1 rfl ?_ ?_<;>intro hc1<;>try simp only [cS] at hc1
 have hok:=hse_ok.1 hc1
 refine sqr 5 rfl (spL rfl rfl (lhA (htl h (h.sg xa xc) (h.ss xb xd)) Z1q rfl rfl rfl) rfl (pur 2 rfl ?_))
 refine clV rfl ZhT rfl rfl (Zar h xa xb xc xd hok fr to_ af at_ cf ct (by omega) (by omega) hfc htc _ _) ?_
 refine pur 1 rfl ?_
 exact Zk () idH
 have hbe:h.botE fr to_=h.check:=by unfold Hse.botE;rw [dT hc1];rfl
 refine Z2 ?_
 exact ZR () (by rw [hbe];exact sbA) idH
 rintro ⟨⟩
 dsimp only
 refine sqt 7 rfl (pur 7 rfl (Z0 (sqt 2 rfl (pur 2 rfl ?_))))
 refine ZL (ι:={m:Nat // CtS h fr to_ m}) (fun y=>⟨[(1,.slice af fr.length cf),(2,.slice at_ to_.length ct),(3,.slice ga gp.length gc),(4,.slice ap pl.length cp),(5,.pointer (some ⟨b5,0,none⟩)),(11,.pointer (some ⟨b11,0,none⟩)),(12,.pointer (some ⟨b12,0,none⟩)),(13,.slice la fr.length lc),(14,.slice ka to_.length kc),(15,.slice ja gp.length jc),(16,.slice qa ql.length qc),(17,.int .i64 (h.botE fr to_)),(18,.int .i64 (h.shR fr to_ gp).2),(19,.int .i64 (h.ledE fr to_ (lls pl))),(20,.bool (h.shR fr to_ gp).1),(21,.int .i64 (h.ledR fr to_ (lls pl))),(22,.int .i64 (y.1:Int))],(b12,cel 57 (htl h (h.sg xa xc) (h.ss xb xd)))::(b11,cel 27 (htl h (h.sg oa oc) (h.ss ob od)))::(b5,cel 27 (htl h (h.sg ag cg) (h.ss as_ cs)))::H,RowsA qa 1 (Zg ql)::Inn ql::RowsA ja 1 (Z3 gp)::RowsA ka 1 (Z3 to_)::RowsA la 1 (Z3 fr)::RowsA xb 3 (Z8 h.sights)::RowsA xa 2 (Z7 h.gaps)::RowsA ob 3 (Z8 h.sights)::RowsA oa 2 (Z7 h.gaps)::R⟩) ?_ ?_
 refine Z1 rfl ?_ ?_<;>intro hc2<;>try simp only [cS] at hc2
 have hb:=Z0A hc2
 have hok:=hb.ok
 obtain ⟨q1,q2,q3,q4,q5,q6⟩:=ZV hb
 have hgl:=hok.gl
 have hto:=(ZQ hb.ek).1
 have hpr:=ZiO (gp:=gp) hc2
 refine Z0 (sqt 6 rfl (pur 1 rfl (sp rfl (PE.fA ZT rfl) rfl (spL rfl rfl (lh Z2g rfl rfl) rfl (sp rfl (PE.lenSl Z1s rfl) rfl ?_)))))
 refine clV rfl Z7v rfl rfl (Z1f gp ga gc (h.gaps.length:Int) (by omega) (by omega) hgc _ _) ?_
 refine pur 1 rfl (sqt 2 rfl (pur 2 rfl ?_))
 refine ZL (ι:=Unit) (fun _=>⟨[(1,.slice af fr.length cf),(2,.slice at_ to_.length ct),(3,.slice ga gp.length gc),(4,.slice ap pl.length cp),(5,.pointer (some ⟨b5,0,none⟩)),(11,.pointer (some ⟨b11,0,none⟩)),(12,.pointer (some ⟨b12,0,none⟩)),(13,.slice la fr.length lc),(14,.slice ka to_.length kc),(15,.slice ja gp.length jc),(16,.slice qa ql.length qc),(17,.int .i64 (h.botE fr to_)),(18,.int .i64 (h.shR fr to_ gp).2),(19,.int .i64 (h.botE fr to_)),(20,.bool (h.shR fr to_ gp).1),(21,.int .i64 0),(22,.int .i64 0)],(b12,cel 57 (htl h (h.sg xa xc) (h.ss xb xd)))::(b11,cel 27 (htl h (h.sg oa oc) (h.ss ob od)))::(b5,cel 27 (htl h (h.sg ag cg) (h.ss as_ cs)))::H,RowsA qa 1 (Zg ql)::Inn ql::RowsA ja 1 (Z3 gp)::RowsA ka 1 (Z3 to_)::RowsA la 1 (Z3 fr)::RowsA xb 3 (Z8 h.sights)::RowsA xa 2 (Z7 h.gaps)::RowsA ob 3 (Z8 h.sights)::RowsA oa 2 (Z7 h.gaps)::R⟩) ?_ ?_
 refine Z1 rfl ?_ ?_<;>intro hc3<;>try simp only [cS] at hc3
 have hsr:=ZeT (hpr.trans hc3)
 refine sqr 6 rfl (spL rfl rfl (lhA (htl h (h.sg xa xc) (h.ss xb xd)) Z1q rfl rfl rfl) rfl (pur 3 rfl ?_))
 refine clV rfl ZfI rfl rfl (Z5N h xa xb xc xd hok fr to_ gp af at_ ga cf ct gc hb.el hto (fun x hx=>((ZQ hc3).1 x hx).1) (by omega) (by omega) _ _) ?_
 refine pur 1 rfl ?_
 exact ZR () (by dsimp only;rw [hsr,hc3];exact sbA) idH
 have hsr:=Z91 hpr hc3
 refine Z2 ?_
 exact ZR () (by dsimp only;rw [hsr];exact sbA) idH
 rintro ⟨⟩
 dsimp only
 refine sqt 10 rfl (spL rfl rfl (lhA (htl h (h.sg xa xc) (h.ss xb xd)) Z1q rfl rfl rfl) rfl (pur 3 rfl ?_))
 refine clV rfl Zi9 rfl rfl (Z8g h xa xb xc xd fr to_ af at_ cf ct (by omega) (by omega) hfc htc hc2 pl ap cp (by omega) (by omega) _ _) ?_
 refine pur 5 rfl (sqr 5 rfl (spL rfl rfl (lhA (htl h (h.sg xa xc) (h.ss xb xd)) Z1q rfl rfl rfl) rfl (pur 2 rfl ?_)))
 refine cl rfl ZjJ rfl rfl (Zhn h xa xb xc xd fr to_ af at_ cf ct (by omega) (by omega) hfc htc hc2 _ _) ?_
 rintro _ _ R1 ⟨⟨m,hm,rfl⟩,rfl,hR1⟩
 obtain rfl:=hR1.symm
 clear hR1
 refine pur 1 rfl ?_
 exact Zk ⟨m,fun h9=>absurd hc2 h9,fun _=>hm⟩ idH
 have hsb:=Zgz (gp:=gp) hc2
 have hlb:=Zgd (ls:=lls pl) hc2
 refine Z2 ?_
 exact ZR ⟨0,fun _=>rfl,fun h9=>absurd h9 hc2⟩ (by dsimp only;rw [hsb,hlb.1,hlb.2];exact sbA) idH
 rintro ⟨m,hm⟩
 dsimp only at hm ⊢
 refine sqt 9 rfl (spL rfl rfl (lhA (htl h (h.sg oa oc) (h.ss ob od)) ZA rfl rfl rfl) rfl (pur 2 rfl ?_))
 refine cl rfl ZjI rfl rfl (Zhc h oa ob oc od (by omega) (by omega) fr to_ la ka lc kc (by omega) (by omega) hlc hkc m hm _ _) ?_
 rintro _ _ R1 ⟨ctl,va,vc,hclm,hclc,hclp,rfl,rfl,hR1⟩
 obtain rfl:=hR1.symm
 clear hR1
 refine pur 5 rfl (sqt 10 rfl (spL rfl rfl (lhA (htl h (h.sg oa oc) (h.ss ob od)) ZA rfl rfl rfl) rfl (pur 3 rfl ?_)))
 refine clV rfl ZjK rfl rfl (Zfr h oa ob oc od (by omega) (by omega) fr to_ la ka lc kc (by omega) (by omega) hlc hkc gp ja jc (by omega) hjc _ _) ?_
 refine pur 5 rfl (sqt 9 rfl (spL rfl rfl (lhA (htl h (h.sg oa oc) (h.ss ob od)) ZA rfl rfl rfl) rfl (pur 2 rfl ?_)))
 refine cl rfl Zkl rfl rfl (Zft h oa ob oc od (by omega) (by omega) fr to_ la ka lc kc (by omega) (by omega) hlc hkc m hm _ _) ?_
 rintro _ _ R1 ⟨wl,wa,wc,hwlm,hwlc,hwl10,hwlp,rfl,rfl,hR1⟩
 obtain rfl:=hR1.symm
 clear hR1
 refine pur 5 rfl (sqt 10 rfl (spL rfl rfl (lhA (htl h (h.sg oa oc) (h.ss ob od)) ZA rfl rfl rfl) rfl (pur 3 rfl ?_)))
 refine cl rfl Zi6 rfl rfl (Za4 h oa ob oc od (by omega) (by omega) fr to_ la ka lc kc (by omega) (by omega) hlc hkc ql qa qc (by omega) (by rw [hqe];omega) _ _) ?_
 rintro _ _ R1 ⟨rfl,rfl,hR1⟩
 obtain rfl:=hR1.symm
 clear hR1
 rw [hqe]
 refine pur 5 rfl (Z0 (sqt 40 rfl (pur 4 rfl ?_)))
 refine Zj 129 rfl ?_ ?_<;>intro g129
 first | (focus (simp only [decide_eq_true_eq] at g129;omega)) | exact absurd g129 (by simp)
 refine pur 5 rfl ?_
 refine Zj 134 rfl ?_ ?_<;>intro g134
 first | (focus (simp only [decide_eq_true_eq] at g134;omega)) | exact absurd g134 (by simp)
 refine pur 5 rfl ?_
 refine Zj 139 rfl ?_ ?_<;>intro g139
 first | (focus (simp only [decide_eq_true_eq] at g139;omega)) | exact absurd g139 (by simp)
 refine pur 5 rfl ?_
 refine Zj 144 rfl ?_ ?_<;>intro g144
 first | (focus (simp only [decide_eq_true_eq] at g144;omega)) | exact absurd g144 (by simp)
 refine pur 2 rfl ?_
 refine spG rfl rfl rfl rfl (PE.neqBool ub4 rfl rfl) rfl ?_
 refine pur 2 rfl ?_
 refine Zj 149 rfl ?_ ?_<;>intro g149
 first | (focus (simp only [decide_eq_true_eq] at g149;omega)) | exact absurd g149 (by simp)
 refine pur 5 rfl ?_
 refine Zj 154 rfl ?_ ?_<;>intro g154
 first | (focus (simp only [decide_eq_true_eq] at g154;omega)) | exact absurd g154 (by simp)
 refine pur 1 rfl ?_
 refine spG rfl rfl rfl rfl (PE.lenSl Zy rfl) rfl ?_
 refine pur 4 rfl ?_
 refine Zj 160 rfl ?_ ?_<;>intro g160
 first | (focus (simp only [decide_eq_true_eq] at g160;omega)) | exact absurd g160 (by simp)
 refine pur 1 rfl ?_
 refine spG rfl rfl rfl rfl (PE.lenSl Z0J rfl) rfl ?_
 refine pur 3 rfl ?_
 refine Z1 rfl ?_ ?_<;>intro hc4
 first | (focus (simp only [decide_eq_true_eq] at hc4;omega)) | exact absurd hc4 (by simp)
 refine Z2 (Z0 (sqt 2 rfl (pur 2 rfl ?_)))
 refine ZL (ι:=Unit) (fun _=>⟨[(1,.slice af fr.length cf),(2,.slice at_ to_.length ct),(3,.slice ga gp.length gc),(4,.slice ap pl.length cp),(5,.pointer (some ⟨b5,0,none⟩)),(11,.pointer (some ⟨b11,0,none⟩)),(12,.pointer (some ⟨b12,0,none⟩)),(13,.slice la fr.length lc),(14,.slice ka to_.length kc),(15,.slice ja gp.length jc),(16,.slice qa ql.length qc)],(b12,cel 57 (htl h (h.sg xa xc) (h.ss xb xd)))::(b11,cel 27 (htl h (h.sg oa oc) (h.ss ob od)))::(b5,cel 27 (htl h (h.sg ag cg) (h.ss as_ cs)))::H,RowsA qa 1 (Zg ql)::Inn ql::RowsA ja 1 (Z3 gp)::RowsA ka 1 (Z3 to_)::RowsA la 1 (Z3 fr)::RowsA xb 3 (Z8 h.sights)::RowsA xa 2 (Z7 h.gaps)::RowsA ob 3 (Z8 h.sights)::RowsA oa 2 (Z7 h.gaps)::R⟩) ?_ ?_
 refine Z1 rfl ?_ ?_<;>intro hc5<;>try simp only [cS] at hc5
 have hb:=Z0A hc5
 have hok:=hb.ok
 obtain ⟨q1,q2,q3,q4,q5,q6⟩:=ZV hb
 have hgl:=hok.gl
 have hto:=(ZQ hb.ek).1
 have hcp:=hclp hc5
 have hwp:=hwlp hc5
 have hfw:=hcp.few
 have hwt:(lls wl).flatten.length≤10:=by
   have h9:=hwp.nd.length_le_of_subset (l₂:=(List.range 10).map fun i:Nat=>(i:Int)) fun x hx=>by
     have:=hwp.rng x hx
     exact List.mem_map.2 ⟨x.toNat,List.mem_range.2 (by omega),by omega⟩
   simpa using h9
 refine Z0 (sqt 14 rfl (pur 1 rfl (sp rfl (PE.fA ZT rfl) rfl (spL rfl rfl (lh Z2g rfl rfl) rfl (sp rfl (PE.lenSl Z1s rfl) rfl ?_)))))
 refine cl rfl Z7v rfl rfl (Z1f ctl va vc (h.gaps.length:Int) (by omega) (by omega) hclc _ _) ?_
 rintro _ _ R1 ⟨rfl,rfl,hR1⟩
 obtain rfl:=hR1.symm
 clear hR1
 rw [hcp.ls]
 refine pur 2 rfl ?_
 refine Zj 174 rfl ?_ ?_<;>intro g174
 exact absurd g174 (by simp)
 refine Z0m rfl rfl rfl rfl rfl (lhA (htl h (h.sg xa xc) (h.ss xb xd)) Z1q rfl rfl rfl) rfl (pur 3 rfl ?_)
 refine clG rfl rfl rfl rfl ZfI rfl rfl (Z5N h xa xb xc xd hok fr to_ ctl af at_ va cf ct vc hb.el hto (fun x hx=>((ZQ hcp.ls).1 x hx).1) (by omega) (by omega) _ _) ?_
 rintro _ _ R1 ⟨rfl,rfl,hR1⟩
 obtain rfl:=hR1.symm
 clear hR1
 rw [hcp.sh]
 refine pur 2 rfl ?_
 refine Z1 rfl ?_ ?_<;>intro hc6
 exact absurd hc6 (by simp)
 refine Z2 (Z0 (sqt 1 rfl (pur 1 rfl (Z4 ?_))))
 refine Ze (ι:={k:Nat // 1≤k∧k≤ctl.length+1}) (fun k=>⟨[(1,.slice af fr.length cf),(2,.slice at_ to_.length ct),(3,.slice ga gp.length gc),(4,.slice ap pl.length cp),(5,.pointer (some ⟨b5,0,none⟩)),(11,.pointer (some ⟨b11,0,none⟩)),(12,.pointer (some ⟨b12,0,none⟩)),(13,.slice la fr.length lc),(14,.slice ka to_.length kc),(15,.slice ja gp.length jc),(16,.slice qa ql.length qc),(22,.int .i64 (m:Int)),(23,.slice va ctl.length vc),(27,.slice wa wl.length wc),(31,.int .i64 (k.1:Int))],(b12,cel 57 (htl h (h.sg xa xc) (h.ss xb xd)))::(b11,cel 27 (htl h (h.sg oa oc) (h.ss ob od)))::(b5,cel 27 (htl h (h.sg ag cg) (h.ss as_ cs)))::H,RowsA wa 1 (Zg wl)::Inn wl::RowsA va 1 (Z3 ctl)::RowsA qa 1 (Zg ql)::Inn ql::RowsA ja 1 (Z3 gp)::RowsA ka 1 (Z3 to_)::RowsA la 1 (Z3 fr)::RowsA xb 3 (Z8 h.sights)::RowsA xa 2 (Z7 h.gaps)::RowsA ob 3 (Z8 h.sights)::RowsA oa 2 (Z7 h.gaps)::R⟩) (fun k=>ctl.length+1-k.1) ⟨1,Nat.le_refl _,by omega⟩ ?_ (fun k=>?_)
 exact Zi idH
 obtain ⟨k,hk1,hk2⟩:=k
 dsimp only at hk1 hk2 ⊢
 refine Z0 (sqt 4 rfl (pur 2 rfl (sp rfl (PE.lenSl Zy rfl) rfl (pur 1 rfl ?_))))
 refine Z1 rfl ?_ ?_<;>intro hc7<;>try simp only [cS] at hc7
 obtain ⟨u,hu⟩:∃ u,ctl[k]?=some u:=⟨_,List.getElem?_eq_getElem (by omega)⟩
 obtain ⟨v,hv⟩:∃ v,ctl[k-1]?=some v:=⟨_,List.getElem?_eq_getElem (by omega)⟩
 have hac:=hcp.asc (k-1) (by omega)
 rw [Z1n hv,show k-1+1=k by omega,Z1n hu] at hac
 refine Zh (a:=va) (sz:=1) (rows:=Z3 ctl) (ne0 (by rw [irl];omega)) (fun ba oa9 he=>?_)
 subst he
 refine Z2 (Z0 (Z4 (Z0 ?_)))
 refine Zo [0,0,3,7,0,0,32,112,240,511] (tks 0 3 (.ld 3 (tks 4 4 (.ld 8 (.tk 9 .done))))) ZF (by kernel_rfl) ?_
 refine Zu 2 rfl (tk rfl (PE.indexAddr Z0c rfl rfl (by omega) (by omega)) rfl (ld rfl rfl (lf0 sc3 (ZB hu) rfl) rfl (Zu 2 rfl (tk rfl (PE.sub rfl rfl (by omega)) rfl ?_))))
 rw [show (k:Int)-1=((k-1:Nat):Int) from by omega]
 refine tk rfl (PE.indexAddr Z0c rfl rfl (by omega) (by omega)) rfl (ld rfl rfl (lf0 sc3 (ZB hv) rfl) rfl (Zu 1 rfl ?_))
 refine Z1 rfl ?_ ?_<;>intro hc8
 simp only [decide_eq_true_eq] at hc8
 omega
 refine Z2 (sqr 3 rfl (pur 1 rfl (sp rfl (PE.add rfl rfl (by omega)) rfl (pur 1 rfl ?_))))
 exact Zb ⟨k+1,by omega,by omega⟩ idH
 refine Z9 (Za (Za (Zm (sqt 10 rfl (spL rfl rfl (lhA (htl h (h.sg xa xc) (h.ss xb xd)) Z1q rfl rfl rfl) rfl (pur 3 rfl ?_))))))
 refine cl rfl Zi9 rfl rfl (Z8g h xa xb xc xd fr to_ af at_ cf ct (by omega) (by omega) hfc htc hc5 wl wa wc (by omega) (by omega) _ _) ?_
 rintro _ _ R1 ⟨rfl,rfl,hR1⟩
 obtain rfl:=hR1.symm
 clear hR1
 rw [(hwp.led hc5).1,(hwp.led hc5).2]
 refine pur 5 rfl (sqt 7 rfl (pur 3 rfl ?_))
 refine Zj 208 rfl ?_ ?_<;>intro g208
 first | (focus (simp only [decide_eq_true_eq] at g208;omega)) | exact absurd g208 (by simp)
 refine pur 4 rfl ?_
 refine Z1 rfl ?_ ?_<;>intro hc9
 first | (focus (simp only [decide_eq_true_eq] at hc9;omega)) | exact absurd hc9 (by simp)
 refine Z2 ?_
 exact Zk () (fun w h9=>h9.ftail.ftail.ftail)
 refine Z2 ?_
 exact Zk () (fun w h9=>h9.ftail.ftail.ftail)
 rintro ⟨⟩
 dsimp only
 refine sqt 27 rfl (spL rfl rfl (lhA (htl h (h.sg oa oc) (h.ss ob od)) ZA rfl rfl rfl) rfl (spL rfl rfl (lhA (htl h (h.sg ag cg) (h.ss as_ cs)) ZA rfl rfl rfl) rfl ?_))
 refine clV rfl Z7t rfl rfl (Z4y h h oa ob ag as_ oc od cg cs (by omega) (by omega) (by omega) (by omega) _ _) ?_
 refine pur 1 rfl ?_
 refine Zj 216 rfl ?_ ?_<;>intro g216
 refine pur 2 rfl ?_
 refine Z0C rfl rfl rfl rfl Z1Y rfl rfl (ZW fr fr la af lc cf (by omega) (by omega) _ _) ?_
 refine pur 2 rfl ?_
 refine Zj 221 rfl ?_ ?_<;>intro g221
 refine pur 2 rfl ?_
 refine Z0C rfl rfl rfl rfl Z1Y rfl rfl (ZW to_ to_ ka at_ kc ct (by omega) (by omega) _ _) ?_
 refine pur 2 rfl ?_
 refine Zj 226 rfl ?_ ?_<;>intro g226
 refine pur 2 rfl ?_
 refine Z0C rfl rfl rfl rfl Z1Y rfl rfl (ZW gp gp ja ga jc gc (by omega) (by omega) _ _) ?_
 refine pur 2 rfl ?_
 refine Zj 231 rfl ?_ ?_<;>intro g231
 refine pur 2 rfl ?_
 refine Z0C rfl rfl rfl rfl ZfH rfl rfl (Z5I ql qa qc (by omega) (fun x hx=>by have:=hqi x hx;omega) pl ap cp (by omega) (fun x hx=>by have:=hpi9 x hx;omega) _ _) ?_
 refine pur 2 rfl ?_
 refine Zj 236 rfl ?_ ?_<;>intro g236
 refine Z0C rfl rfl rfl rfl Z2U rfl rfl (Z0x _ _) ?_
 refine pur 2 rfl (Z5 ?_)
 exact rtA rfl rfl rfl ⟨rfl,rfl,rfl⟩ (fun w h9=>St.sub (((h9.del b12).del b11).del b5))
 exact absurd g236 (by rw [hqe];simp)
 exact absurd g231 (by simp)
 exact absurd g226 (by simp)
 exact absurd g221 (by simp)
 rw [sameH_iff.2 rfl] at g216;exact absurd g216 (by decide)
theorem Z8i:cal Tryz.prog 116=true:=by kernel_rfl
structure MinI (P:Nat→Bool) (k:Nat) (f:Bool) (b:List Int):Prop where
 no:f=false→(∀ t,t<k→P t=false)∧b=[]
 yes:f=true→(∃ t,t<k∧P t=true∧b=Zs t)∧∀ t,t<k→P t=true→ahB (Zs t) b=false
theorem MinI.start (P:Nat→Bool):MinI P 0 false []:=⟨fun _=>⟨fun t h1=>by omega,rfl⟩,(fun h=>by cases h)⟩
theorem MinI.take {P:Nat→Bool} {k:Nat} {f:Bool} {b:List Int} (h:MinI P k f b) (h1:f=false∨ahB (Zs k) b=true) (h2:P k=true):MinI P (k+1) true (Zs k):=by
 refine ⟨(fun h=>by cases h),fun _=>⟨⟨k,by omega,h2,rfl⟩,fun t t2 t3=>?_⟩⟩
 by_cases e:t=k
 · subst e;exact Z7l _
 · cases hf:f with
   | false=>rw [(h.no hf).1 t (by omega)] at t3;cases t3
   | true =>
     have h3:=(h.yes hf).2 t (by omega) t3
     have h4:=h1.resolve_left (by rw [hf];simp)
     exact Z7k (Z5D h4 h3)
theorem MinI.skip {P:Nat→Bool} {k:Nat} {f:Bool} {b:List Int} (h:MinI P k f b) (h1:P k=false∨(f=true∧ahB (Zs k) b=false)):MinI P (k+1) f b:=by
 refine ⟨fun hf=>⟨fun t t2=>?_,(h.no hf).2⟩,fun hf=>⟨?_,fun t t2 t3=>?_⟩⟩
 · by_cases e:t=k
   · subst e
     rcases h1 with h1 | h1
     · exact h1
     · rw [h1.1] at hf;cases hf
   · exact (h.no hf).1 t (by omega)
 · obtain ⟨t,t2,t3⟩:=(h.yes hf).1
   exact ⟨t,by omega,t3⟩
 · by_cases e:t=k
   · subst e
     rcases h1 with h1 | h1
     · rw [h1] at t3;cases t3
     · exact h1.2
   · exact (h.yes hf).2 t (by omega) t3
theorem MinI.short {has:List Int→Bool} {n:Nat} {b:List Int} (hn:n≤10) (h:MinI (fun t=>has (Zs t)) (2 ^ n) true b):Z0t has n=some b:=by
 obtain ⟨⟨t,t1,t2,rfl⟩,h2⟩:=h.yes rfl
 obtain ⟨y,y1,y2,y3⟩:=Z23 t
 have y4:∀ j∈y,j<n:=fun j hj=>Z0n t1 ((y3 j).1 hj).2
 obtain ⟨x,hx⟩:=Z3M (has:=has) y2 y4 (by rw [← y1];exact t2)
 obtain ⟨⟨t',t3,t4⟩,h3,h4⟩:=Z4P hn hx
 have h5:=h4 t t1 t2
 have h6:=h2 t' t3 (by rw [t4];exact h3)
 rw [t4] at h6
 rw [hx,Z84 h6 h5]
def cP (p:Nat→Bool) (n:Nat):Nat:=(List.range n).countP p
theorem Zfj (p:Nat→Bool):cP p 0=0:=rfl
theorem Z5H (p:Nat→Bool) (n:Nat):cP p (n+1)=cP p n+(bif p n then 1 else 0):=by
 unfold cP
 rw [List.range_succ,List.countP_append,List.countP_singleton]
 cases p n<;>rfl
theorem Zfi (p:Nat→Bool) (n:Nat):cP p n≤n:=by
 have:=List.countP_le_length (p:=p) (l:=List.range n)
 rw [List.length_range] at this;exact this
theorem cP_pos {p:Nat→Bool} {n:Nat}:0<cP p n↔∃ t,t<n∧p t=true:=by
 unfold cP
 rw [List.countP_pos_iff]
 exact ⟨fun ⟨t,h1,h2⟩=>⟨t,List.mem_range.1 h1,h2⟩,fun ⟨t,h1,h2⟩=>⟨t,List.mem_range.2 h1,h2⟩⟩
theorem Zha {p q:Nat→Bool} {n:Nat} (h:∀ t,q t=true→p t=true):cP q n=cP p n↔∀ t,t<n→p t=true→q t=true:=by
 constructor
 · intro e t ht hp
   cases hq:q t with
   | true=>rfl
   | false =>
     have:cP q n<cP p n:=Z2j (fun x _ hx=>h x hx) ⟨t,List.mem_range.2 ht,hp,hq⟩
     omega
 · intro h2
   unfold cP
   exact List.countP_congr fun t ht=>⟨h t,h2 t (List.mem_range.1 ht)⟩
def Z17 (f:Nat→Int) (n:Nat):List Int:=(List.range n).map f
theorem Z01 (f:Nat→Int) (n:Nat):(Z17 f n).length=n:=by simp [Z17]
theorem Z4d {f:Nat→Int} {n k:Nat} (h:k<n):(Z17 f n)[k]?=some (f k):=by unfold Z17;rw [List.getElem?_map,List.getElem?_range h];rfl
theorem Z60 {f:Nat→Int} {n k:Nat} (h:k<n):na (Z17 f n) k=f k:=Z1n (Z4d h)
theorem Z7F {f g:Nat→Int} {n:Nat} (h:∀ k,k<n→f k=g k):Z17 f n=Z17 g n:=List.map_congr_left fun k hk=>h k (List.mem_range.1 hk)
theorem Z8F {f g:Nat→Int} {n k:Nat} {v:Int} (hv:g k=v) (h:∀ j,j<n→j≠k→f j=g j):(Z17 f n).set k v=Z17 g n:=by
 refine List.ext_getElem? fun j=>?_
 rw [List.getElem?_set]
 by_cases e:k=j
 · subst e
   rw [if_pos rfl]
   by_cases hk:k<n
   · rw [if_pos (by rw [Z01];exact hk),Z4d hk,hv]
   · rw [if_neg (by rw [Z01];exact hk),List.getElem?_eq_none (by rw [Z01];omega)]
 · rw [if_neg e]
   by_cases hj:j<n
   · rw [Z4d hj,Z4d hj,h j hj (fun e9=>e e9.symm)]
   · rw [List.getElem?_eq_none (by rw [Z01];omega),List.getElem?_eq_none (by rw [Z01];omega)]
theorem Zbi (n:Nat):List.replicate n (0:Int)=Z17 (fun _=>0) n:=by
 unfold Z17
 rw [List.map_const',List.length_range]
def Zcs (gs:List Gp) (week:Int) (t k:Nat):Bool:=decide (0≤wkC gs 0 t k)&&decide (wkC gs 0 t k≤week)
def exB (h:Hse) (t:Nat):Bool:=Z1D h.gaps t h.sights
def erB (h:Hse) (week:Int) (k t:Nat):Bool:=exB h t&&Zcs h.gaps week t k
def Z1J (h:Hse) (week:Int) (s i:Nat):Nat→Int:=fun k=>(cP (erB h week k) (s+(bif decide (k<i) then 1 else 0)):Nat)
def Z36 (h:Hse) (week:Int) (s i:Nat):Nat→Int:=fun k=>bif decide (0<cP (erB h week k) (s+(bif decide (k<i) then 1 else 0))) then 1 else 0
theorem Z1w (h:Hse) (week:Int) (s:Nat):Z1J h week s 0=(fun k=>((cP (erB h week k) s:Nat):Int))∧Z36 h week s 0=fun k=>bif decide (0<cP (erB h week k) s) then 1 else 0:=by
 refine ⟨funext fun k=>?_,funext fun k=>?_⟩
 · unfold Z1J;rw [decide_eq_false (Nat.not_lt_zero k)];rfl
 · unfold Z36;rw [decide_eq_false (Nat.not_lt_zero k)];rfl
theorem idx_all {h:Hse} {week:Int} {s B:Nat}:Z17 (Z1J h week s B) B=Z17 (Z1J h week (s+1) 0) B∧Z17 (Z36 h week s B) B=Z17 (Z36 h week (s+1) 0) B:=by
 refine ⟨Z7F fun k hk=>?_,Z7F fun k hk=>?_⟩
 · unfold Z1J;rw [decide_eq_true hk,decide_eq_false (Nat.not_lt_zero k)];rfl
 · unfold Z36;rw [decide_eq_true hk,decide_eq_false (Nat.not_lt_zero k)];rfl
theorem ZeB {h:Hse} {week:Int} {s:Nat} (he:exB h s=false):Z1J h week (s+1) 0=Z1J h week s 0∧Z36 h week (s+1) 0=Z36 h week s 0:=by
 have e:∀ k,cP (erB h week k) (s+1)=cP (erB h week k) s:=fun k=>by rw [Z5H];unfold erB;rw [he];rfl
 rw [(Z1w h week (s+1)).1,(Z1w h week s).1,(Z1w h week (s+1)).2,(Z1w h week s).2]
 exact ⟨funext fun k=>by rw [e k],funext fun k=>by rw [e k]⟩
theorem Z13 {h:Hse} {week:Int} {s i:Nat} (he:Zcs h.gaps week s i=false):Z1J h week s (i+1)=Z1J h week s i∧Z36 h week s (i+1)=Z36 h week s i:=by
 have e:∀ k,cP (erB h week k) (s+(bif decide (k<i+1) then 1 else 0))=cP (erB h week k) (s+(bif decide (k<i) then 1 else 0)):=fun k=>by
   rcases Nat.lt_trichotomy k i with h1 | h1 | h1
   · rw [decide_eq_true h1,decide_eq_true (show k<i+1 by omega)]
   · subst h1
     rw [decide_eq_true (Nat.lt_succ_self k),decide_eq_false (Nat.lt_irrefl k),cond_true,cond_false,Z5H]
     unfold erB;rw [he,Bool.and_false];rfl
   · rw [decide_eq_false (show ¬ k<i by omega),decide_eq_false (show ¬ k<i+1 by omega)]
 exact ⟨funext fun k=>by unfold Z1J;rw [e k],funext fun k=>by unfold Z36;rw [e k]⟩
theorem ZeC {h:Hse} {week:Int} {s i B:Nat} (hx:exB h s=true) (he:Zcs h.gaps week s i=true):(Z17 (Z1J h week s i) B).set i (Z1J h week s i i+1)=Z17 (Z1J h week s (i+1)) B∧(Z17 (Z36 h week s i) B).set i 1=Z17 (Z36 h week s (i+1)) B:=by
 have e1:cP (erB h week i) (s+1)=cP (erB h week i) s+1:=by rw [Z5H];unfold erB;rw [hx,he];rfl
 have e2:∀ j,j≠i→decide (j<i)=decide (j<i+1):=fun j hj=>decide_eq_decide.2 (by omega)
 refine ⟨Z8F ?_ fun j _ hj=>?_,Z8F ?_ fun j _ hj=>?_⟩
 · unfold Z1J
   rw [decide_eq_true (Nat.lt_succ_self i),decide_eq_false (Nat.lt_irrefl i),cond_true,cond_false,e1];rfl
 · unfold Z1J;rw [e2 j hj]
 · unfold Z36
   rw [decide_eq_true (Nat.lt_succ_self i),cond_true,e1,decide_eq_true (Nat.succ_pos _)];rfl
 · unfold Z36;rw [e2 j hj]
theorem Z9Q {h:Hse} {week:Int} {s i k:Nat}:0≤Z1J h week s i k∧Z1J h week s i k≤(s:Int)+1:=by
 unfold Z1J
 have:=Zfi (erB h week k) (s+(bif decide (k<i) then 1 else 0))
 have h1:(bif decide (k<i) then 1 else 0:Nat)≤1:=by cases decide (k<i)<;>decide
 omega
def Z3Q (h:Hse) (week:Int) (k:Nat):Bool:=decide (0<cP (exB h) (2 ^ h.bins.toNat))&&decide (cP (erB h week k) (2 ^ h.bins.toNat)=cP (exB h) (2 ^ h.bins.toNat))
def Z45 (h:Hse) (week:Int) (k:Nat):Bool:=decide (0<cP (erB h week k) (2 ^ h.bins.toNat))
theorem Z9u {h:Hse} {week:Int} {k:Nat}:Z45 h week k=decide (Z36 h week (2 ^ h.bins.toNat) 0 k=1):=by
 have e:Z36 h week (2 ^ h.bins.toNat) 0 k=bif decide (0<cP (erB h week k) (2 ^ h.bins.toNat)) then 1 else 0:=by rw [(Z1w h week _).2]
 unfold Z45
 refine decide_eq_decide.2 ?_
 rw [e]
 exact ⟨fun h1=>by rw [decide_eq_true h1];rfl,fun h1=>Classical.byContradiction fun h2=>by rw [decide_eq_false h2] at h1;cases h1⟩
theorem Zc5 {h:Hse} {week:Int} {k:Nat}:Z3Q h week k=(decide (0<cP (exB h) (2 ^ h.bins.toNat))&&decide (Z1J h week (2 ^ h.bins.toNat) 0 k=((cP (exB h) (2 ^ h.bins.toNat):Nat):Int))):=by
 rw [(Z1w h week _).1]
 unfold Z3Q
 congr 1
 exact decide_eq_decide.2 (by dsimp only;omega)
theorem Z8V {h:Hse} (hk:h.ok) {week:Int} (hw:0≤week∧week≤9) {t k:Nat} (ht:t<2 ^ h.bins.toNat):Zcs h.gaps week t k=(lv h.gaps 0 t week.toNat).testBit k:=by
 have h7:t<2 ^ 7:=ZiI (by have:=hk.bins;omega) ht
 have h1:=Z7Y (gs:=h.gaps) (cl:=0) (m:=t) (k:=k) hk.wth h7 (t:=week.toNat) (by unfold far;omega)
 have h2:=Z6p h.gaps 0 t k
 rw [Bool.eq_iff_iff,← h1]
 unfold Zcs wkC
 rw [Bool.and_eq_true,decide_eq_true_eq,decide_eq_true_eq]
 by_cases hf:far≤wk h.gaps 0 t k
 · rw [decide_eq_true hf,cond_true]
   unfold far at hf
   omega
 · rw [decide_eq_false hf,cond_false]
   omega
theorem ZgL {h:Hse} (hk:h.ok) {week:Int} (hw:0≤week∧week≤9) (ha:h.agr h.sights=true) {k:Nat}:Z3Q h week k=h.surB week k:=by
 have h1:=Ze0 hk hk.sights (k:=k) hw
 obtain ⟨m,m1,m2⟩:=(Z1A hk hk.sights).1 ha
 have h2:0<cP (exB h) (2 ^ h.bins.toNat):=cP_pos.2 ⟨m,m1,m2⟩
 have h3:=Zha (p:=exB h) (q:=erB h week k) (n:=2 ^ h.bins.toNat) (fun t ht=>(Bool.and_eq_true _ _▸(show (exB h t&&Zcs h.gaps week t k)=true from ht)).1)
 unfold Z3Q Hse.surB
 rw [decide_eq_true h2,Bool.true_and,Bool.eq_iff_iff,decide_eq_true_eq,h3,Bool.not_eq_true',h1]
 refine forall_congr' fun t=>?_
 constructor
 · intro h4 h5 h6
   have h7:=h4 h5 h6
   unfold erB at h7
   rw [Bool.and_eq_true,Z8V hk hw h5] at h7
   exact h7.2
 · intro h4 h5 h6
   unfold erB
   rw [h6,Bool.true_and,Z8V hk hw h5]
   exact h4 h5 h6
theorem Zgq {h:Hse} (hk:h.ok) {week:Int} (hw:0≤week∧week≤9) (ha:h.agr h.sights=true) {k:Nat}:Z45 h week k=h.perB week k:=by
 have h1:=ZdH hk hk.sights ha (k:=k) (week:=week)
 have h7:msk (h.clr h.sights (-1) 0)<2 ^ 7:=ZiI (by have:=hk.bins;omega) (Z6I hk)
 have h2:=Z7Y (gs:=h.gaps) (cl:=0) (m:=msk (h.clr h.sights (-1) 0)) (k:=k) hk.wth h7 (t:=week.toNat) (by unfold far;omega)
 rw [show ((week.toNat:Nat):Int)=week by omega] at h2
 unfold Z45 Hse.perB
 rw [Bool.eq_iff_iff,decide_eq_true_eq,decide_eq_true_eq,h2,h1,cP_pos]
 refine exists_congr fun t=>?_
 constructor
 · rintro ⟨h3,h4⟩
   unfold erB at h4
   rw [Bool.and_eq_true,Z8V hk hw h3] at h4
   exact ⟨h3,h4.1,h4.2⟩
 · rintro ⟨h3,h4,h5⟩
   refine ⟨h3,?_⟩
   unfold erB
   rw [Z8V hk hw h3,Bool.and_eq_true]
   exact ⟨h4,h5⟩
theorem Zex {p q:Nat→Bool} {n:Nat} (h:∀ k,k<n→p k=q k):Z1E p n=Z1E q n:=by
 unfold Z1E
 rw [List.filter_congr fun k hk=>h k (List.mem_range.1 hk)]
theorem Z5o {s B:Nat} (hB:B≤10) (hs:s<2 ^ B):ZM (B:Int) (Zs s)=0:=Z2B (fun x hx=>by obtain ⟨k,_,h2,rfl⟩:=memL_bit.1 hx;have:=Z0n hs h2;omega) (Z7I s)
theorem Z8C {a b:List Int} (hl:a.length=b.length):∀ {i:Nat},a.take i=b.take i→Z39 a b=Z39 (a.drop i) (b.drop i)
 | 0,_=>rfl
 | i+1,h=>by
   have h1:a.take i=b.take i:=by
     have:=congrArg (List.take i) h
     rw [List.take_take,List.take_take,show min i (i+1)=i by omega] at this;exact this
   rw [Z8C hl h1]
   rcases Nat.lt_or_ge i a.length with h2 | h2
   · have h3:i<b.length:=by omega
     rw [List.drop_eq_getElem_cons h2,List.drop_eq_getElem_cons h3]
     have h4:a[i]=b[i]:=by
       have h8:=congrArg (fun z=>z[i]?) h
       simp only [List.getElem?_take,show i<i+1 by omega,if_true] at h8
       rw [List.getElem?_eq_getElem h2,List.getElem?_eq_getElem h3] at h8
       exact Option.some.inj h8
     show Z39 _ _=_
     rw [Z39,h4,decide_eq_false (by simp)];rfl
   · rw [List.drop_eq_nil_of_le h2,List.drop_eq_nil_of_le (show a.length≤i+1 by omega)];unfold Z39;rfl
theorem Zix {a b:List Int} {i:Nat} {x y:Int} (hl:a.length=b.length) (h:a.take i=b.take i) (hx:a[i]?=some x) (hy:b[i]?=some y) (hn:x≠y):Z39 a b=decide (x<y):=by
 obtain ⟨h2,e2⟩:=List.getElem?_eq_some_iff.1 hx
 obtain ⟨h3,e3⟩:=List.getElem?_eq_some_iff.1 hy
 rw [Z8C hl h,List.drop_eq_getElem_cons h2,List.drop_eq_getElem_cons h3,e2,e3,Z39,decide_eq_true hn];rfl
theorem Zdp (a:List Int):Z39 a a=false:=by
 induction a with
 | nil=>rfl
 | cons x a ih=>unfold Z39;rw [decide_eq_false (by simp)];exact ih
theorem Zc9 {a b:List Int} {i:Nat} {x:Int} (h:a.take i=b.take i) (hx:a[i]?=some x) (hy:b[i]?=some x):a.take (i+1)=b.take (i+1):=by
 rw [List.take_add_one,List.take_add_one,h,hx,hy]
theorem MinI.cg {P Q:Nat→Bool} {k:Nat} {f:Bool} {b:List Int} (h:MinI P k f b) (e:∀ t,t<k→P t=Q t):MinI Q k f b:=by
 refine ⟨fun hf=>⟨fun t ht=>by rw [← e t ht];exact (h.no hf).1 t ht,(h.no hf).2⟩,fun hf=>?_⟩
 obtain ⟨⟨t,t1,t2,t3⟩,h2⟩:=h.yes hf
 exact ⟨⟨t,t1,by rw [← e t t1];exact t2,t3⟩,fun t ht h3=>h2 t ht (by rw [e t ht];exact h3)⟩
theorem Zcx (h:Hse) (week:Int) (B:Nat):Z17 (Z1J h week 0 0) B=List.replicate B 0∧Z17 (Z36 h week 0 0) B=List.replicate B 0:=by
 rw [Zbi,(Z1w h week 0).1,(Z1w h week 0).2]
 exact ⟨rfl,Z7F fun k _=>by rw [Zfj];rfl⟩
theorem ZeQ {gs:List Gp} {week y:Int} {t k:Nat} (hy:y=wkC gs 0 t k):(0≤y→y≤week→Zcs gs week t k=true)∧(¬ 0≤y→Zcs gs week t k=false)∧(¬ y≤week→Zcs gs week t k=false):=by
 unfold Zcs
 rw [← hy]
 refine ⟨fun h1 h2=>by rw [decide_eq_true h1,decide_eq_true h2];rfl,fun h1=>by rw [decide_eq_false h1];rfl,fun h1=>by rw [decide_eq_false h1,Bool.and_false]⟩
theorem cP_ex {h:Hse} {s:Nat}:(exB h s=true→cP (exB h) (s+1)=cP (exB h) s+1)∧(exB h s=false→cP (exB h) (s+1)=cP (exB h) s):=by
 rw [Z5H]
 exact ⟨fun e=>by rw [e];rfl,fun e=>by rw [e];rfl⟩
theorem Z47 (xs ys:List Int) (hx:xs.length≤100) (hy:ys.length≤100) (a1 a2:Option Addr) (c1 c2:Nat) (H:Zf) (R:Z6) [hA1:MemRows a1 1 (Z3 xs) R] [hA2:MemRows a2 1 (Z3 ys) R] :
    FnV Tryz.prog 116 [.slice a1 xs.length c1,.slice a2 ys.length c2] H R (.bool (ahB xs ys)):=by
 refine Zl Tryz.func116 rfl Tryz.ntmps116 rfl ?_
 refine sqt 1 rfl (pur 1 rfl (Z0 (sqt 5 rfl (pur 1 rfl (sp rfl (PE.lenSl Zy rfl) rfl (pur 1 rfl (sp rfl (PE.lenSl Zy rfl) rfl (pur 1 rfl ?_))))))))
 refine Z1 rfl ?_ ?_<;>intro hc0<;>try simp only [cS] at hc0
 have hres:ahB xs ys=decide (xs.length<ys.length):=by unfold ahB;rw [dT (show xs.length≠ys.length by omega)];rfl
 refine sqt 6 rfl (pur 1 rfl (sp rfl (PE.lenSl Zy rfl) rfl (pur 1 rfl (sp rfl (PE.lenSl Zy rfl) rfl (pur 2 rfl (Z5 ?_))))))
 exact rtA rfl rfl rfl ⟨by simp only [ZU];rw [hres];congr 1;exact decide_eq_decide.2 (by omega),rfl,rfl⟩ drp
 have hle:xs.length=ys.length:=by omega
 have hre:ahB xs ys=Z39 xs ys:=by unfold ahB;rw [dF (by omega)];rfl
 refine Z2 (Z0 (sqt 1 rfl (pur 1 rfl (Z4 ?_))))
 refine Ze (ι:={i:Nat // i≤xs.length∧xs.take i=ys.take i}) (fun i=>⟨[(0,.slice a1 xs.length c1),(1,.slice a2 ys.length c2),(5,.int .i64 i.1)],H,R⟩) (fun i=>xs.length-i.1) ⟨0,by omega,rfl⟩ ?_ (fun i=>?_)
 exact Zi idH
 obtain ⟨i,hi,hsm⟩:=i
 dsimp only at hi hsm ⊢
 refine Z0 (sqt 4 rfl (pur 2 rfl (sp rfl (PE.lenSl Zy rfl) rfl (pur 1 rfl ?_))))
 refine Z1 rfl ?_ ?_<;>intro hc1<;>try simp only [cS] at hc1
 obtain ⟨x,hxx⟩:∃ x,xs[i]?=some x:=⟨_,List.getElem?_eq_getElem (by omega)⟩
 obtain ⟨y,hyy⟩:∃ y,ys[i]?=some y:=⟨_,List.getElem?_eq_getElem (by omega)⟩
 refine Zh (a:=a1) (sz:=1) (rows:=Z3 xs) (ne0 (by rw [irl];omega)) (fun ba bo he=>?_)
 subst he
 refine Zh (a:=a2) (sz:=1) (rows:=Z3 ys) (ne0 (by rw [irl];omega)) (fun bb ob he=>?_)
 subst he
 refine Z2 (Z0 (Z4 (Z0 ?_)))
 refine Zo [0,0,3,7,0,0,48,112,255] (tks 0 3 (.ld 3 (tks 4 3 (.ld 7 (.tk 8 .done))))) ZF (by kernel_rfl) ?_
 refine Zu 2 rfl (tk rfl (PE.indexAddr Z0c rfl rfl (by omega) (by omega)) rfl (ld rfl rfl (lf0 (x:=.int .i64 x) sc3 (ZB hxx) rfl) rfl (Zu 2 rfl (tk rfl (PE.indexAddr Z0c rfl rfl (by omega) (by omega)) rfl (ld rfl rfl (lf0 (x:=.int .i64 y) sc3 (ZB hyy) rfl) rfl (Zu 1 rfl ?_))))))
 refine Z1 rfl ?_ ?_<;>intro hc2<;>try simp only [cS] at hc2
 have hres:ahB xs ys=decide (x<y):=by rw [hre];exact Zix hle hsm hxx hyy (by omega)
 refine Z0 ?_
 refine Zo [0,0,3,7,0,0,48,112,255,511] (tks 0 3 (.ld 3 (tks 4 3 (.ld 7 (.tk 8 (.tk 9 .done)))))) ZF (by kernel_rfl) ?_
 refine Zu 2 rfl (tk rfl (PE.indexAddr Z0c rfl rfl (by omega) (by omega)) rfl (ld rfl rfl (lf0 (x:=.int .i64 x) sc3 (ZB hxx) rfl) rfl (Zu 2 rfl (tk rfl (PE.indexAddr Z0c rfl rfl (by omega) (by omega)) rfl (ld rfl rfl (lf0 (x:=.int .i64 y) sc3 (ZB hyy) rfl) rfl (Zu 2 rfl (Z5 ?_)))))))
 exact rtA rfl rfl rfl ⟨by simp only [ZU];rw [hres],rfl,rfl⟩ drp
 obtain rfl:x=y:=by omega
 refine Z2 (sqr 3 rfl (pur 1 rfl (sp rfl (PE.add rfl rfl (by omega)) rfl (pur 1 rfl ?_))))
 exact Zb ⟨i+1,by omega,Zc9 hsm hxx hyy⟩ idH
 obtain rfl:i=xs.length:=by omega
 have hsame:xs=ys:=by rw [List.take_length] at hsm;rw [hle,List.take_length] at hsm;exact hsm
 have hres:ahB xs ys=false:=by rw [hre,← hsame];exact Zdp xs
 refine Z9 (Za (Za (Zm (sqt 1 rfl (pur 1 rfl (Z5 ?_))))))
 exact rtA rfl rfl rfl ⟨by simp only [ZU];rw [hres],rfl,rfl⟩ drp
set_option maxHeartbeats 800000 in
theorem Z9h (h:Hse) (ag as_:Option Addr) (cg cs:Nat) (hok:h.ok) (week:Int) (H:Zf) (R:Z6) [hG:MemRows ag 2 (Z7 h.gaps) R] [hS:MemRows as_ 3 (Z8 h.sights) R] :
    Fn Tryz.prog 65 [h.v (h.sg ag cg) (h.ss as_ cs),.int .i64 week] H R (fun v H' R'=>∃ (f:Bool) (bs:List Int) (ab a1 a2:Option Addr) (cb c1 c2:Nat),MinI (exB h) (2 ^ h.bins.toNat) f bs∧v = .tuple #[.slice ab bs.length cb,.slice a1 (Z1E (Z3Q h week) h.bins.toNat).length c1,.slice a2 (Z1E (Z45 h week) h.bins.toNat).length c2,.bool f]∧H'=H∧R'=RowsA a2 1 (Z3 (Z1E (Z45 h week) h.bins.toNat))::RowsA a1 1 (Z3 (Z1E (Z3Q h week) h.bins.toNat))::RowsA ab 1 (Z3 bs)::R):=by
 refine Zl Tryz.func65 rfl Tryz.ntmps65 rfl ?_
 refine sqt 5 rfl ?_
 have hbn:=hok.bins
 have hgl:=hok.gl
 obtain ⟨B,hB⟩:∃ B:Nat,h.bins=B:=⟨h.bins.toNat,by omega⟩
 have hBt:h.bins.toNat=B:=by omega
 have hz:=Zcx h week B
 have hp7:=Nat.pow_le_pow_right (show 0<2 by decide) (show B≤7 by omega)
 have h7:(2:Nat) ^ 7=128:=rfl
 refine bx rfl rfl rfl (fun b2=>pur 4 rfl (sqt 4 rfl (sp rfl (PE.fA Z0L rfl) rfl (spL rfl rfl (lh sc3 rfl rfl) rfl ?_))))
 rw [hB]
 refine mkS rfl Z1v zl3 rfl rfl (Nat.le_refl _) ⟨by omega,by omega⟩ rfl (fun b18=>?_)
 rw [Zgs,← hz.1]
 refine pur 1 rfl (sqt 4 rfl (sp rfl (PE.fA Z0L rfl) rfl (spL rfl rfl (lh sc3 rfl rfl) rfl ?_)))
 rw [hB]
 refine mkS rfl Z1v zl3 rfl rfl (Nat.le_refl _) ⟨by omega,by omega⟩ rfl (fun b21=>?_)
 rw [Zgs,← hz.2]
 refine pur 1 rfl (sqt 1 rfl (pur 1 rfl (Z0 (sqt 1 rfl (pur 1 rfl (Z4 ?_))))))
 refine Sy.heap (fun w h9=>St.norows (sz:=1) (St.norows (sz:=1) h9)) ?_
 refine Ze (ι:={y:Nat×Bool×List Int×Option Addr×Nat // y.1≤2 ^ B∧MinI (exB h) y.1 y.2.1 y.2.2.1∧y.2.2.1.length≤10}) (fun y=>⟨[(1,.int .i64 week),(2,.pointer (some ⟨b2,0,none⟩)),(4,.slice y.1.2.2.2.1 y.1.2.2.1.length y.1.2.2.2.2),(5,.slice none 0 0),(6,.slice none 0 0),(7,.bool y.1.2.1),(8,.slice (some ⟨b18,0,none⟩) B B),(9,.slice (some ⟨b21,0,none⟩) B B),(10,.int .i64 ((cP (exB h) y.1.1:Nat):Int)),(11,.int .i64 ((y.1.1:Nat):Int))],(b21,cel 3 (Zw (Z17 (Z36 h week y.1.1 0) B)))::(b18,cel 3 (Zw (Z17 (Z1J h week y.1.1 0) B)))::(b2,cel 57 (htl h (h.sg ag cg) (h.ss as_ cs)))::H,RowsA y.1.2.2.2.1 1 (Z3 y.1.2.2.1)::RowsA none 1 (Z3 [])::R⟩) (fun y=>2 ^ B-y.1.1) ⟨(0,false,[],none,0),Nat.zero_le _,MinI.start _,by simp⟩ ?_ (fun y=>?_)
 exact Zi idH
 obtain ⟨⟨s,f,bs,ab,cb⟩,hs,hmi,hbl⟩:=y
 dsimp only at hs hmi hbl ⊢
 refine Z0 (sqt 5 rfl (pur 1 rfl (sp rfl (PE.fA Z0L rfl) rfl (spL rfl rfl (lh sc3 rfl rfl) rfl ?_))))
 rw [hB]
 refine clV rfl Z7y rfl rfl (Z2T B (by omega) _ _) ?_
 refine pur 1 rfl ?_
 refine Z1 rfl ?_ ?_<;>intro hc0<;>try simp only [cS] at hc0
 have hsl:s<2 ^ B:=by omega
 have hs10:s<2 ^ 10:=Nat.lt_of_lt_of_le hsl (Nat.pow_le_pow_right (by decide) (by omega))
 have hmm:=Z1x hs10
 have hml:=Z22 s
 have hfr:ZM h.bins (Zs s)=0:=by rw [hB];exact Z5o (by omega) hsl
 have hcl:=Zfi (exB h) s
 refine Z2 (Z0 (Z4 (sqt 3 rfl (pur 1 rfl ?_))))
 refine cl rfl Z9m rfl rfl (Z3y s hs10 _ _) ?_
 rintro _ _ R1 ⟨o30,rfl,rfl,hR1⟩
 obtain rfl:=hR1.symm
 clear hR1
 obtain ⟨al,cl9,he,hcl9,hzz⟩:=o30.freezeC
 rw [irl] at hcl9
 rw [he,irl]
 refine Sy.heap (H':=_) (fun w h9=>hzz h9) ?_
 clear he hzz
 refine pur 1 rfl (Z0 (sqt 4 rfl (spL rfl rfl (lhA (htl h (h.sg ag cg) (h.ss as_ cs)) Z1q rfl rfl rfl) rfl (pur 1 rfl ?_))))
 refine clV rfl Zi7 rfl rfl (Z4u h ag as_ cg cs hok (Zs s) al cl9 hfr _ _) ?_
 refine pur 1 rfl ?_
 refine Z1 rfl ?_ ?_<;>intro hc1
 rw [hmm] at hc1
 have hex:exB h s=false:=by unfold exB;rw [← Bool.not_eq_true'];exact hc1
 refine Z9 (Za (Zm (sqr 3 rfl (pur 1 rfl (sp rfl (PE.add rfl rfl (by omega)) rfl (pur 1 rfl ?_))))))
 exact Zc ⟨(s+1,f,bs,ab,cb),by dsimp only;omega,hmi.skip (.inl hex),hbl⟩ (by dsimp only;omega) (by dsimp only;rw [cP_ex.2 hex];exact sbA) (fun w h9=>by dsimp only;rw [(ZeB hex).1,(ZeB hex).2];exact h9.ftail)
 rw [hmm] at hc1
 have hex:exB h s=true:=by unfold exB;rw [← Bool.not_eq_false'];exact hc1
 have hce:=cP_ex.1 hex
 refine Z2 (Z0 (sqt 7 rfl (pur 3 rfl ?_)))
 refine Zj 37 rfl ?_ ?_<;>intro g37
 have hf:f=false:=by rw [← Bool.not_eq_true'];exact g37
 refine pur 4 rfl ?_
 refine ZL (ι:={y:Bool×List Int×Option Addr×Nat // MinI (exB h) (s+1) y.1 y.2.1∧y.2.1.length≤10}) (fun y=>⟨[(1,.int .i64 week),(2,.pointer (some ⟨b2,0,none⟩)),(4,.slice y.1.2.2.1 y.1.2.1.length y.1.2.2.2),(5,.slice none 0 0),(6,.slice none 0 0),(7,.bool y.1.1),(8,.slice (some ⟨b18,0,none⟩) B B),(9,.slice (some ⟨b21,0,none⟩) B B),(10,.int .i64 ((cP (exB h) s:Nat):Int)),(11,.int .i64 ((s:Nat):Int)),(12,.slice al (Zs s).length cl9)],(b21,cel 3 (Zw (Z17 (Z36 h week s 0) B)))::(b18,cel 3 (Zw (Z17 (Z1J h week s 0) B)))::(b2,cel 57 (htl h (h.sg ag cg) (h.ss as_ cs)))::H,RowsA y.1.2.2.1 1 (Z3 y.1.2.1)::RowsA al 1 (Z3 (Zs s))::RowsA none 1 (Z3 [])::R⟩) ?_ ?_
 refine ZP rfl ?_
 refine sqr 3 rfl (pur 3 rfl ?_)
 exact Zk ⟨(true,(Zs s),al,cl9),hmi.take (.inl hf) hex,hml⟩ (fun w h9=>h9.facts (fun g hg=>by simp only [List.mem_cons] at hg ⊢;rcases hg with h8 | h8 | h8 | h8<;>simp [h8]))
 rintro ⟨⟨f2,b2l,ab2,cb2⟩,hmi2,hbl2⟩
 dsimp only at hmi2 hbl2 ⊢
 refine sqt 3 rfl (pur 1 rfl (sp rfl (PE.add rfl rfl (by omega)) rfl ?_))
 rw [show ((cP (exB h) s:Nat):Int)+1=((cP (exB h) (s+1):Nat):Int) by rw [hce];omega]
 refine pur 1 rfl (sqt 4 rfl (spL rfl rfl (lhA (htl h (h.sg ag cg) (h.ss as_ cs)) Z1q rfl rfl rfl) rfl (pur 1 rfl ?_)))
 refine cl rfl Z7w rfl rfl (Z1X h ag as_ cg cs hok (Zs s) [] al none cl9 0 hfr (fun x hx=>by cases hx) (by simp) _ _) ?_
 rintro _ _ R1 ⟨wa,wc,rfl,rfl,hR1⟩
 obtain rfl:=hR1.symm
 clear hR1
 obtain ⟨W,hW⟩:∃ W,W=wkL h.gaps (msk []) (msk (Zs s)) h.bins.toNat:=⟨_,rfl⟩
 have hWl:W.length=B:=by rw [hW,Z14,hBt]
 rw [← hW,hBt]
 rw [hmm] at hW
 refine pur 1 rfl (sqt 1 rfl (pur 1 rfl (Z4 ?_)))
 refine Ze (ι:={i:Nat // i≤B}) (fun i=>⟨[(1,.int .i64 week),(2,.pointer (some ⟨b2,0,none⟩)),(4,.slice ab2 b2l.length cb2),(5,.slice none 0 0),(6,.slice none 0 0),(7,.bool f2),(8,.slice (some ⟨b18,0,none⟩) B B),(9,.slice (some ⟨b21,0,none⟩) B B),(10,.int .i64 ((cP (exB h) (s+1):Nat):Int)),(11,.int .i64 ((s:Nat):Int)),(13,.slice wa B wc),(14,.int .i64 ((i.1:Nat):Int))],(b21,cel 3 (Zw (Z17 (Z36 h week s i.1) B)))::(b18,cel 3 (Zw (Z17 (Z1J h week s i.1) B)))::(b2,cel 57 (htl h (h.sg ag cg) (h.ss as_ cs)))::H,RowsA wa 1 (Z3 W)::RowsA ab2 1 (Z3 b2l)::RowsA none 1 (Z3 [])::R⟩) (fun i=>B-i.1) ⟨0,Nat.zero_le _⟩ ?_ (fun i=>?_)
 exact Zi (fun w h9=>h9.facts (fun g hg=>by simp only [List.mem_cons] at hg ⊢;rcases hg with h8 | h8 | h8 | h8<;>simp [h8]))
 obtain ⟨i,hi⟩:=i
 dsimp only at hi ⊢
 refine Z0 (sqt 4 rfl (pur 1 rfl (sp rfl (PE.fA Z0L rfl) rfl (spL rfl rfl (lh sc3 rfl rfl) rfl ?_))))
 rw [hB]
 refine pur 1 rfl ?_
 refine Z1 rfl ?_ ?_<;>intro hc3<;>try simp only [cS] at hc3
 obtain ⟨y,hy⟩:∃ y,W[i]?=some y:=⟨_,List.getElem?_eq_getElem (by omega)⟩
 have hyc:y=wkC h.gaps 0 s i:=by rw [← Z1n hy,hW];exact Z50 (by omega)
 obtain ⟨r1,r2,r3⟩:=ZeQ (week:=week) hyc
 have hal:=Z9Q (h:=h) (week:=week) (s:=s) (i:=i) (k:=i)
 have hla:na (Z17 (Z1J h week s i) B) i=Z1J h week s i i:=Z60 (by omega)
 refine Zh (a:=wa) (sz:=1) (rows:=Z3 W) (ne0 (by rw [irl];omega)) (fun bw ow he=>?_)
 subst he
 refine Z2 (Z0 (Z4 (sqt 13 rfl (pur 2 rfl (sp rfl (PE.indexAddr Z0c rfl rfl (by omega) (by omega)) rfl (spL rfl rfl (lf0 sc3 (ZB hy) rfl) rfl (pur 2 rfl ?_)))))))
 refine Zj 59 rfl ?_ ?_<;>intro g59
 try simp only [cS] at g59
 refine pur 2 rfl ?_
 refine spG rfl rfl rfl rfl (PE.indexAddr Z0c rfl rfl (by omega) (by omega)) rfl ?_
 refine Z0m rfl rfl rfl rfl rfl (lf0 sc3 (ZB hy) rfl) rfl (pur 3 rfl ?_)
 refine Z1 rfl ?_ ?_<;>intro hc4<;>try simp only [cS] at hc4
 have hr:=r1 (by omega) (by omega)
 have hio:=ZeC (B:=B) hex hr
 refine sqt 9 rfl (pur 4 rfl (sp rfl (PE.indexAddr Z0c rfl rfl (by omega) (by omega)) rfl (spL rfl rfl (lh sc3 rfl (Z0G (w:=Z17 (Z1J h week s i) B) (k:=i) (by rw [Z01];omega) (by show 0+((i:Nat):Int).toNat*1=i;omega))) rfl ?_)))
 rw [hla]
 refine sp rfl (PE.add rfl rfl (by omega)) rfl (sp rfl (PE.indexAddr Z0c rfl rfl (by omega) (by omega)) rfl ?_)
 refine ZG (l':=Zw ((Z17 (Z1J h week s i) B).set i (Z1J h week s i i+1))) rfl rfl rfl cn3 rfl rfl rfl (Z0T (by rw [Z01];omega) (by show 0+((i:Nat):Int).toNat*1=i;omega)) (by rw [Zp,Z01];show 0+((i:Nat):Int).toNat*1+1≤_;omega) ?_
 refine sqr 4 rfl (pur 2 rfl (sp rfl (PE.indexAddr Z0c rfl rfl (by omega) (by omega)) rfl ?_))
 refine ZG (l':=Zw ((Z17 (Z36 h week s i) B).set i 1)) rfl rfl rfl cn3 rfl rfl rfl (Z0T (by rw [Z01];omega) (by show 0+((i:Nat):Int).toNat*1=i;omega)) (by rw [Zp,Z01];show 0+((i:Nat):Int).toNat*1+1≤_;omega) ?_
 refine sqr 3 rfl (pur 1 rfl (sp rfl (PE.add rfl rfl (by omega)) rfl (pur 1 rfl ?_)))
 first
   | exact Zd ⟨i+1,by omega⟩ (by dsimp only;omega) (fun w h9=>by dsimp only;rw [← hio.1,← hio.2];exact h9)
   | exact Zd ⟨i+1,by omega⟩ (by dsimp only;omega) (fun w h9=>by dsimp only;rw [(Z13 hr).1,(Z13 hr).2];exact h9)
 have hr:=r3 (by omega)
 refine Z2 (sqr 3 rfl (pur 1 rfl (sp rfl (PE.add rfl rfl (by omega)) rfl (pur 1 rfl ?_))))
 first
   | exact Zd ⟨i+1,by omega⟩ (by dsimp only;omega) (fun w h9=>by dsimp only;rw [← hio.1,← hio.2];exact h9)
   | exact Zd ⟨i+1,by omega⟩ (by dsimp only;omega) (fun w h9=>by dsimp only;rw [(Z13 hr).1,(Z13 hr).2];exact h9)
 try simp only [cS] at g59
 have hr:=r2 (by omega)
 refine pur 7 rfl ?_
 refine Zz rfl ?_
 refine Z2 (sqr 3 rfl (pur 1 rfl (sp rfl (PE.add rfl rfl (by omega)) rfl (pur 1 rfl ?_))))
 first
   | exact Zd ⟨i+1,by omega⟩ (by dsimp only;omega) (fun w h9=>by dsimp only;rw [← hio.1,← hio.2];exact h9)
   | exact Zd ⟨i+1,by omega⟩ (by dsimp only;omega) (fun w h9=>by dsimp only;rw [(Z13 hr).1,(Z13 hr).2];exact h9)
 obtain rfl:i=B:=by omega
 refine Z9 (Za (Za (Zm (sqr 3 rfl (pur 1 rfl (sp rfl (PE.add rfl rfl (by omega)) rfl (pur 1 rfl ?_)))))))
 exact Zb ⟨(s+1,f2,b2l,ab2,cb2),by dsimp only;omega,hmi2,hbl2⟩ (fun w h9=>by dsimp only;rw [← idx_all.1,← idx_all.2];exact h9.ftail)
 have hf:f=true:=by rw [← Bool.not_eq_false'];exact g37
 refine pur 2 rfl ?_
 refine Z0C rfl rfl rfl rfl Z8i rfl rfl (Z47 (Zs s) bs (by omega) (by omega) al ab cl9 cb _ _) ?_
 refine pur 1 rfl ?_
 refine ZL (ι:={y:Bool×List Int×Option Addr×Nat // MinI (exB h) (s+1) y.1 y.2.1∧y.2.1.length≤10}) (fun y=>⟨[(1,.int .i64 week),(2,.pointer (some ⟨b2,0,none⟩)),(4,.slice y.1.2.2.1 y.1.2.1.length y.1.2.2.2),(5,.slice none 0 0),(6,.slice none 0 0),(7,.bool y.1.1),(8,.slice (some ⟨b18,0,none⟩) B B),(9,.slice (some ⟨b21,0,none⟩) B B),(10,.int .i64 ((cP (exB h) s:Nat):Int)),(11,.int .i64 ((s:Nat):Int)),(12,.slice al (Zs s).length cl9)],(b21,cel 3 (Zw (Z17 (Z36 h week s 0) B)))::(b18,cel 3 (Zw (Z17 (Z1J h week s 0) B)))::(b2,cel 57 (htl h (h.sg ag cg) (h.ss as_ cs)))::H,RowsA y.1.2.2.1 1 (Z3 y.1.2.1)::RowsA al 1 (Z3 (Zs s))::RowsA none 1 (Z3 [])::R⟩) ?_ ?_
 refine Z1 rfl ?_ ?_<;>intro hc2
 refine sqr 3 rfl (pur 3 rfl ?_)
 first | exact Zk ⟨(true,(Zs s),al,cl9),hmi.take (.inl hf) hex,hml⟩ (fun w h9=>h9.facts (fun g hg=>by simp only [List.mem_cons] at hg ⊢;rcases hg with h8 | h8 | h8 | h8<;>simp [h8])) | exact Zk ⟨(true,(Zs s),al,cl9),hmi.take (.inr hc2) hex,hml⟩ (fun w h9=>h9.facts (fun g hg=>by simp only [List.mem_cons] at hg ⊢;rcases hg with h8 | h8 | h8 | h8<;>simp [h8]))
 refine Z2 ?_
 exact Zk ⟨(f,bs,ab,cb),hmi.skip (.inr ⟨hf,hc2⟩),hbl⟩ (fun w h9=>h9.facts (fun g hg=>by simp only [List.mem_cons] at hg ⊢;rcases hg with h8 | h8 | h8 | h8<;>simp [h8]))
 rintro ⟨⟨f2,b2l,ab2,cb2⟩,hmi2,hbl2⟩
 dsimp only at hmi2 hbl2 ⊢
 refine sqt 3 rfl (pur 1 rfl (sp rfl (PE.add rfl rfl (by omega)) rfl ?_))
 rw [show ((cP (exB h) s:Nat):Int)+1=((cP (exB h) (s+1):Nat):Int) by rw [hce];omega]
 refine pur 1 rfl (sqt 4 rfl (spL rfl rfl (lhA (htl h (h.sg ag cg) (h.ss as_ cs)) Z1q rfl rfl rfl) rfl (pur 1 rfl ?_)))
 refine cl rfl Z7w rfl rfl (Z1X h ag as_ cg cs hok (Zs s) [] al none cl9 0 hfr (fun x hx=>by cases hx) (by simp) _ _) ?_
 rintro _ _ R1 ⟨wa,wc,rfl,rfl,hR1⟩
 obtain rfl:=hR1.symm
 clear hR1
 obtain ⟨W,hW⟩:∃ W,W=wkL h.gaps (msk []) (msk (Zs s)) h.bins.toNat:=⟨_,rfl⟩
 have hWl:W.length=B:=by rw [hW,Z14,hBt]
 rw [← hW,hBt]
 rw [hmm] at hW
 refine pur 1 rfl (sqt 1 rfl (pur 1 rfl (Z4 ?_)))
 refine Ze (ι:={i:Nat // i≤B}) (fun i=>⟨[(1,.int .i64 week),(2,.pointer (some ⟨b2,0,none⟩)),(4,.slice ab2 b2l.length cb2),(5,.slice none 0 0),(6,.slice none 0 0),(7,.bool f2),(8,.slice (some ⟨b18,0,none⟩) B B),(9,.slice (some ⟨b21,0,none⟩) B B),(10,.int .i64 ((cP (exB h) (s+1):Nat):Int)),(11,.int .i64 ((s:Nat):Int)),(13,.slice wa B wc),(14,.int .i64 ((i.1:Nat):Int))],(b21,cel 3 (Zw (Z17 (Z36 h week s i.1) B)))::(b18,cel 3 (Zw (Z17 (Z1J h week s i.1) B)))::(b2,cel 57 (htl h (h.sg ag cg) (h.ss as_ cs)))::H,RowsA wa 1 (Z3 W)::RowsA ab2 1 (Z3 b2l)::RowsA none 1 (Z3 [])::R⟩) (fun i=>B-i.1) ⟨0,Nat.zero_le _⟩ ?_ (fun i=>?_)
 exact Zi (fun w h9=>h9.facts (fun g hg=>by simp only [List.mem_cons] at hg ⊢;rcases hg with h8 | h8 | h8 | h8<;>simp [h8]))
 obtain ⟨i,hi⟩:=i
 dsimp only at hi ⊢
 refine Z0 (sqt 4 rfl (pur 1 rfl (sp rfl (PE.fA Z0L rfl) rfl (spL rfl rfl (lh sc3 rfl rfl) rfl ?_))))
 rw [hB]
 refine pur 1 rfl ?_
 refine Z1 rfl ?_ ?_<;>intro hc3<;>try simp only [cS] at hc3
 obtain ⟨y,hy⟩:∃ y,W[i]?=some y:=⟨_,List.getElem?_eq_getElem (by omega)⟩
 have hyc:y=wkC h.gaps 0 s i:=by rw [← Z1n hy,hW];exact Z50 (by omega)
 obtain ⟨r1,r2,r3⟩:=ZeQ (week:=week) hyc
 have hal:=Z9Q (h:=h) (week:=week) (s:=s) (i:=i) (k:=i)
 have hla:na (Z17 (Z1J h week s i) B) i=Z1J h week s i i:=Z60 (by omega)
 refine Zh (a:=wa) (sz:=1) (rows:=Z3 W) (ne0 (by rw [irl];omega)) (fun bw ow he=>?_)
 subst he
 refine Z2 (Z0 (Z4 (sqt 13 rfl (pur 2 rfl (sp rfl (PE.indexAddr Z0c rfl rfl (by omega) (by omega)) rfl (spL rfl rfl (lf0 sc3 (ZB hy) rfl) rfl (pur 2 rfl ?_)))))))
 refine Zj 59 rfl ?_ ?_<;>intro g59
 try simp only [cS] at g59
 refine pur 2 rfl ?_
 refine spG rfl rfl rfl rfl (PE.indexAddr Z0c rfl rfl (by omega) (by omega)) rfl ?_
 refine Z0m rfl rfl rfl rfl rfl (lf0 sc3 (ZB hy) rfl) rfl (pur 3 rfl ?_)
 refine Z1 rfl ?_ ?_<;>intro hc4<;>try simp only [cS] at hc4
 have hr:=r1 (by omega) (by omega)
 have hio:=ZeC (B:=B) hex hr
 refine sqt 9 rfl (pur 4 rfl (sp rfl (PE.indexAddr Z0c rfl rfl (by omega) (by omega)) rfl (spL rfl rfl (lh sc3 rfl (Z0G (w:=Z17 (Z1J h week s i) B) (k:=i) (by rw [Z01];omega) (by show 0+((i:Nat):Int).toNat*1=i;omega))) rfl ?_)))
 rw [hla]
 refine sp rfl (PE.add rfl rfl (by omega)) rfl (sp rfl (PE.indexAddr Z0c rfl rfl (by omega) (by omega)) rfl ?_)
 refine ZG (l':=Zw ((Z17 (Z1J h week s i) B).set i (Z1J h week s i i+1))) rfl rfl rfl cn3 rfl rfl rfl (Z0T (by rw [Z01];omega) (by show 0+((i:Nat):Int).toNat*1=i;omega)) (by rw [Zp,Z01];show 0+((i:Nat):Int).toNat*1+1≤_;omega) ?_
 refine sqr 4 rfl (pur 2 rfl (sp rfl (PE.indexAddr Z0c rfl rfl (by omega) (by omega)) rfl ?_))
 refine ZG (l':=Zw ((Z17 (Z36 h week s i) B).set i 1)) rfl rfl rfl cn3 rfl rfl rfl (Z0T (by rw [Z01];omega) (by show 0+((i:Nat):Int).toNat*1=i;omega)) (by rw [Zp,Z01];show 0+((i:Nat):Int).toNat*1+1≤_;omega) ?_
 refine sqr 3 rfl (pur 1 rfl (sp rfl (PE.add rfl rfl (by omega)) rfl (pur 1 rfl ?_)))
 first
   | exact Zd ⟨i+1,by omega⟩ (by dsimp only;omega) (fun w h9=>by dsimp only;rw [← hio.1,← hio.2];exact h9)
   | exact Zd ⟨i+1,by omega⟩ (by dsimp only;omega) (fun w h9=>by dsimp only;rw [(Z13 hr).1,(Z13 hr).2];exact h9)
 have hr:=r3 (by omega)
 refine Z2 (sqr 3 rfl (pur 1 rfl (sp rfl (PE.add rfl rfl (by omega)) rfl (pur 1 rfl ?_))))
 first
   | exact Zd ⟨i+1,by omega⟩ (by dsimp only;omega) (fun w h9=>by dsimp only;rw [← hio.1,← hio.2];exact h9)
   | exact Zd ⟨i+1,by omega⟩ (by dsimp only;omega) (fun w h9=>by dsimp only;rw [(Z13 hr).1,(Z13 hr).2];exact h9)
 try simp only [cS] at g59
 have hr:=r2 (by omega)
 refine pur 7 rfl ?_
 refine Zz rfl ?_
 refine Z2 (sqr 3 rfl (pur 1 rfl (sp rfl (PE.add rfl rfl (by omega)) rfl (pur 1 rfl ?_))))
 first
   | exact Zd ⟨i+1,by omega⟩ (by dsimp only;omega) (fun w h9=>by dsimp only;rw [← hio.1,← hio.2];exact h9)
   | exact Zd ⟨i+1,by omega⟩ (by dsimp only;omega) (fun w h9=>by dsimp only;rw [(Z13 hr).1,(Z13 hr).2];exact h9)
 obtain rfl:i=B:=by omega
 refine Z9 (Za (Za (Zm (sqr 3 rfl (pur 1 rfl (sp rfl (PE.add rfl rfl (by omega)) rfl (pur 1 rfl ?_)))))))
 exact Zb ⟨(s+1,f2,b2l,ab2,cb2),by dsimp only;omega,hmi2,hbl2⟩ (fun w h9=>by dsimp only;rw [← idx_all.1,← idx_all.2];exact h9.ftail)
 obtain rfl:s=2 ^ B:=by omega
 have hcl:=Zfi (exB h) (2 ^ B)
 refine Z9 (Za (Za (Zm (Z0 (sqt 1 rfl (pur 1 rfl (Z4 ?_)))))))
 refine Ze (ι:=(i:{i:Nat // i≤B})×OSl 3 1 (Z3 (Z1E (Z3Q h week) i.1))×OSl 3 1 (Z3 (Z1E (Z45 h week) i.1))) (fun y=>⟨[(1,.int .i64 week),(2,.pointer (some ⟨b2,0,none⟩)),(4,.slice ab bs.length cb),(5,y.2.1.fs),(6,y.2.2.fs),(7,.bool f),(8,.slice (some ⟨b18,0,none⟩) B B),(9,.slice (some ⟨b21,0,none⟩) B B),(10,.int .i64 ((cP (exB h) (2 ^ B):Nat):Int)),(15,.int .i64 ((y.1.1:Nat):Int))],y.2.1.G++(y.2.2.G++((b21,cel 3 (Zw (Z17 (Z36 h week (2 ^ B) 0) B)))::(b18,cel 3 (Zw (Z17 (Z1J h week (2 ^ B) 0) B)))::(b2,cel 57 (htl h (h.sg ag cg) (h.ss as_ cs)))::H)),RowsA ab 1 (Z3 bs)::R⟩) (fun y=>B-y.1.1) ⟨⟨0,Nat.zero_le _⟩,OSl.nil _ _,OSl.nil _ _⟩ ?_ (fun y=>?_)
 exact Zi (fun w h9=>h9.facts (fun g hg=>by simp only [List.mem_cons] at hg ⊢;rcases hg with h8 | h8<;>simp [h8]))
 obtain ⟨⟨i,hi⟩,oS,oP⟩:=y
 dsimp only at hi oS oP ⊢
 have hsn:=Z0E (Z3Q h week) i
 have hpn:=Z0E (Z45 h week) i
 refine Z0 (sqt 4 rfl (pur 1 rfl (sp rfl (PE.fA Z0L rfl) rfl (spL rfl rfl (lh sc3 rfl rfl) rfl ?_))))
 rw [hB]
 refine pur 1 rfl ?_
 refine Z1 rfl ?_ ?_<;>intro hc5<;>try simp only [cS] at hc5
 have hla:na (Z17 (Z1J h week (2 ^ B) 0) B) i=Z1J h week (2 ^ B) 0 i:=Z60 (by omega)
 have hls:na (Z17 (Z36 h week (2 ^ B) 0) B) i=Z36 h week (2 ^ B) 0 i:=Z60 (by omega)
 have hsu:=Zc5 (h:=h) (week:=week) (k:=i)
 have hpe:=Z9u (h:=h) (week:=week) (k:=i)
 rw [hBt] at hsu hpe
 refine Z2 (Z0 (Z4 (Z0 (sqt 10 rfl (pur 3 rfl ?_)))))
 refine Zj 86 rfl ?_ ?_<;>intro g86
 try simp only [cS] at g86
 refine pur 2 rfl ?_
 refine spG rfl rfl rfl rfl (PE.indexAddr Z0c rfl rfl (by omega) (by omega)) rfl ?_
 refine Z0m rfl rfl rfl rfl rfl (lh sc3 rfl (Z0G (w:=Z17 (Z1J h week (2 ^ B) 0) B) (k:=i) (by rw [Z01];omega) (by show 0+((i:Nat):Int).toNat*1=i;omega))) rfl (pur 1 rfl ?_)
 try rw [hla]
 refine pur 2 rfl ?_
 refine ZL (ι:=OSl 3 1 (Z3 (Z1E (Z3Q h week) (i+1)))) (fun o=>⟨[(1,.int .i64 week),(2,.pointer (some ⟨b2,0,none⟩)),(4,.slice ab bs.length cb),(5,o.fs),(6,oP.fs),(7,.bool f),(8,.slice (some ⟨b18,0,none⟩) B B),(9,.slice (some ⟨b21,0,none⟩) B B),(10,.int .i64 ((cP (exB h) (2 ^ B):Nat):Int)),(15,.int .i64 ((i:Nat):Int))],o.G++(oP.G++((b21,cel 3 (Zw (Z17 (Z36 h week (2 ^ B) 0) B)))::(b18,cel 3 (Zw (Z17 (Z1J h week (2 ^ B) 0) B)))::(b2,cel 57 (htl h (h.sg ag cg) (h.ss as_ cs)))::H)),RowsA ab 1 (Z3 bs)::R⟩) ?_ ?_
 refine Z1 rfl ?_ ?_<;>intro hc6<;>try simp only [cS] at hc6
 have hsv:Z3Q h week i=true:=by rw [hsu,dT (by omega),dT (by omega)];rfl
 refine sqr 5 rfl (pur 2 rfl ?_)
 refine bsl (out:=[_]) rfl Z03 zl3 rfl rfl rfl rfl rfl rfl (fun b96=>?_)
 refine apO (oS) rfl Z1v rfl rfl (Z02 (row:=[.int .i64 (i:Int)]) rfl) rfl rfl ((by rw [irl];simp only [List.length_singleton];omega)) rfl (fun o97=>?_)
 refine pur 1 rfl ?_
 first | exact Zk (o97.cast (by rw [Z0P hsv];simp [Z3])) (fun w h9=>h9.del b96) | exact Zk (oS.cast (by rw [Z0g hsv])) idH
 have hsv:Z3Q h week i=false:=by rw [hsu,dF (show ¬ Z1J h week (2 ^ B) 0 i=((cP (exB h) (2 ^ B):Nat):Int) by omega),Bool.and_false]
 refine Z2 ?_
 first | exact Zk (o97.cast (by rw [Z0P hsv];simp [Z3])) (fun w h9=>h9.del b96) | exact Zk (oS.cast (by rw [Z0g hsv])) idH
 intro o5
 dsimp only
 refine sqt 5 rfl (pur 2 rfl (sp rfl (PE.indexAddr Z0c rfl rfl (by omega) (by omega)) rfl (spL rfl rfl (lh sc3 rfl (Z0G (w:=Z17 (Z36 h week (2 ^ B) 0) B) (k:=i) (by rw [Z01];omega) (by show 0+((i:Nat):Int).toNat*1=i;omega))) rfl ?_)))
 rw [hls]
 refine pur 1 rfl ?_
 refine Z1 rfl ?_ ?_<;>intro hc7<;>try simp only [cS] at hc7
 have hpv:Z45 h week i=true:=by rw [hpe,dT (by omega)]
 refine sqr 5 rfl (pur 2 rfl ?_)
 refine bsl (out:=[_]) rfl Z03 zl3 rfl rfl rfl rfl rfl rfl (fun b105=>?_)
 refine apO (oP) rfl Z1v rfl rfl (Z02 (row:=[.int .i64 (i:Int)]) rfl) rfl rfl ((by rw [irl];simp only [List.length_singleton];omega)) rfl (fun o106=>?_)
 refine pur 1 rfl (sqr 3 rfl (pur 1 rfl (sp rfl (PE.add rfl rfl (by omega)) rfl (pur 1 rfl ?_))))
 first | exact Zd ⟨⟨i+1,by omega⟩,o5,o106.cast (by rw [Z0P hpv];simp [Z3])⟩ (by dsimp only;omega) (fun w h9=>h9.del b105) | exact Zd ⟨⟨i+1,by omega⟩,o5,oP.cast (by rw [Z0g hpv])⟩ (by dsimp only;omega) idH
 have hpv:Z45 h week i=false:=by rw [hpe,dF (by omega)]
 refine Z2 (sqr 3 rfl (pur 1 rfl (sp rfl (PE.add rfl rfl (by omega)) rfl (pur 1 rfl ?_))))
 first | exact Zd ⟨⟨i+1,by omega⟩,o5,o106.cast (by rw [Z0P hpv];simp [Z3])⟩ (by dsimp only;omega) (fun w h9=>h9.del b105) | exact Zd ⟨⟨i+1,by omega⟩,o5,oP.cast (by rw [Z0g hpv])⟩ (by dsimp only;omega) idH
 try simp only [cS] at g86
 have hsv:Z3Q h week i=false:=by rw [hsu,dF (by omega)];rfl
 refine pur 7 rfl ?_
 refine ZL (ι:=OSl 3 1 (Z3 (Z1E (Z3Q h week) (i+1)))) (fun o=>⟨[(1,.int .i64 week),(2,.pointer (some ⟨b2,0,none⟩)),(4,.slice ab bs.length cb),(5,o.fs),(6,oP.fs),(7,.bool f),(8,.slice (some ⟨b18,0,none⟩) B B),(9,.slice (some ⟨b21,0,none⟩) B B),(10,.int .i64 ((cP (exB h) (2 ^ B):Nat):Int)),(15,.int .i64 ((i:Nat):Int))],o.G++(oP.G++((b21,cel 3 (Zw (Z17 (Z36 h week (2 ^ B) 0) B)))::(b18,cel 3 (Zw (Z17 (Z1J h week (2 ^ B) 0) B)))::(b2,cel 57 (htl h (h.sg ag cg) (h.ss as_ cs)))::H)),RowsA ab 1 (Z3 bs)::R⟩) ?_ ?_
 refine Zz rfl ?_
 refine Z2 ?_
 first | exact Zk (o97.cast (by rw [Z0P hsv];simp [Z3])) (fun w h9=>h9.del b96) | exact Zk (oS.cast (by rw [Z0g hsv])) idH
 intro o5
 dsimp only
 refine sqt 5 rfl (pur 2 rfl (sp rfl (PE.indexAddr Z0c rfl rfl (by omega) (by omega)) rfl (spL rfl rfl (lh sc3 rfl (Z0G (w:=Z17 (Z36 h week (2 ^ B) 0) B) (k:=i) (by rw [Z01];omega) (by show 0+((i:Nat):Int).toNat*1=i;omega))) rfl ?_)))
 rw [hls]
 refine pur 1 rfl ?_
 refine Z1 rfl ?_ ?_<;>intro hc7<;>try simp only [cS] at hc7
 have hpv:Z45 h week i=true:=by rw [hpe,dT (by omega)]
 refine sqr 5 rfl (pur 2 rfl ?_)
 refine bsl (out:=[_]) rfl Z03 zl3 rfl rfl rfl rfl rfl rfl (fun b105=>?_)
 refine apO (oP) rfl Z1v rfl rfl (Z02 (row:=[.int .i64 (i:Int)]) rfl) rfl rfl ((by rw [irl];simp only [List.length_singleton];omega)) rfl (fun o106=>?_)
 refine pur 1 rfl (sqr 3 rfl (pur 1 rfl (sp rfl (PE.add rfl rfl (by omega)) rfl (pur 1 rfl ?_))))
 first | exact Zd ⟨⟨i+1,by omega⟩,o5,o106.cast (by rw [Z0P hpv];simp [Z3])⟩ (by dsimp only;omega) (fun w h9=>h9.del b105) | exact Zd ⟨⟨i+1,by omega⟩,o5,oP.cast (by rw [Z0g hpv])⟩ (by dsimp only;omega) idH
 have hpv:Z45 h week i=false:=by rw [hpe,dF (by omega)]
 refine Z2 (sqr 3 rfl (pur 1 rfl (sp rfl (PE.add rfl rfl (by omega)) rfl (pur 1 rfl ?_))))
 first | exact Zd ⟨⟨i+1,by omega⟩,o5,o106.cast (by rw [Z0P hpv];simp [Z3])⟩ (by dsimp only;omega) (fun w h9=>h9.del b105) | exact Zd ⟨⟨i+1,by omega⟩,o5,oP.cast (by rw [Z0g hpv])⟩ (by dsimp only;omega) idH
 obtain rfl:i=B:=by omega
 obtain ⟨a1,c1,he,hc1,hzz⟩:=oS.freezeC
 rw [irl] at hc1
 rw [he,irl]
 refine Sy.heap (H':=_) (fun w h9=>hzz h9) ?_
 clear he hzz
 obtain ⟨a2,c2,he,hc2,hzz⟩:=oP.freezeC
 rw [irl] at hc2
 rw [he,irl]
 refine Sy.heap (H':=_) (fun w h9=>hzz h9) ?_
 clear he hzz
 refine Z9 (Za (Za (Zm (sqt 8 rfl (pur 8 rfl (Z5 ?_))))))
 exact Zn (vs:=[_,_,_,_]) rfl (.cons (RV.tmp rfl) (.cons (RV.tmp rfl) (.cons (RV.tmp rfl) (.cons (RV.tmp rfl) .nil)))) rfl ⟨f,bs,ab,a1,a2,cb,c1,c2,by rw [Int.toNat_natCast];exact hmi,by rw [Int.toNat_natCast]<;>rfl,rfl,by rw [Int.toNat_natCast]<;>rfl⟩ (fun w h9=>(((h9.del b21).del b18).del b2))
theorem MinI.start1 {P:Nat→Bool} (h:P 0=false):MinI P 1 false []:=⟨fun _=>⟨fun t h1=>by rw [show t=0 by omega];exact h,rfl⟩,(fun h=>by cases h)⟩
def Z44 (h:Hse) (k s:Nat):Bool:=(List.range k).any fun m=>ZbI h m s
theorem Z9T (h:Hse) (k s:Nat):Z44 h (k+1) s=(Z44 h k s||ZbI h k s):=by unfold Z44;rw [List.range_succ,List.any_append];simp
theorem Z86 {h:Hse} {k n s:Nat} (hk:k≤n) (he:Z44 h k s=true):Z44 h n s=true:=by
 unfold Z44 at he ⊢
 rw [List.any_eq_true] at he ⊢
 obtain ⟨m,h1,h2⟩:=he
 exact ⟨m,List.mem_range.2 (by have:=List.mem_range.1 h1;omega),h2⟩
theorem pick_iff {ss:List Sgt} {l:List Int} {s:Sgt}:s∈Z0I ss l↔∃ i∈l,ss[i.toNat]?=some s:=by unfold Z0I;rw [List.mem_filterMap]
theorem Z8W {h:Hse} {m t:Nat} (ht:t<2 ^ 10) (hl:h.sights.length≤10):ZbI h m t=Z1D h.gaps m (Z0I h.sights (Zs t)):=by
 unfold ZbI Z1D
 rw [Bool.eq_iff_iff,List.all_eq_true,List.all_eq_true]
 constructor
 · intro h1 s hs
   obtain ⟨i,h2,h3⟩:=pick_iff.1 hs
   obtain ⟨k,k1,k2,rfl⟩:=memL_bit.1 h2
   rw [Int.toNat_natCast] at h3
   have h4:=h1 k (List.mem_range.2 (List.getElem?_eq_some_iff.1 h3).1)
   rw [h3] at h4
   dsimp only at h4
   rw [k2] at h4;exact h4
 · intro h1 i hi
   have h2:=List.mem_range.1 hi
   rw [List.getElem?_eq_getElem h2]
   dsimp only
   cases hb:t.testBit i with
   | false=>rfl
   | true =>
     rw [h1 _ (pick_iff.2 ⟨(i:Int),memL_bit.2 ⟨i,by omega,hb,rfl⟩,by rw [Int.toNat_natCast];exact List.getElem?_eq_getElem h2⟩)];rfl
theorem Z85 {h:Hse} (hk:h.ok) {t:Nat} (ht:t<2 ^ 10):Z44 h (2 ^ h.bins.toNat) t=h.agr (Z0I h.sights (Zs t)):=by
 rw [Bool.eq_iff_iff,Z1A hk (Zby hk.sights _)]
 unfold Z44
 rw [List.any_eq_true]
 have hl:=hk.sl
 constructor
 · rintro ⟨m,h1,h2⟩
   exact ⟨m,List.mem_range.1 h1,by rw [← Z8W ht (by omega)];exact h2⟩
 · rintro ⟨m,h1,h2⟩
   exact ⟨m,List.mem_range.2 h1,by rw [Z8W ht (by omega)];exact h2⟩
theorem Z9U {h:Hse} (hk:h.ok):Z44 h (2 ^ h.bins.toNat) 0=true:=by
 rw [Z85 hk (by decide)]
 have:Zs 0=[]:=rfl
 rw [this]
 exact (Z1A hk (fun s hs=>by cases hs)).2 ⟨0,Nat.two_pow_pos _,rfl⟩
theorem Zgi {s:Nat} (h1:1≤s) (h2:s<2 ^ 10):Zs s≠[]:=fun e=>by
 have:=Z1x h2
 rw [e] at this
 have:(0:Nat)=s:=this
 omega
theorem Z4e {s:Nat} (h1:1≤s) (h2:s<2 ^ 10):0<(Zs s).length:=List.length_pos_iff.2 (Zgi h1 h2)
theorem ZfO {h:Hse} (hk:h.ok) {f:Bool} {b:List Int} (hm:MinI (fun t=>!Z44 h (2 ^ h.bins.toNat) t) (2 ^ h.sights.length) f b):(h.agr h.sights=false→h.claS=some b):=fun ha=>by
 have hl:=hk.sl
 have hp:=Nat.pow_le_pow_right (show 0<2 by decide) (show h.sights.length≤10 by omega)
 have hm2:MinI (fun t=>(fun l=>!h.agr (Z0I h.sights l)) (Zs t)) (2 ^ h.sights.length) f b:=hm.cg fun t ht=>by
   dsimp only
   rw [Z85 hk (by omega)]
 cases hf:f with
 | true=>rw [hf] at hm2;exact hm2.short (by omega)
 | false =>
   rw [hf] at hm2
   cases hc:h.claS with
   | none=>rw [(ZaI hk).1 hc] at ha;cases ha
   | some x =>
     obtain ⟨⟨t,t1,t2⟩,t3,_⟩:=Z4P (by omega) hc
     have:=(hm2.no rfl).1 t t1
     dsimp only at this t3
     rw [t2] at this
     rw [this] at t3;cases t3
def Z34 (h:Hse) (i:Int):Bool:=match h.sights[i.toNat]? with
 | some s=>s.seen
 | none=>false
def Z5s (h:Hse) (k:Nat) (i:Int):Bool:=match h.sights[i.toNat]? with
 | some s=>decide (wk h.gaps 0 (2 ^ k) s.bin.toNat≤s.week)
 | none=>false
def okK (h:Hse) (l:List Int) (k:Nat):Bool:=decide (l.countP (Z5s h k)<2)||ZH h.clrR.1 (k:Int)
def okN (h:Hse) (l:List Int) (k:Nat):Bool:=l.all (Z34 h)&&(List.range k).all (okK h l)
theorem ZdD (h:Hse) (l:List Int):okN h l 0=l.all (Z34 h):=by unfold okN;simp
theorem ZdC (h:Hse) (l:List Int) (k:Nat):okN h l (k+1)=(okN h l k&&okK h l k):=by unfold okN;rw [List.range_succ,List.all_append,Bool.and_assoc];simp
theorem Z9R {p:Int→Bool} {l:List Int} {k:Nat} {x:Int} (h:l[k]?=some x):(l.take (k+1)).all p=((l.take k).all p&&p x):=by rw [List.take_add_one,h,List.all_append];simp
theorem ZaO {p:Int→Bool} {l:List Int} {k:Nat} {x:Int} (h:l[k]?=some x):(l.take (k+1)).countP p=(l.take k).countP p+(bif p x then 1 else 0):=by
 rw [List.take_add_one,h,List.countP_append,Option.toList_some,List.countP_singleton]
 cases p x<;>rfl
theorem ZaP (p:Int→Bool) (l:List Int) (k:Nat):(l.take k).countP p≤k:=Nat.le_trans List.countP_le_length (by rw [List.length_take];omega)
structure LonI (P:Nat→Bool) (k:Nat) (b:List Int):Prop where
 is:b=[]∨∃ t,1≤t∧t<k∧P t=true∧b=Zs t
 le:∀ t,1≤t→t<k→P t=true→(Zs t).length<b.length∨((Zs t).length=b.length∧ahB (Zs t) b=false)
theorem LonI.start (P:Nat→Bool):LonI P 1 []:=⟨.inl rfl,fun t h1 h2=>by omega⟩
theorem LonI.take {P:Nat→Bool} {k:Nat} {b:List Int} (h:LonI P k b) (hk:1≤k) (h1:b.length<(Zs k).length∨((Zs k).length=b.length∧ahB (Zs k) b=true)) (h2:P k=true):LonI P (k+1) (Zs k):=by
 refine ⟨.inr ⟨k,hk,by omega,h2,rfl⟩,fun t t1 t2 t3=>?_⟩
 by_cases e:t=k
 · subst e;exact .inr ⟨rfl,Z7l _⟩
 · have h3:=h.le t t1 (by omega) t3
   rcases h1 with h1 | ⟨h1,h4⟩
   · exact .inl (by omega)
   · rcases h3 with h3 | ⟨h3,h5⟩
     · exact .inl (by omega)
     · exact .inr ⟨by omega,Z7k (Z5D h4 h5)⟩
theorem LonI.skip {P:Nat→Bool} {k:Nat} {b:List Int} (h:LonI P k b) (h1:P k=false∨(¬ b.length<(Zs k).length∧((Zs k).length=b.length→ahB (Zs k) b=false))):LonI P (k+1) b:=by
 refine ⟨h.is.imp id fun ⟨t,t1,t2,t3⟩=>⟨t,t1,by omega,t3⟩,fun t t1 t2 t3=>?_⟩
 by_cases e:t=k
 · subst e
   rcases h1 with h1 | ⟨h1,h4⟩
   · rw [h1] at t3;cases t3
   · rcases Nat.lt_or_ge (Zs t).length b.length with h5 | h5
     · exact .inl h5
     · exact .inr ⟨by omega,h4 (by omega)⟩
 · exact h.le t t1 (by omega) t3
theorem Z9W {h:Hse} (hk:h.ok):∀ K,(h.aptK K=[]∨∃ t,t<2 ^ h.sights.length∧h.aptB [] (Zs t)=true∧h.aptK K=Zs t)∧∀ t,t<2 ^ h.sights.length→h.aptB [] (Zs t)=true→(Zs t).length<K→(Zs t).length<(h.aptK K).length∨((Zs t).length=(h.aptK K).length∧ahB (Zs t) (h.aptK K)=false)
 | 0=>⟨.inl rfl,fun t _ _ h9=>by omega⟩
 | K+1=>by
   have hl:=hk.sl
   obtain ⟨i1,i2⟩:=Z9W hk K
   unfold Hse.aptK
   cases hs:Z0t (h.aptH K) h.sights.length with
   | none =>
     refine ⟨i1,fun t t1 t2 t3=>?_⟩
     rcases Nat.lt_or_ge (Zs t).length K with h1 | h1
     · exact i2 t t1 t2 h1
     · exact absurd (Z9C hs t t1 (by unfold Hse.aptH;rw [t2,decide_eq_true (by omega)];rfl) (by omega)) id
   | some x =>
     obtain ⟨⟨t',h1,h2⟩,h3,h4⟩:=Z4P (by omega) hs
     unfold Hse.aptH at h3
     rw [Bool.and_eq_true,decide_eq_true_eq] at h3
     dsimp only
     refine ⟨.inr ⟨t',h1,by rw [h2];exact h3.2,h2.symm⟩,fun t t1 t2 t3=>?_⟩
     rcases Nat.lt_or_ge (Zs t).length K with h5 | h5
     · exact .inl (by omega)
     · exact .inr ⟨by omega,h4 t t1 (by unfold Hse.aptH;rw [t2,decide_eq_true (by omega)];rfl)⟩
theorem Z62 {t n:Nat} (hn:n≤10) (ht:t<2 ^ n):(Zs t).length≤n:=by
 have:=Z2C ht hn
 have h2:=Z1O n t
 omega
theorem Zgg {h:Hse} (hk:h.ok) {P:Nat→Bool} {b:List Int} (hP:∀ t,t<2 ^ h.sights.length→P t=h.aptB [] (Zs t)) (hb:LonI P (2 ^ h.sights.length) b):b=h.aptK (h.sights.length+1):=by
 have hl:=hk.sl
 have hp:=Nat.pow_le_pow_right (show 0<2 by decide) (show h.sights.length≤10 by omega)
 obtain ⟨i1,i2⟩:=Z9W hk (h.sights.length+1)
 have hz:Zs 0=[]:=rfl
 have key:∀ t,t<2 ^ h.sights.length→h.aptB [] (Zs t)=true→h.aptK (h.sights.length+1)=Zs t→1≤t→b=h.aptK (h.sights.length+1):=fun t t1 t2 t3 t4=>by
   have h1:=hb.le t t4 t1 (by rw [hP t t1];exact t2)
   have h2:=Z4e t4 (by omega)
   rcases hb.is with rfl | ⟨u,u1,u2,u3,rfl⟩
   · rw [List.length_nil] at h1;omega
   · have h3:=i2 u u2 (by rw [← hP u u2];exact u3) (by have:=Z62 (by omega) u2;omega)
     rw [t3] at h3 ⊢
     rcases h1 with h1 | ⟨h1,h4⟩
     · rcases h3 with h3 | ⟨h3,_⟩<;>omega
     · rcases h3 with h3 | ⟨_,h5⟩
       · omega
       · exact Z84 h5 h4
 rcases i1 with h1 | ⟨t,t1,t2,t3⟩
 · rcases hb.is with h2 | ⟨u,u1,u2,u3,rfl⟩
   · rw [h1,h2]
   · have h3:=i2 u u2 (by rw [← hP u u2];exact u3) (by have:=Z62 (by omega) u2;omega)
     have h4:=Z4e u1 (by omega)
     rw [h1,List.length_nil] at h3
     omega
 · rcases Nat.eq_zero_or_pos t with rfl | h4
   · rw [hz] at t3
     rcases hb.is with h2 | ⟨u,u1,u2,u3,rfl⟩
     · rw [t3,h2]
     · have h3:=i2 u u2 (by rw [← hP u u2];exact u3) (by have:=Z62 (by omega) u2;omega)
       have h5:=Z4e u1 (by omega)
       rw [t3,List.length_nil] at h3
       omega
   · exact key t t1 t2 t3 h4
def byI (h:Hse) (k:Int) (i:Int):Bool:=match h.sights[i.toNat]? with
 | some s=>ZH (h.byL s) k
 | none=>false
theorem Z4z (p:Int→Bool) (i:Int) (l:List Int):(i::l).countP p=l.countP p+(bif p i then 1 else 0):=by
 rw [List.countP_cons]
 cases p i<;>rfl
theorem Z87 {h:Hse}:∀ {l met:List Int},h.aptB met l=true↔(∀ i∈l,Z34 h i=true)∧∀ k,(k∈met→l.countP (byI h k)=0)∧l.countP (byI h k)≤1
 | [],met=>⟨fun _=>⟨fun i hi=>(List.not_mem_nil hi).elim,fun k=>⟨fun _=>rfl,Nat.zero_le _⟩⟩,fun _=>rfl⟩
 | i::l,met=>by
   unfold Hse.aptB
   cases hs:h.sights[i.toNat]? with
   | none =>
     dsimp only
     refine ⟨fun h1=>(by cases h1),fun h1=>?_⟩
     have:=h1.1 i (by simp)
     unfold Z34 at this
     rw [hs] at this;exact this
   | some s =>
     dsimp only
     have hsi:Z34 h i=s.seen:=by unfold Z34;rw [hs]
     have hbi:∀ k,byI h k i=ZH (h.byL s) k:=fun k=>by unfold byI;rw [hs]
     rw [Bool.and_eq_true,Bool.and_eq_true,Bool.not_eq_true',List.any_eq_false,Z87]
     constructor
     · rintro ⟨⟨h1,h2⟩,h3,h4⟩
       refine ⟨fun j hj=>?_,fun k=>?_⟩
       · rcases List.mem_cons.1 hj with rfl | hj
         · rw [hsi];exact h1
         · exact h3 j hj
       · obtain ⟨h5,h6⟩:=h4 k
         rw [Z4z,hbi]
         cases hb:ZH (h.byL s) k with
         | false =>
           rw [cond_false]
           exact ⟨fun h7=>h5 (List.mem_append_left _ h7),h6⟩
         | true =>
           have h8:=h5 (List.mem_append_right _ (hasI_iff.1 hb))
           rw [cond_true]
           exact ⟨fun h7=>absurd (hasI_iff.2 h7) (h2 k (hasI_iff.1 hb)),by omega⟩
     · rintro ⟨h1,h2⟩
       refine ⟨⟨by rw [← hsi];exact h1 i (by simp),fun k hk h9=>?_⟩,fun j hj=>h1 j (by simp [hj]),fun k=>?_⟩
       · have h3:=(h2 k).1 (hasI_iff.1 h9)
         rw [Z4z,hbi,hasI_iff.2 hk] at h3
         simp only [cond_true] at h3;omega
       · obtain ⟨h3,h4⟩:=h2 k
         rw [Z4z,hbi] at h3 h4
         refine ⟨fun h5=>?_,by omega⟩
         rcases List.mem_append.1 h5 with h6 | h6
         · have:=h3 h6;omega
         · rw [hasI_iff.2 h6] at h4
           simp only [cond_true] at h4;omega
theorem ZaM {p q:Int→Bool} {l:List Int} (h:∀ x∈l,p x=q x):l.countP p=l.countP q:=List.countP_congr fun x hx=>by rw [h x hx]
theorem ZaN {p:Int→Bool} {l:List Int} (h:∀ x∈l,p x=false):l.countP p=0:=List.countP_eq_zero.2 fun x hx=>by rw [h x hx];decide
theorem Zfg {h:Hse} {s:Sgt} (hs:s.seen=true) {k:Int}:ZH (h.byL s) k=(ZH (h.clr h.sights (-1) 0) k&&decide (wk h.gaps 0 (msk [k]) s.bin.toNat≤s.week)):=by
 rw [Bool.eq_iff_iff,hasI_iff]
 unfold Hse.byL
 rw [List.mem_filter,Bool.and_eq_true,hasI_iff]
 refine and_congr Iff.rfl ?_
 unfold Hse.byP Z1D exS
 rw [List.all_cons,List.all_nil,Bool.and_true,Bool.not_not]
 rw [hs]
 cases decide (wk h.gaps 0 (msk [k]) s.bin.toNat≤s.week)<;>simp
theorem Zgn {h:Hse} (hk:h.ok) (l:List Int):okN h l h.bins.toNat=h.aptB [] l:=by
 have hck:=hse_ok.2 hk
 rw [Bool.eq_iff_iff,Z87]
 unfold okN
 rw [Bool.and_eq_true,List.all_eq_true,List.all_eq_true]
 have hcl:∀ k:Nat,k<h.bins.toNat→ZH h.clrR.1 (k:Int)=!ZH (h.clr h.sights (-1) 0) k:=fun k hkb=>by
   have:h.clrR.1=Z1E (fun k=>!ZH (h.clr h.sights (-1) 0) k) h.bins.toNat:=by unfold Hse.clrR;rw [hck];rfl
   rw [this,Bool.eq_iff_iff,hasI_iff]
   unfold Z1E
   rw [List.mem_map]
   constructor
   · rintro ⟨j,h1,h2⟩
     obtain rfl:j=k:=by omega
     exact (List.mem_filter.1 h1).2
   · intro h1
     exact ⟨k,List.mem_filter.2 ⟨List.mem_range.2 hkb,h1⟩,rfl⟩
 refine and_congr_right fun hse=>?_
 have hby:∀ (k:Int),∀ i∈l,byI h k i=(ZH (h.clr h.sights (-1) 0) k&&(match h.sights[i.toNat]? with | some s=>decide (wk h.gaps 0 (msk [k]) s.bin.toNat≤s.week) | none=>false)):=fun k i hi=>by
   have h1:=hse i hi
   unfold Z34 at h1
   unfold byI
   cases hs:h.sights[i.toNat]? with
   | none=>rw [Bool.and_false]
   | some s =>
     rw [hs] at h1
     exact Zfg h1
 have hms:∀ k:Nat,msk [(k:Int)]=2 ^ k:=Z68
 constructor
 · intro h1 k
   refine ⟨fun h9=>(List.not_mem_nil h9).elim,?_⟩
   cases hc:ZH (h.clr h.sights (-1) 0) k with
   | false=>rw [ZaN fun i hi=>by rw [hby k i hi,hc];rfl];exact Nat.zero_le _
   | true =>
     obtain ⟨j,j1,_,rfl⟩:=clr_mem.1 (hasI_iff.1 hc)
     have h2:=h1 j (List.mem_range.2 j1)
     unfold okK at h2
     rw [hcl j j1,hc,Bool.not_true,Bool.or_false,decide_eq_true_eq] at h2
     rw [ZaM (q:=Z5s h j) fun i hi=>by rw [hby _ i hi,hc,hms];rfl]
     omega
 · intro h1 k hkb
   have hkb:=List.mem_range.1 hkb
   unfold okK
   rw [hcl k hkb]
   cases hc:ZH (h.clr h.sights (-1) 0) (k:Int) with
   | false=>rw [Bool.not_false,Bool.or_true]
   | true =>
     have h2:=(h1 k).2
     rw [ZaM (q:=Z5s h k) fun i hi=>by rw [hby _ i hi,hc,hms];rfl] at h2
     rw [decide_eq_true (by omega)];rfl
set_option maxHeartbeats 800000 in
theorem ZcO (h:Hse) (ag as_:Option Addr) (cg cs:Nat) (hok:h.ok) (H:Zf) (R:Z6) [hG:MemRows ag 2 (Z7 h.gaps) R] [hS:MemRows as_ 3 (Z8 h.sights) R] :
    Fn Tryz.prog 67 [h.v (h.sg ag cg) (h.ss as_ cs)] H R (fun v H' R'=>∃ (f:Bool) (bs:List Int) (ab:Option Addr) (cb:Nat),MinI (fun t=>!Z44 h (2 ^ h.bins.toNat) t) (2 ^ h.sights.length) f bs∧v = .tuple #[.slice ab bs.length cb,.bool f]∧H'=H∧R'=RowsA ab 1 (Z3 bs)::R):=by
 refine Zl Tryz.func67 rfl Tryz.ntmps67 rfl ?_
 refine sqt 3 rfl ?_
 have hbn:=hok.bins
 have hsl:=hok.sl
 obtain ⟨B,hB⟩:∃ B:Nat,h.bins=B:=⟨h.bins.toNat,by omega⟩
 have hBt:h.bins.toNat=B:=by omega
 have hp8:=Nat.pow_le_pow_right (show 0<2 by decide) (show h.sights.length≤8 by omega)
 have h8:(2:Nat) ^ 8=256:=rfl
 have hp7:=Nat.pow_le_pow_right (show 0<2 by decide) (show B≤7 by omega)
 have h7:(2:Nat) ^ 7=128:=rfl
 have h10:(2:Nat) ^ 10=1024:=rfl
 have hpp:=Nat.two_pow_pos h.sights.length
 have hz0:=Z9U hok
 rw [hBt] at hz0 ⊢
 refine bx rfl rfl rfl (fun b1=>pur 2 rfl (sqt 1 rfl (pur 1 rfl (Z0 (sqt 1 rfl (pur 1 rfl (Z4 ?_)))))))
 refine Sy.heap (fun w h9=>St.norows (sz:=1) h9) ?_
 refine Ze (ι:={y:Nat×List Int×Option Addr×Nat // 1≤y.1∧y.1≤2 ^ h.sights.length∧MinI (fun t=>!Z44 h (2 ^ B) t) y.1 (!y.2.2.1.isNone) y.2.1∧y.2.1.length≤10}) (fun y=>⟨[(1,.pointer (some ⟨b1,0,none⟩)),(4,.slice y.1.2.2.1 y.1.2.1.length y.1.2.2.2),(5,.int .i64 ((y.1.1:Nat):Int))],(b1,cel 57 (htl h (h.sg ag cg) (h.ss as_ cs)))::H,RowsA y.1.2.2.1 1 (Z3 y.1.2.1)::R⟩) (fun y=>2 ^ h.sights.length-y.1.1) ⟨(1,[],none,0),Nat.le_refl _,by dsimp only;omega,MinI.start1 (by rw [hz0];rfl),by simp⟩ ?_ (fun y=>?_)
 exact Zi idH
 obtain ⟨⟨s,bs,ab,cb⟩,hs1,hs,hmi,hbl⟩:=y
 dsimp only at hs1 hs hmi hbl ⊢
 refine Z0 (sqt 6 rfl (pur 1 rfl (sp rfl (PE.fA Z1j rfl) rfl (spL rfl rfl (lh Z7P rfl rfl) rfl (sp rfl (PE.lenSl Z7D rfl) rfl ?_)))))
 refine clV rfl Z7y rfl rfl (Z2T h.sights.length (by omega) _ _) ?_
 refine pur 1 rfl ?_
 refine Z1 rfl ?_ ?_<;>intro hc0<;>try simp only [cS] at hc0
 have hml:=Z22 s
 have hmp:=Z4e hs1 (show s<2 ^ 10 by omega)
 refine Z2 (Z0 (Z4 (sqt 4 rfl (pur 1 rfl ?_))))
 refine cl rfl Z9m rfl rfl (Z3y s (by omega) _ _) ?_
 rintro _ _ R1 ⟨o18,rfl,rfl,hR1⟩
 obtain rfl:=hR1.symm
 clear hR1
 obtain ⟨al18,cl18,he,hcl18,hzz⟩:=o18.freezeC
 rw [irl] at hcl18
 rw [he,irl]
 refine Sy.heap (H':=_) (fun w h9=>hzz h9) ?_
 clear he hzz
 refine pur 2 rfl (Z0 (sqt 1 rfl (pur 1 rfl (Z4 ?_))))
 refine Ze (ι:={k:Nat // k≤2 ^ B∧(∀ j,j+1≤k→j+1<k→ZbI h j s=false)}) (fun k=>⟨[(1,.pointer (some ⟨b1,0,none⟩)),(4,.slice ab bs.length cb),(5,.int .i64 ((s:Nat):Int)),(6,.slice al18 (Zs s).length cl18),(7,.bool (Z44 h k.1 s)),(8,.int .i64 (k.1:Int))],(b1,cel 57 (htl h (h.sg ag cg) (h.ss as_ cs)))::H,RowsA al18 1 (Z3 (Zs s))::RowsA ab 1 (Z3 bs)::R⟩) (fun k=>2 ^ B-k.1) ⟨0,Nat.zero_le _,fun j h1 h2=>by omega⟩ ?_ (fun k=>?_)
 exact Zi idH
 obtain ⟨k,hk,hkn⟩:=k
 dsimp only at hk hkn ⊢
 refine Z0 (sqt 9 rfl (pur 1 rfl (sp rfl (PE.fA Z0L rfl) rfl (spL rfl rfl (lh (v:=.int .i64 h.bins) sc3 rfl rfl) rfl ?_))))
 rw [hB]
 refine clV rfl Z7y rfl rfl (Z2T B (by omega) _ _) ?_
 refine pur 2 rfl ?_
 refine Zj 24 rfl ?_ ?_<;>intro g24
 try simp only [cS] at g24
 refine pur 3 rfl ?_
 refine Z1 rfl ?_ ?_<;>intro hc1
 have hkB:k<2 ^ B:=by omega
 have hnk:Z44 h k s=false:=by rw [← Bool.not_eq_true'];exact hc1
 have hsc:=Z9T h k s
 rw [hnk,Bool.false_or] at hsc
 refine Z2 (Z0 (Z4 ?_))
 refine Zo [0,0,2,0,15,31] (.ld 0 (.tk 1 (.tk 3 (.big 2 (.big 4 (.tk 5 .done)))))) ZF (by kernel_rfl) ?_
 refine ld rfl rfl (lhA (htl h (h.sg ag cg) (h.ss as_ cs)) Z1q rfl rfl rfl) rfl (Zu 2 rfl ?_)
 refine cl rfl Z9m rfl rfl (Z3y k (by omega) _ _) ?_
 rintro _ _ R1 ⟨o32,rfl,rfl,hR1⟩
 obtain rfl:=hR1.symm
 clear hR1
 obtain ⟨al32,cl32,he,hcl32,hzz⟩:=o32.freezeC
 rw [irl] at hcl32
 rw [he,irl]
 refine Sy.heap (H':=_) (fun w h9=>hzz h9) ?_
 clear he hzz
 refine bg (fun w hs=>⟨(lhA (htl h (h.sg ag cg) (h.ss as_ cs)) Z1q rfl rfl rfl) w hs,trivial⟩) ?_
 refine clV rfl Zek rfl rfl (Zeg h ag as_ cg cs hok (Zs k) al32 cl32 (by rw [hB];exact Z5o (by omega) hkB) s (by omega) _ _) ?_
 refine bgT ?_
 rw [Z1x (show k<2 ^ 10 by omega),← hsc]
 refine Zu 1 rfl (sqr 3 rfl (pur 1 rfl (sp rfl (PE.add rfl rfl (by omega)) rfl (pur 1 rfl ?_))))
 exact Zc ⟨k+1,by omega,fun j h1 h2=>by
   cases hr:ZbI h j s with
   | false=>rfl
   | true =>
     have h3:Z44 h k s=true:=List.any_eq_true.2 ⟨j,List.mem_range.2 (by omega),hr⟩
     rw [hnk] at h3;cases h3⟩ (by dsimp only;omega) sbA (fun w h9=>h9.ftail)
 refine Z9 (Za (Za (Zm (sqt 11 rfl ?_))))
 have hany:Z44 h k s=Z44 h (2 ^ B) s:=by
   rcases Nat.lt_or_ge k (2 ^ B) with h1 | h1
   · have h2:Z44 h k s=true:=by
       first
         | (focus (exfalso;omega))
         | (rw [← Bool.not_eq_false'];exact hc1)
     rw [h2,Z86 hk h2]
   · rw [show k=2 ^ B by omega]
 rw [hany]
 refine pur 3 rfl ?_
 refine Zj 37 rfl ?_ ?_<;>intro g37
 have hp:(!Z44 h (2 ^ B) s)=true:=g37
 refine pur 1 rfl ?_
 refine spG rfl rfl rfl rfl (PE.eqlNil Zy rfl rfl) rfl ?_
 refine pur 1 rfl ?_
 refine Zj 40 rfl ?_ ?_<;>intro g40
 refine Zh (a:=al18) (sz:=1) (rows:=Z3 (Zs s)) (ne0 (by rw [irl];omega)) (fun ba bo he=>?_)
 subst he
 refine pur 5 rfl ?_
 refine ZP rfl ?_
 refine sqr 2 rfl (pur 2 rfl (sqr 3 rfl (pur 1 rfl (sp rfl (PE.add rfl rfl (by omega)) rfl (pur 1 rfl ?_)))))
 exact Zb ⟨(s+1,(Zs s),some ⟨ba,bo,none⟩,cl18),by dsimp only;omega,by dsimp only;omega,hmi.take (.inl (by rw [g40];rfl)) hp,hml⟩ (fun w h9=>h9.facts (fun g hg=>by simp only [List.mem_cons] at hg ⊢;rcases hg with h8 | h8<;>simp [h8]))
 refine pur 2 rfl ?_
 refine Z0C rfl rfl rfl rfl Z8i rfl rfl (Z47 (Zs s) bs (by omega) (by omega) al18 ab cl18 cb _ _) ?_
 refine pur 2 rfl ?_
 refine Z1 rfl ?_ ?_<;>intro hc2
 refine Zh (a:=al18) (sz:=1) (rows:=Z3 (Zs s)) (ne0 (by rw [irl];omega)) (fun ba bo he=>?_)
 subst he
 refine sqr 2 rfl (pur 2 rfl (sqr 3 rfl (pur 1 rfl (sp rfl (PE.add rfl rfl (by omega)) rfl (pur 1 rfl ?_)))))
 first
   | exact Zd ⟨(s+1,(Zs s),some ⟨ba,bo,none⟩,cl18),by dsimp only;omega,by dsimp only;omega,hmi.take (.inl (by rw [g40];rfl)) hp,hml⟩ (by dsimp only;omega) (fun w h9=>h9.facts (fun g hg=>by simp only [List.mem_cons] at hg ⊢;rcases hg with h8 | h8<;>simp [h8]))
   | exact Zd ⟨(s+1,(Zs s),some ⟨ba,bo,none⟩,cl18),by dsimp only;omega,by dsimp only;omega,hmi.take (.inr hc2) hp,hml⟩ (by dsimp only;omega) (fun w h9=>h9.facts (fun g hg=>by simp only [List.mem_cons] at hg ⊢;rcases hg with h8 | h8<;>simp [h8]))
 refine Z2 (sqr 3 rfl (pur 1 rfl (sp rfl (PE.add rfl rfl (by omega)) rfl (pur 1 rfl ?_))))
 exact Zb ⟨(s+1,bs,ab,cb),by dsimp only;omega,by dsimp only;omega,hmi.skip (.inr ⟨by rw [g40];rfl,hc2⟩),hbl⟩ (fun w h9=>h9.ftail)
 have hp:(!Z44 h (2 ^ B) s)=false:=g37
 refine pur 3 rfl ?_
 repeat refine spU rfl rfl rfl rfl rfl rfl rfl ?_
 refine pur 2 rfl ?_
 refine Zz rfl ?_
 refine Z2 (sqr 3 rfl (pur 1 rfl (sp rfl (PE.add rfl rfl (by omega)) rfl (pur 1 rfl ?_))))
 exact Zb ⟨(s+1,bs,ab,cb),by dsimp only;omega,by dsimp only;omega,hmi.skip (.inl hp),hbl⟩ (fun w h9=>h9.ftail)
 try simp only [cS] at g24
 refine pur 3 rfl ?_
 refine Zz rfl ?_
 refine Z9 (Za (Za (Zm (sqt 11 rfl ?_))))
 have hany:Z44 h k s=Z44 h (2 ^ B) s:=by
   rcases Nat.lt_or_ge k (2 ^ B) with h1 | h1
   · have h2:Z44 h k s=true:=by
       first
         | (focus (exfalso;omega))
         | (rw [← Bool.not_eq_false'];exact hc1)
     rw [h2,Z86 hk h2]
   · rw [show k=2 ^ B by omega]
 rw [hany]
 refine pur 3 rfl ?_
 refine Zj 37 rfl ?_ ?_<;>intro g37
 have hp:(!Z44 h (2 ^ B) s)=true:=g37
 refine pur 1 rfl ?_
 refine spG rfl rfl rfl rfl (PE.eqlNil Zy rfl rfl) rfl ?_
 refine pur 1 rfl ?_
 refine Zj 40 rfl ?_ ?_<;>intro g40
 refine Zh (a:=al18) (sz:=1) (rows:=Z3 (Zs s)) (ne0 (by rw [irl];omega)) (fun ba bo he=>?_)
 subst he
 refine pur 5 rfl ?_
 refine ZP rfl ?_
 refine sqr 2 rfl (pur 2 rfl (sqr 3 rfl (pur 1 rfl (sp rfl (PE.add rfl rfl (by omega)) rfl (pur 1 rfl ?_)))))
 exact Zb ⟨(s+1,(Zs s),some ⟨ba,bo,none⟩,cl18),by dsimp only;omega,by dsimp only;omega,hmi.take (.inl (by rw [g40];rfl)) hp,hml⟩ (fun w h9=>h9.facts (fun g hg=>by simp only [List.mem_cons] at hg ⊢;rcases hg with h8 | h8<;>simp [h8]))
 refine pur 2 rfl ?_
 refine Z0C rfl rfl rfl rfl Z8i rfl rfl (Z47 (Zs s) bs (by omega) (by omega) al18 ab cl18 cb _ _) ?_
 refine pur 2 rfl ?_
 refine Z1 rfl ?_ ?_<;>intro hc2
 refine Zh (a:=al18) (sz:=1) (rows:=Z3 (Zs s)) (ne0 (by rw [irl];omega)) (fun ba bo he=>?_)
 subst he
 refine sqr 2 rfl (pur 2 rfl (sqr 3 rfl (pur 1 rfl (sp rfl (PE.add rfl rfl (by omega)) rfl (pur 1 rfl ?_)))))
 first
   | exact Zd ⟨(s+1,(Zs s),some ⟨ba,bo,none⟩,cl18),by dsimp only;omega,by dsimp only;omega,hmi.take (.inl (by rw [g40];rfl)) hp,hml⟩ (by dsimp only;omega) (fun w h9=>h9.facts (fun g hg=>by simp only [List.mem_cons] at hg ⊢;rcases hg with h8 | h8<;>simp [h8]))
   | exact Zd ⟨(s+1,(Zs s),some ⟨ba,bo,none⟩,cl18),by dsimp only;omega,by dsimp only;omega,hmi.take (.inr hc2) hp,hml⟩ (by dsimp only;omega) (fun w h9=>h9.facts (fun g hg=>by simp only [List.mem_cons] at hg ⊢;rcases hg with h8 | h8<;>simp [h8]))
 refine Z2 (sqr 3 rfl (pur 1 rfl (sp rfl (PE.add rfl rfl (by omega)) rfl (pur 1 rfl ?_))))
 exact Zb ⟨(s+1,bs,ab,cb),by dsimp only;omega,by dsimp only;omega,hmi.skip (.inr ⟨by rw [g40];rfl,hc2⟩),hbl⟩ (fun w h9=>h9.ftail)
 have hp:(!Z44 h (2 ^ B) s)=false:=g37
 refine pur 3 rfl ?_
 repeat refine spU rfl rfl rfl rfl rfl rfl rfl ?_
 refine pur 2 rfl ?_
 refine Zz rfl ?_
 refine Z2 (sqr 3 rfl (pur 1 rfl (sp rfl (PE.add rfl rfl (by omega)) rfl (pur 1 rfl ?_))))
 exact Zb ⟨(s+1,bs,ab,cb),by dsimp only;omega,by dsimp only;omega,hmi.skip (.inl hp),hbl⟩ (fun w h9=>h9.ftail)
 obtain rfl:s=2 ^ h.sights.length:=by omega
 refine Z9 (Za (Za (Zm (sqt 5 rfl (pur 2 rfl (sp rfl (PE.neqNil Zy rfl rfl) rfl (pur 2 rfl (Z5 ?_))))))))
 exact rtB rfl rfl rfl rfl ⟨_,bs,ab,cb,hmi,rfl,rfl,rfl⟩ (fun w h9=>h9.del b1)
set_option maxHeartbeats 800000 in
theorem ZcN (h:Hse) (ag as_:Option Addr) (cg cs:Nat) (hok:h.ok) (H:Zf) (R:Z6) [hG:MemRows ag 2 (Z7 h.gaps) R] [hS:MemRows as_ 3 (Z8 h.sights) R] :
    Fn Tryz.prog 66 [h.v (h.sg ag cg) (h.ss as_ cs)] H R (fun v H' R'=>∃ (bs:List Int) (ab:Option Addr) (cb:Nat),LonI (fun t=>okN h (Zs t) h.bins.toNat) (2 ^ h.sights.length) bs∧v = .slice ab bs.length cb∧H'=H∧R'=RowsA ab 1 (Z3 bs)::R):=by
 refine Zl Tryz.func66 rfl Tryz.ntmps66 rfl ?_
 refine sqt 2 rfl ?_
 have hbn:=hok.bins
 have hsl:=hok.sl
 obtain ⟨B,hB⟩:∃ B:Nat,h.bins=B:=⟨h.bins.toNat,by omega⟩
 have hBt:h.bins.toNat=B:=by omega
 have hp8:=Nat.pow_le_pow_right (show 0<2 by decide) (show h.sights.length≤8 by omega)
 have h8:(2:Nat) ^ 8=256:=rfl
 have hp7:=Nat.pow_le_pow_right (show 0<2 by decide) (show B≤7 by omega)
 have h7:(2:Nat) ^ 7=128:=rfl
 have h10:(2:Nat) ^ 10=1024:=rfl
 have hpp:=Nat.two_pow_pos h.sights.length
 rw [hBt]
 refine Sy.heap (fun w h9=>St.norows (sz:=1) h9) ?_
 refine bx rfl rfl rfl (fun b1=>pur 1 rfl (sqt 3 rfl (spL rfl rfl (lhA (htl h (h.sg ag cg) (h.ss as_ cs)) Z1q rfl rfl rfl) rfl ?_)))
 refine cl rfl Zi8 rfl rfl (Z5i h ag as_ cg cs hok _ _) ?_
 rintro _ _ R1 ⟨ka,kc,rfl,rfl,hR1⟩
 obtain rfl:=hR1.symm
 clear hR1
 have hcc9:h.clrR.1.length≤7:=by
   unfold Hse.clrR
   cases decide (h.check≠0)
   · exact Nat.le_trans (Z0E _ _) (by omega)
   · exact Nat.zero_le _
 refine pur 1 rfl (sqt 1 rfl (pur 1 rfl (Z0 (sqt 1 rfl (pur 1 rfl (Z4 ?_))))))
 refine Sy.heap (fun w h9=>St.norows (sz:=1) h9) ?_
 refine Ze (ι:={y:Nat×List Int×Option Addr×Nat // 1≤y.1∧y.1≤2 ^ h.sights.length∧LonI (fun t=>okN h (Zs t) B) y.1 y.2.1∧y.2.1.length≤10}) (fun y=>⟨[(1,.pointer (some ⟨b1,0,none⟩)),(3,.slice ka h.clrR.1.length kc),(4,.slice y.1.2.2.1 y.1.2.1.length y.1.2.2.2),(5,.int .i64 ((y.1.1:Nat):Int))],(b1,cel 57 (htl h (h.sg ag cg) (h.ss as_ cs)))::H,RowsA y.1.2.2.1 1 (Z3 y.1.2.1)::RowsA ka 1 (Z3 h.clrR.1)::RowsA none 1 []::R⟩) (fun y=>2 ^ h.sights.length-y.1.1) ⟨(1,[],none,0),Nat.le_refl _,by dsimp only;omega,LonI.start _,by simp⟩ ?_ (fun y=>?_)
 exact Zi idH
 obtain ⟨⟨s,bs,ab,cb⟩,hs1,hs,hlo,hbl⟩:=y
 dsimp only at hs1 hs hlo hbl ⊢
 refine Z0 (sqt 6 rfl (pur 1 rfl (sp rfl (PE.fA Z1j rfl) rfl (spL rfl rfl (lh Z7P rfl rfl) rfl (sp rfl (PE.lenSl Z7D rfl) rfl ?_)))))
 refine clV rfl Z7y rfl rfl (Z2T h.sights.length (by omega) _ _) ?_
 refine pur 1 rfl ?_
 refine Z1 rfl ?_ ?_<;>intro hc0<;>try simp only [cS] at hc0
 have hsl9:s<2 ^ h.sights.length:=by omega
 have hml:=Z22 s
 refine Z2 (Z0 (Z4 (sqt 4 rfl (pur 1 rfl ?_))))
 refine cl rfl Z9m rfl rfl (Z3y s (by omega) _ _) ?_
 rintro _ _ R1 ⟨o25,rfl,rfl,hR1⟩
 obtain rfl:=hR1.symm
 clear hR1
 obtain ⟨al25,cl25,he,hcl25,hzz⟩:=o25.freezeC
 rw [irl] at hcl25
 rw [he,irl]
 refine Sy.heap (H':=_) (fun w h9=>hzz h9) ?_
 clear he hzz
 refine pur 2 rfl (Z0 (sqt 1 rfl (pur 1 rfl (Z4 ?_))))
 refine Ze (ι:={i:Nat // i≤(Zs s).length}) (fun i=>⟨[(1,.pointer (some ⟨b1,0,none⟩)),(3,.slice ka h.clrR.1.length kc),(4,.slice ab bs.length cb),(5,.int .i64 ((s:Nat):Int)),(6,.slice al25 (Zs s).length cl25),(7,.bool (((Zs s).take i.1).all (Z34 h))),(8,.int .i64 (i.1:Int))],(b1,cel 57 (htl h (h.sg ag cg) (h.ss as_ cs)))::H,RowsA al25 1 (Z3 (Zs s))::RowsA ab 1 (Z3 bs)::RowsA ka 1 (Z3 h.clrR.1)::RowsA none 1 []::R⟩) (fun i=>(Zs s).length-i.1) ⟨0,Nat.zero_le _⟩ ?_ (fun i=>?_)
 exact Zi idH
 obtain ⟨i,hi⟩:=i
 dsimp only at hi ⊢
 refine Z0 (sqt 4 rfl (pur 2 rfl (sp rfl (PE.lenSl Zy rfl) rfl (pur 1 rfl ?_))))
 refine Z1 rfl ?_ ?_<;>intro hc1<;>try simp only [cS] at hc1
 obtain ⟨z,hz⟩:∃ z,(Zs s)[i]?=some z:=⟨_,List.getElem?_eq_getElem (by omega)⟩
 obtain ⟨u,_,hub,rfl⟩:=memL_bit.1 (List.mem_of_getElem? hz)
 have hun:=Z0n hsl9 hub
 obtain ⟨x,hx⟩:∃ x,h.sights[u]?=some x:=⟨_,List.getElem?_eq_getElem hun⟩
 have hso:=hok.sights x (List.mem_of_getElem? hx)
 have hsx:Z34 h (u:Int)=x.seen:=by unfold Z34;rw [Int.toNat_natCast,hx]
 have hst:=Z9R (p:=Z34 h) hz
 rw [hsx] at hst
 refine Zh (a:=al25) (sz:=1) (rows:=Z3 (Zs s)) (ne0 (by rw [irl];omega)) (fun bl9 ol9 he=>?_)
 subst he
 refine Zh (a:=as_) (sz:=3) (rows:=Z8 h.sights) (ne0 (by rw [ZE];omega)) (fun bs9 os9 he=>?_)
 subst he
 refine Z2 (Z0 (Z4 ?_))
 refine Zo [0,1,3,7,3,3,51,115,255,511,1023,2047,4095] (tks 0 3 (.ld 3 (tks 4 3 (.ld 7 (.tk 8 (.tk 9 (.ld 10 (.tk 11 (.tk 12 .done))))))))) ZF (by kernel_rfl) ?_
 refine Zu 2 rfl ?_
 refine Zj 33 rfl ?_ ?_<;>intro g33
 refine tkG rfl rfl rfl rfl (PE.fA Z1j rfl) rfl ?_
 refine ldG rfl rfl rfl rfl rfl (lh Z7P rfl rfl) rfl (Zu 2 rfl ?_)
 refine tkG rfl rfl rfl rfl (PE.indexAddr Z0c rfl rfl (by omega) (by omega)) rfl ?_
 refine ldG rfl rfl rfl rfl rfl (lf0 sc3 (ZB hz) rfl) rfl ?_
 refine tkG rfl rfl rfl rfl (PE.indexAddr ZgZ rfl rfl (by omega) (by omega)) rfl ?_
 refine tkG rfl rfl rfl rfl (PE.fA Z7B rfl) rfl ?_
 refine ldG rfl rfl rfl rfl rfl (lf (j:=2) sc4 (Z2q hx) rfl) rfl (Zu 2 rfl (sqr 3 rfl (pur 1 rfl (sp rfl (PE.add rfl rfl (by omega)) rfl (pur 1 rfl ?_)))))
 first
   | (have f1:((Zs s).take (i+1)).all (Z34 h)=x.seen:=by rw [hst,g33];rfl
      exact Zc ⟨i+1,by omega⟩ (by dsimp only;omega) (by rw [f1];exact sbA) idH)
   | (have f1:((Zs s).take (i+1)).all (Z34 h)=false:=by rw [hst,g33];rfl
      exact Zc ⟨i+1,by omega⟩ (by dsimp only;omega) (by rw [f1];exact sbA) idH)
 refine Zu 1 rfl ?_
 refine ldN rfl rfl rfl rfl rfl rfl rfl rfl ?_
 refine Zu 3 rfl ?_
 refine ldN rfl rfl rfl rfl rfl rfl rfl rfl ?_
 refine Zu 2 rfl ?_
 refine ldN rfl rfl rfl rfl rfl rfl rfl rfl ?_
 refine Zu 2 rfl (sqr 3 rfl (pur 1 rfl (sp rfl (PE.add rfl rfl (by omega)) rfl (pur 1 rfl ?_))))
 first
   | (have f1:((Zs s).take (i+1)).all (Z34 h)=x.seen:=by rw [hst,g33];rfl
      exact Zc ⟨i+1,by omega⟩ (by dsimp only;omega) (by rw [f1];exact sbA) idH)
   | (have f1:((Zs s).take (i+1)).all (Z34 h)=false:=by rw [hst,g33];rfl
      exact Zc ⟨i+1,by omega⟩ (by dsimp only;omega) (by rw [f1];exact sbA) idH)
 obtain rfl:i=(Zs s).length:=by omega
 rw [List.take_length,← ZdD h]
 refine Z9 (Za (Za (Zm (Z0 (sqt 1 rfl (pur 1 rfl (Z4 ?_)))))))
 refine Ze (ι:={k:Nat // k≤B}) (fun k=>⟨[(1,.pointer (some ⟨b1,0,none⟩)),(3,.slice ka h.clrR.1.length kc),(4,.slice ab bs.length cb),(5,.int .i64 ((s:Nat):Int)),(6,.slice al25 (Zs s).length cl25),(7,.bool (okN h (Zs s) k.1)),(9,.int .i64 (k.1:Int))],(b1,cel 57 (htl h (h.sg ag cg) (h.ss as_ cs)))::H,RowsA al25 1 (Z3 (Zs s))::RowsA ab 1 (Z3 bs)::RowsA ka 1 (Z3 h.clrR.1)::RowsA none 1 []::R⟩) (fun k=>B-k.1) ⟨0,Nat.zero_le _⟩ ?_ (fun k=>?_)
 exact Zi idH
 obtain ⟨k,hk⟩:=k
 dsimp only at hk ⊢
 have hkk:=ZdC h (Zs s) k
 refine Z0 (sqt 4 rfl (pur 1 rfl (sp rfl (PE.fA Z0L rfl) rfl (spL rfl rfl (lh (v:=.int .i64 h.bins) sc3 rfl rfl) rfl ?_))))
 rw [hB]
 refine pur 1 rfl ?_
 refine Z1 rfl ?_ ?_<;>intro hc2<;>try simp only [cS] at hc2
 have hkl:ZM h.bins [(k:Int)]=0:=Z2B (fun x hx=>by rw [List.mem_singleton.1 hx];omega) (by simp)
 refine Z2 (Z0 (Z4 (sqt 6 rfl (spL rfl rfl (lhA (htl h (h.sg ag cg) (h.ss as_ cs)) Z1q rfl rfl rfl) rfl (pur 1 rfl ?_)))))
 refine bsl (out:=[_]) rfl Z03 zl3 rfl rfl rfl rfl rfl rfl (fun b52=>?_)
 refine Sy.heap (fun w h9=>St.rows (sz:=1) (rows:=Z3 [(k:Int)]) (rest:=[]) (h9.pull b52) (by simp)) ?_
 refine cl rfl Z7w rfl rfl (Z1X h ag as_ cg cs hok [(k:Int)] [] (some ⟨b52,0,none⟩) none 1 0 hkl (fun x hx=>by cases hx) (by decide) _ _) ?_
 rintro _ _ R1 ⟨aw,cw,rfl,rfl,hR1⟩
 obtain rfl:=hR1.symm
 clear hR1
 rw [hBt]
 refine pur 2 rfl (Z0 (sqt 1 rfl ?_))
 rw [show msk []=0 from rfl,Z68]
 refine pur 1 rfl (Z4 ?_)
 refine Ze (ι:={i:Nat // i≤(Zs s).length}) (fun i=>⟨[(1,.pointer (some ⟨b1,0,none⟩)),(3,.slice ka h.clrR.1.length kc),(4,.slice ab bs.length cb),(5,.int .i64 ((s:Nat):Int)),(6,.slice al25 (Zs s).length cl25),(7,.bool (okN h (Zs s) k)),(9,.int .i64 (k:Int)),(10,.slice aw B cw),(11,.int .i64 (((((Zs s).take i.1).countP (Z5s h k):Nat)):Int)),(12,.int .i64 (i.1:Int))],(b1,cel 57 (htl h (h.sg ag cg) (h.ss as_ cs)))::H,RowsA aw 1 (Z3 (wkL h.gaps 0 (2 ^ k) B))::RowsA al25 1 (Z3 (Zs s))::RowsA ab 1 (Z3 bs)::RowsA ka 1 (Z3 h.clrR.1)::RowsA none 1 []::R⟩) (fun i=>(Zs s).length-i.1) ⟨0,Nat.zero_le _⟩ ?_ (fun i=>?_)
 exact Zi (fun w h9=>h9.facts (fun g hg=>by simp only [List.mem_cons] at hg ⊢;rcases hg with h8 | h8 | h8 | h8 | h8 | h8<;>simp [h8]))
 obtain ⟨i,hi⟩:=i
 dsimp only at hi ⊢
 have hct:=ZaP (Z5s h k) (Zs s) i
 refine Z0 (sqt 4 rfl (pur 2 rfl (sp rfl (PE.lenSl Zy rfl) rfl (pur 1 rfl ?_))))
 refine Z1 rfl ?_ ?_<;>intro hc3<;>try simp only [cS] at hc3
 obtain ⟨z,hz⟩:∃ z,(Zs s)[i]?=some z:=⟨_,List.getElem?_eq_getElem (by omega)⟩
 obtain ⟨u,_,hub,rfl⟩:=memL_bit.1 (List.mem_of_getElem? hz)
 have hun:=Z0n hsl9 hub
 obtain ⟨x,hx⟩:∃ x,h.sights[u]?=some x:=⟨_,List.getElem?_eq_getElem hun⟩
 have hso:=hok.sights x (List.mem_of_getElem? hx)
 have hrx:Z5s h k (u:Int)=decide (wk h.gaps 0 (2 ^ k) x.bin.toNat≤x.week):=by unfold Z5s;rw [Int.toNat_natCast,hx]
 have hst:=ZaO (p:=Z5s h k) hz
 rw [hrx] at hst
 have hxb:x.bin.toNat<B:=by have:=hso.2;omega
 have hgw:=Z0Z (l:=(wkL h.gaps 0 (2 ^ k) B)) (k:=x.bin.toNat) (by rw [Z14];exact hxb)
 rw [Z50 hxb] at hgw
 have hwc:=Zcg (gs:=h.gaps) (m:=(2 ^ k)) (k:=x.bin.toNat) hso.1.2
 have hgw2:(Z3 (wkL h.gaps 0 (2 ^ k) B))[x.bin.toNat]?=some [.int .i64 (wkC h.gaps 0 (2 ^ k) x.bin.toNat)]:=ZB hgw
 generalize wkC h.gaps 0 (2 ^ k) x.bin.toNat=wx at *
 refine Zh (a:=aw) (sz:=1) (rows:=Z3 (wkL h.gaps 0 (2 ^ k) B)) (by intro h0;have:=congrArg List.length h0;rw [irl,Z14] at this;simp only [List.length_nil] at this;omega) (fun bw ow hew=>?_)
 subst hew
 rw [← hwc] at hst
 refine Zh (a:=al25) (sz:=1) (rows:=Z3 (Zs s)) (ne0 (by rw [irl];omega)) (fun bl9 ol9 he=>?_)
 subst he
 refine Zh (a:=as_) (sz:=3) (rows:=Z8 h.sights) (ne0 (by rw [ZE];omega)) (fun bs9 os9 he=>?_)
 subst he
 refine Z2 (Z0 (Z4 (Z0 ?_)))
 refine Zo [0,1,0,0,12,28,63,127,0,511] (.tk 0 (.ld 1 (tks 2 3 (.ld 5 (.tk 6 (.ld 7 (.big 8 (.big 9 .done)))))))) ZF (by kernel_rfl) ?_
 refine tk rfl (PE.fA Z1j rfl) rfl (ld rfl rfl (lh Z7P rfl rfl) rfl (Zu 2 rfl (tk rfl (PE.indexAddr Z0c rfl rfl (by omega) (by omega)) rfl (ld rfl rfl (lf0 sc3 (ZB hz) rfl) rfl (tk rfl (PE.indexAddr ZgZ rfl rfl (by omega) (by omega)) rfl (ld rfl rfl (lfA Zcu (row:=ZY x) (Z2q hx) rfl) rfl (alc rfl Ze7 rfl (fun b13=>?_))))))))
 refine bg (fun w hs=>⟨(lfA Zcu (row:=ZY x) (Z2q hx) rfl) w hs,(lf0 sc3 (ZB hz) rfl) w hs,(lh Z7P rfl rfl) w hs,trivial⟩) ?_
 refine ZG (l':=ZY x) rfl rfl rfl ZfQ rfl rfl rfl rfl (nl rfl) ?_
 refine bgT (Z0 ?_)
 refine Zo [0,0,2,7,15,31,63,127,127,383,1023,2047,127,4223,16383,32767] (.tk 0 (.tk 1 (.ld 2 (.tk 3 (.ld 4 (tks 5 4 (.ld 9 (.tk 10 (.ld 11 (.tk 12 (.ld 13 (.tk 14 (.tk 15 .done))))))))))))) ZF (by kernel_rfl) ?_
 refine Zu 1 rfl (tk rfl (PE.fA Z2Z rfl) rfl (ld rfl rfl (lh sc3 rfl rfl) rfl (tk rfl (PE.indexAddr Z0c rfl rfl (by omega) (by omega)) rfl (ld rfl rfl (lf0 sc3 hgw2 rfl) rfl (Zu 2 rfl ?_)))))
 refine Zj 74 rfl ?_ ?_<;>intro g74
 refine Zu 1 rfl ?_
 refine tkG rfl rfl rfl rfl (PE.fA Z2Z rfl) rfl ?_
 refine ldG rfl rfl rfl rfl rfl (lh sc3 rfl rfl) rfl ?_
 refine tkG rfl rfl rfl rfl (PE.indexAddr Z0c rfl rfl (by omega) (by omega)) rfl ?_
 refine ldG rfl rfl rfl rfl rfl (lf0 sc3 hgw2 rfl) rfl ?_
 refine tkG rfl rfl rfl rfl (PE.fA Z5V rfl) rfl ?_
 refine ldG rfl rfl rfl rfl rfl (lh sc3 rfl rfl) rfl (Zu 2 rfl ?_)
 refine Z1 rfl ?_ ?_<;>intro hc4
 have hn1:((Zs s).take (i+1)).countP (Z5s h k)=((Zs s).take i).countP (Z5s h k)+1:=by rw [hst,g74,hc4];rfl
 refine sqr 3 rfl (pur 1 rfl (sp rfl (PE.add rfl rfl (by omega)) rfl (pur 1 rfl (sqr 3 rfl (pur 1 rfl (sp rfl (PE.add rfl rfl (by omega)) rfl (pur 1 rfl ?_)))))))
 exact Zc ⟨i+1,by omega⟩ (by dsimp only;omega) (by rw [show (((((Zs s).take i).countP (Z5s h k):Nat)):Int)+1=(((((Zs s).take (i+1)).countP (Z5s h k):Nat)):Int) by omega];exact sbA) (fun w h9=>h9.del b13)
 have hn1:((Zs s).take (i+1)).countP (Z5s h k)=((Zs s).take i).countP (Z5s h k):=by rw [hst,g74,hc4];rfl
 refine Z2 (sqr 3 rfl (pur 1 rfl (sp rfl (PE.add rfl rfl (by omega)) rfl (pur 1 rfl ?_))))
 first
   | exact Zc ⟨i+1,by omega⟩ (by dsimp only;omega) (by rw [hn1];exact sbA) (fun w h9=>h9.del b13)
   | (have hn1:((Zs s).take (i+1)).countP (Z5s h k)=((Zs s).take i).countP (Z5s h k):=by rw [hst,g74];rfl
      exact Zc ⟨i+1,by omega⟩ (by dsimp only;omega) (by rw [hn1];exact sbA) (fun w h9=>h9.del b13))
 refine Zu 2 rfl ?_
 refine ldN rfl rfl rfl rfl rfl rfl rfl rfl ?_
 refine Zu 1 rfl ?_
 refine ldN rfl rfl rfl rfl rfl rfl rfl rfl ?_
 refine Zu 1 rfl ?_
 refine ldN rfl rfl rfl rfl rfl rfl rfl rfl ?_
 refine Zu 2 rfl ?_
 refine Zz rfl ?_
 refine Z2 (sqr 3 rfl (pur 1 rfl (sp rfl (PE.add rfl rfl (by omega)) rfl (pur 1 rfl ?_))))
 first
   | exact Zc ⟨i+1,by omega⟩ (by dsimp only;omega) (by rw [hn1];exact sbA) (fun w h9=>h9.del b13)
   | (have hn1:((Zs s).take (i+1)).countP (Z5s h k)=((Zs s).take i).countP (Z5s h k):=by rw [hst,g74];rfl
      exact Zc ⟨i+1,by omega⟩ (by dsimp only;omega) (by rw [hn1];exact sbA) (fun w h9=>h9.del b13))
 obtain rfl:i=(Zs s).length:=by omega
 rw [List.take_length]
 refine Z9 (Za (Za (Zm (sqr 11 rfl (pur 2 rfl ?_)))))
 refine Zj 87 rfl ?_ ?_<;>intro g87
 refine pur 3 rfl ?_
 refine Zj 90 rfl ?_ ?_<;>intro g90
 try simp only [cS] at g90
 have hd:decide ((Zs s).countP (Z5s h k)<2)=true:=dT (by omega)
 refine pur 6 rfl (sqr 3 rfl (pur 1 rfl (sp rfl (PE.add rfl rfl (by omega)) rfl (pur 1 rfl ?_))))
 first
   | (have f1:okN h (Zs s) (k+1)=true:=by unfold okK at hkk;rw [hkk,g87,hd];rfl
      exact Zc ⟨k+1,by omega⟩ (by dsimp only;omega) (by rw [f1];exact sbA) (fun w h9=>h9.facts (fun g hg=>by simp only [List.mem_cons] at hg ⊢;rcases hg with h8 | h8 | h8 | h8 | h8<;>simp [h8])))
   | (have f1:okN h (Zs s) (k+1)=ZH h.clrR.1 (k:Int):=by unfold okK at hkk;rw [hkk,g87,hd];rfl
      exact Zc ⟨k+1,by omega⟩ (by dsimp only;omega) (by rw [f1];exact sbA) (fun w h9=>h9.facts (fun g hg=>by simp only [List.mem_cons] at hg ⊢;rcases hg with h8 | h8 | h8 | h8 | h8<;>simp [h8])))
   | (have f1:okN h (Zs s) (k+1)=false:=by rw [hkk,g87];rfl
      exact Zc ⟨k+1,by omega⟩ (by dsimp only;omega) (by rw [f1];exact sbA) (fun w h9=>h9.facts (fun g hg=>by simp only [List.mem_cons] at hg ⊢;rcases hg with h8 | h8 | h8 | h8 | h8<;>simp [h8])))
 try simp only [cS] at g90
 have hd:decide ((Zs s).countP (Z5s h k)<2)=false:=dF (by omega)
 refine pur 2 rfl ?_
 refine Z0C rfl rfl rfl rfl Z1g rfl rfl (Z0j h.clrR.1 ka kc (k:Int) (by omega) _ _) ?_
 refine pur 3 rfl (sqr 3 rfl (pur 1 rfl (sp rfl (PE.add rfl rfl (by omega)) rfl (pur 1 rfl ?_))))
 first
   | (have f1:okN h (Zs s) (k+1)=true:=by unfold okK at hkk;rw [hkk,g87,hd];rfl
      exact Zc ⟨k+1,by omega⟩ (by dsimp only;omega) (by rw [f1];exact sbA) (fun w h9=>h9.facts (fun g hg=>by simp only [List.mem_cons] at hg ⊢;rcases hg with h8 | h8 | h8 | h8 | h8<;>simp [h8])))
   | (have f1:okN h (Zs s) (k+1)=ZH h.clrR.1 (k:Int):=by unfold okK at hkk;rw [hkk,g87,hd];rfl
      exact Zc ⟨k+1,by omega⟩ (by dsimp only;omega) (by rw [f1];exact sbA) (fun w h9=>h9.facts (fun g hg=>by simp only [List.mem_cons] at hg ⊢;rcases hg with h8 | h8 | h8 | h8 | h8<;>simp [h8])))
   | (have f1:okN h (Zs s) (k+1)=false:=by rw [hkk,g87];rfl
      exact Zc ⟨k+1,by omega⟩ (by dsimp only;omega) (by rw [f1];exact sbA) (fun w h9=>h9.facts (fun g hg=>by simp only [List.mem_cons] at hg ⊢;rcases hg with h8 | h8 | h8 | h8 | h8<;>simp [h8])))
 refine pur 3 rfl ?_
 repeat refine spU rfl rfl rfl rfl rfl rfl rfl ?_
 refine pur 3 rfl (sqr 3 rfl (pur 1 rfl (sp rfl (PE.add rfl rfl (by omega)) rfl (pur 1 rfl ?_))))
 first
   | (have f1:okN h (Zs s) (k+1)=true:=by unfold okK at hkk;rw [hkk,g87,hd];rfl
      exact Zc ⟨k+1,by omega⟩ (by dsimp only;omega) (by rw [f1];exact sbA) (fun w h9=>h9.facts (fun g hg=>by simp only [List.mem_cons] at hg ⊢;rcases hg with h8 | h8 | h8 | h8 | h8<;>simp [h8])))
   | (have f1:okN h (Zs s) (k+1)=ZH h.clrR.1 (k:Int):=by unfold okK at hkk;rw [hkk,g87,hd];rfl
      exact Zc ⟨k+1,by omega⟩ (by dsimp only;omega) (by rw [f1];exact sbA) (fun w h9=>h9.facts (fun g hg=>by simp only [List.mem_cons] at hg ⊢;rcases hg with h8 | h8 | h8 | h8 | h8<;>simp [h8])))
   | (have f1:okN h (Zs s) (k+1)=false:=by rw [hkk,g87];rfl
      exact Zc ⟨k+1,by omega⟩ (by dsimp only;omega) (by rw [f1];exact sbA) (fun w h9=>h9.facts (fun g hg=>by simp only [List.mem_cons] at hg ⊢;rcases hg with h8 | h8 | h8 | h8 | h8<;>simp [h8])))
 obtain rfl:k=B:=by omega
 refine Z9 (Za (Za (Zm (sqt 20 rfl (pur 2 rfl ?_)))))
 refine Zj 97 rfl ?_ ?_<;>intro g97
 refine pur 1 rfl ?_
 refine spG rfl rfl rfl rfl (PE.lenSl Zy rfl) rfl ?_
 refine pur 1 rfl ?_
 refine spG rfl rfl rfl rfl (PE.lenSl Zy rfl) rfl ?_
 refine pur 2 rfl ?_
 refine Zj 103 rfl ?_ ?_<;>intro g103
 try simp only [cS] at g103
 refine pur 6 rfl ?_
 repeat refine spU rfl rfl rfl rfl rfl rfl rfl ?_
 refine pur 3 rfl ?_
 refine ZP rfl ?_
 refine sqr 2 rfl (pur 2 rfl (sqr 3 rfl (pur 1 rfl (sp rfl (PE.add rfl rfl (by omega)) rfl (pur 1 rfl ?_)))))
 first
   | exact Zd ⟨(s+1,(Zs s),al25,cl25),by dsimp only;omega,by dsimp only;omega,hlo.take hs1 (.inl (by omega)) g97,hml⟩ (by dsimp only;omega) (fun w h9=>h9.facts (fun g hg=>by simp only [List.mem_cons] at hg ⊢;rcases hg with h8 | h8 | h8 | h8<;>simp [h8]))
   | exact Zd ⟨(s+1,bs,ab,cb),by dsimp only;omega,by dsimp only;omega,hlo.skip (.inr ⟨by omega,fun h9=>absurd h9 (by omega)⟩),hbl⟩ (by dsimp only;omega) (fun w h9=>h9.facts (fun g hg=>by simp only [List.mem_cons] at hg ⊢;rcases hg with h8 | h8 | h8 | h8<;>simp [h8]))
 try simp only [cS] at g103
 refine pur 1 rfl ?_
 refine spG rfl rfl rfl rfl (PE.lenSl Zy rfl) rfl ?_
 refine pur 1 rfl ?_
 refine spG rfl rfl rfl rfl (PE.lenSl Zy rfl) rfl ?_
 refine pur 2 rfl ?_
 refine Zj 109 rfl ?_ ?_<;>intro g109
 try simp only [cS] at g109
 refine pur 2 rfl ?_
 refine Z0C rfl rfl rfl rfl Z8i rfl rfl (Z47 (Zs s) bs (by omega) (by omega) al25 ab cl25 cb _ _) ?_
 refine pur 3 rfl ?_
 refine Z1 rfl ?_ ?_<;>intro hc5
 refine sqr 2 rfl (pur 2 rfl (sqr 3 rfl (pur 1 rfl (sp rfl (PE.add rfl rfl (by omega)) rfl (pur 1 rfl ?_)))))
 exact Zb ⟨(s+1,(Zs s),al25,cl25),by dsimp only;omega,by dsimp only;omega,hlo.take hs1 (.inr ⟨by omega,hc5⟩) g97,hml⟩ (fun w h9=>h9.facts (fun g hg=>by simp only [List.mem_cons] at hg ⊢;rcases hg with h8 | h8 | h8 | h8<;>simp [h8]))
 refine Z2 (sqr 3 rfl (pur 1 rfl (sp rfl (PE.add rfl rfl (by omega)) rfl (pur 1 rfl ?_))))
 exact Zb ⟨(s+1,bs,ab,cb),by dsimp only;omega,by dsimp only;omega,hlo.skip (.inr ⟨by omega,fun _=>hc5⟩),hbl⟩ (fun w h9=>h9.facts (fun g hg=>by simp only [List.mem_cons] at hg ⊢;rcases hg with h8 | h8 | h8 | h8<;>simp [h8]))
 try simp only [cS] at g109
 refine pur 6 rfl ?_
 refine Zz rfl ?_
 refine Z2 (sqr 3 rfl (pur 1 rfl (sp rfl (PE.add rfl rfl (by omega)) rfl (pur 1 rfl ?_))))
 first
   | exact Zd ⟨(s+1,(Zs s),al25,cl25),by dsimp only;omega,by dsimp only;omega,hlo.take hs1 (.inl (by omega)) g97,hml⟩ (by dsimp only;omega) (fun w h9=>h9.facts (fun g hg=>by simp only [List.mem_cons] at hg ⊢;rcases hg with h8 | h8 | h8 | h8<;>simp [h8]))
   | exact Zd ⟨(s+1,bs,ab,cb),by dsimp only;omega,by dsimp only;omega,hlo.skip (.inr ⟨by omega,fun h9=>absurd h9 (by omega)⟩),hbl⟩ (by dsimp only;omega) (fun w h9=>h9.facts (fun g hg=>by simp only [List.mem_cons] at hg ⊢;rcases hg with h8 | h8 | h8 | h8<;>simp [h8]))
 refine pur 6 rfl ?_
 repeat refine spU rfl rfl rfl rfl rfl rfl rfl ?_
 refine pur 2 rfl ?_
 refine Zz rfl ?_
 refine Z2 (sqr 3 rfl (pur 1 rfl (sp rfl (PE.add rfl rfl (by omega)) rfl (pur 1 rfl ?_))))
 exact Zb ⟨(s+1,bs,ab,cb),by dsimp only;omega,by dsimp only;omega,hlo.skip (.inl g97),hbl⟩ (fun w h9=>h9.facts (fun g hg=>by simp only [List.mem_cons] at hg ⊢;rcases hg with h8 | h8 | h8 | h8<;>simp [h8]))
 obtain rfl:s=2 ^ h.sights.length:=by omega
 refine Z9 (Za (Za (Zm (sqt 2 rfl (pur 2 rfl (Z5 ?_))))))
 exact rtA rfl rfl rfl ⟨bs,ab,cb,hlo,rfl,rfl,rfl⟩ (fun w h9=>(h9.del b1).facts (fun g hg=>by simp only [List.mem_cons] at hg ⊢;rcases hg with h8 | h8<;>simp [h8]))
end Go.Proofs.YtclnhdkneegfkaaGreat
