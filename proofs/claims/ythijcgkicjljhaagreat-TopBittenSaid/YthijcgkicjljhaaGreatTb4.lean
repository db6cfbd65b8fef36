/- Walks of the functions of the program, and the laws that join them: what the last theorem of this claim needs, in order. -/
import Derived.Test.YthijcgkicjljhaaGreatTb3
namespace Go.Proofs.YthijcgkicjljhaaGreat.Ro
set_option linter.unusedSimpArgs false
set_option linter.unusedVariables false
open Go
theorem Z6g:apT Tryz.prog 30=some (3,1,8):=by kernel_rfl
theorem ZiS:apT Tryz.prog 37=some (50,4,32):=by kernel_rfl
theorem Zfx:apT Tryz.prog 68=some (43,2,16):=by kernel_rfl
theorem Zjf:cal Tryz.prog 31=true:=by kernel_rfl
theorem ZdX:cal Tryz.prog 35=true:=by kernel_rfl
theorem Zhf:cal Tryz.prog 38=true:=by kernel_rfl
theorem ZcU:ZF Tryz.prog 39=some 3:=by kernel_rfl
theorem ZiE:ZF Tryz.prog 68=some 1:=by kernel_rfl
theorem Zib:ZM Tryz.prog 39=some [(0,1),(1,1),(2,1)]:=by kernel_rfl
theorem Zdc:Z0j Tryz.prog 68=true:=by kernel_rfl
theorem Zkn:slE Tryz.prog 37=some (50,4):=by kernel_rfl
theorem Zil:slE Tryz.prog 68=some (43,2):=by kernel_rfl
theorem Zb8:Zw Tryz.prog 39=some ([.int .i64 0,.int .i64 0,.slice none 0 0]):=by kernel_rfl
theorem Zkz:Zw Tryz.prog 68=some ([.slice none 0 0]):=by kernel_rfl
theorem Zf3 {p q vs:List Value} (h:q.length=vs.length) {i:Nat} (hi:i=p.length):spl (p++q) i vs=p++vs:=by
 subst hi
 unfold spl
 rw [List.take_left,List.drop_eq_nil_of_le (by rw [List.length_append];omega),List.append_nil]
theorem Z3J (n:Nat):(Z2p n [Value.int .i64 0,.int .i64 0,.int .i64 0,.int .i64 0]).length=n*4:=by
 rw [← Z0Z,ZK (sz:=4) (fun q hq=>by rw [(List.mem_replicate.1 hq).2];rfl),List.length_replicate]
theorem Zii (a b:List Rd):rdrows (a++b)=rdrows a++rdrows b:=List.map_append
theorem Zcb (l:List Rd) (x:Rd) {i:Nat} (hi:i=l.length*4):spl (spl (Z2p (l.length+1) [Value.int .i64 0,.int .i64 0,.int .i64 0,.int .i64 0]) 0 (rdrows l).flatten) i (rdrow x)=(rdrows (l++[x])).flatten:=by
 have h1:=Z3J (l.length+1)
 rw [show spl (Z2p (l.length+1) [Value.int .i64 0,.int .i64 0,.int .i64 0,.int .i64 0]) 0 (rdrows l).flatten=(rdrows l).flatten++(Z2p (l.length+1) [Value.int .i64 0,.int .i64 0,.int .i64 0,.int .i64 0]).drop (0+(rdrows l).flatten.length) from rfl]
 rw [Zf3 (by rw [List.length_drop,h1,Z52];show _=4;omega) (by rw [Z52];exact hi),Zii,List.flatten_append]
 show _=_++[rdrow x].flatten
 rw [List.flatten_cons,List.flatten_nil,List.append_nil]
def Rb.add (b:Rb) (x:Rd):Rb:={ b with rods:=b.rods++[x] }
theorem Rb.add_ok {b:Rb} (hb:b.ok) {x:Rd} (hf:b.rods.length<8) (hx:(0≤x.c∧x.c<b.cols)∧(0≤x.r∧x.r<b.rows)∧(0≤x.g∧x.g≤3)∧0≤x.s∧x.s≤9):(b.add x).ok:=⟨hb.cols,hb.rows,by show (b.rods++[x]).length≤8;rw [List.length_append,List.length_singleton];omega,fun y hy=>by
 rcases List.mem_append.1 hy with h | h
 · exact hb.rod y h
 · rw [List.mem_singleton.1 h];exact hx⟩
def crows (b:Rb) (l:List Nat):List (List Value):=l.map fun k=>[.int .i64 ((k%b.cols:Nat):Int),.int .i64 ((k / b.cols:Nat):Int)]
theorem Z4b (b:Rb) (l:List Nat):(crows b l).length=l.length:=List.length_map _
theorem ZcV (b:Rb) (l:List Nat) (k:Nat):crows b l++[[.int .i64 ((k%b.cols:Nat):Int),.int .i64 ((k / b.cols:Nat):Int)]]=crows b (l++[k]):=by simp [crows]
def selL (p:Nat→Bool) (K:Nat):List Nat:=(List.range K).filter p
theorem Zde {p:Nat→Bool} {K:Nat} (h:p K=true):selL p K++[K]=selL p (K+1):=by unfold selL;rw [List.range_succ,List.filter_append];simp [h]
theorem Z70 {p:Nat→Bool} {K:Nat} (h:p K=false):selL p K=selL p (K+1):=by unfold selL;rw [List.range_succ,List.filter_append];simp [h]
theorem ZaK (p:Nat→Bool) (K:Nat):(selL p K).length≤K:=Nat.le_trans (List.length_filter_le _ _) (by rw [List.length_range];exact Nat.le_refl _)
def Rb.opn (b:Rb) (k:Nat):Bool:=decide (0<b.top k)&&!b.aloneB k
theorem c_Feels (b:Rb) (a:Option Addr) (c:Nat) (hb:b.ok) (l:List Int) (ak:Option Addr) (ck:Nat) (hl:l.length=b.n) (hh:∀ x∈l,0≤x∧x≤9) (x:Rd) (hx:(0≤x.c∧x.c<b.cols)∧(0≤x.r∧x.r<b.rows)∧0≤x.g∧x.g≤3) (H:Z7) (R:Z5) [hB:MemRows a 4 (rdrows b.rods) R] [hL:MemRows ak 1 (irows l) R] :
    FnV Tryz.prog 9 [(b.v a c),.slice ak l.length ck,.agg #[.int .i64 x.c,.int .i64 x.r],.int .i64 x.g] H R (.tuple #[.int .i64 (b.feel (na l) x),.int .i64 0]):=by
 have hnl:=Rb.n_le hb
 have hbc:=hb.cols
 have hbr:=hb.rows
 have hpd:∀ k,k<25→0≤na (Z1T l) k∧na (Z1T l) k≤9:=fun k _=>by
   rcases Nat.lt_or_ge k l.length with h | h
   · rw [Z7F h];exact hh _ (List.mem_of_getElem? (na_get h))
   · rw [Zar h];decide
 have hfe:b.feel (na (Z1T l)) x=b.feel (na l) x:=Z2F _ fun k hk=>Z7F (by omega)
 refine Z8 Tryz.func9 rfl Tryz.ntmps9 rfl ?_
 refine sqt 4 rfl (bx rfl rfl rfl (fun b4=>bx rfl rfl rfl (fun b6=>pur 2 rfl (Z0 (sqt 3 rfl (spL rfl rfl (lhA (rbl b a c) ZT rfl rfl rfl) rfl ?_))))))
 refine clV rfl Zbu rfl rfl (ZG b a c hb _ _) ?_
 refine pur 1 rfl (sqt 2 rfl (pur 2 rfl ?_))
 refine Z1 rfl ?_ ?_<;>intro hc0
 exact absurd hc0 (by simp)
 refine Z3 (sqt 9 rfl (spL rfl rfl (lhA (rbl b a c) ZT rfl rfl rfl) rfl (pur 1 rfl ?_)))
 refine clV rfl Zjf rfl rfl (Zbq b a c hb l ak ck hl hh _ _) ?_
 refine pur 3 rfl (alc rfl Ziz rfl (fun b11=>?_))
 refine Zdg rfl rfl rfl ZjS rfl (by rw [Zb];exact Z13 (by omega)) rfl (Z0f _) ?_
 refine pur 1 rfl (Z0 (Z2 (sqt 3 rfl (pur 3 rfl ?_))))
 refine Z1 rfl ?_ ?_<;>intro hc1
 exact absurd hc1 (by simp)
 refine sqt 5 rfl (spL rfl rfl (lhA (rbl b a c) ZT rfl rfl rfl) rfl (spL rfl rfl (lhA [.int .i64 x.c,.int .i64 x.r] Z2A rfl rfl rfl) rfl ?_))
 refine clV rfl Zhd rfl rfl (ZfN b a c hb x.c x.r hx.1 hx.2.1 _ _) ?_
 refine pur 2 rfl ?_
 refine Z1 rfl ?_ ?_<;>intro hc2
 exact absurd hc2 (by simp)
 refine sqt 4 rfl (pur 1 rfl ?_)
 refine clV rfl Z5A rfl rfl (Z0z _ _ _ (by omega) _ _) ?_
 refine pur 2 rfl ?_
 refine Z1 rfl ?_ ?_<;>intro hc3
 exact absurd hc3 (by simp)
 refine Z3 (sqt 7 rfl (spL rfl rfl (lhA (rbl b a c) ZT rfl rfl rfl) rfl (spL rfl rfl (lhA (rest:=[]) (Zj (Z1T l)) ZcC rfl (by rw [List.append_nil];rfl) (by rw [Zb];exact Z13 (by omega))) rfl (spL rfl rfl (lhA [.int .i64 x.c,.int .i64 x.r] Z2A rfl rfl rfl) rfl (pur 1 rfl ?_)))))
 refine cl rfl Zhe rfl rfl (Z94 b a c hb (Z1T l) (Z13 (by omega)) hpd x ⟨by omega,by omega⟩ _ _) ?_
 rintro _ _ R1 ⟨rfl,rfl,hR1⟩
 obtain rfl:=hR1.symm
 clear hR1
 refine pur 2 rfl (Z4 ?_)
 exact rtB rfl rfl rfl rfl ⟨by rw [← hfe];rfl,rfl,rfl⟩ (fun w h=>((h.del b11).del b6).del b4)
set_option maxHeartbeats 400000 in
theorem c_Put (b:Rb) (a:Option Addr) (c:Nat) (hb:b.ok) (x:Rd) (hfw:b.rods.length<8) (hx:(0≤x.c∧x.c<b.cols)∧(0≤x.r∧x.r<b.rows)∧(0≤x.g∧x.g≤3)∧0≤x.s∧x.s≤9) (H:Z7) (R:Z5) [hB:MemRows a 4 (rdrows b.rods) R] :
    Fn Tryz.prog 10 [(b.v a c),.agg (rdrow x).toArray] H R (fun v H' R'=>∃ ax cx,v = .tuple #[(b.add x).v ax cx,.int .i64 0]∧H'=H∧R'=RowsA ax 4 (rdrows (b.add x).rods)::R):=by
 have hb2:=Rb.add_ok hb hfw hx
 have hbf:=hb.few
 have hal:(b.add x).rods.length=b.rods.length+1:=by show (b.rods++[x]).length=_;rw [List.length_append];rfl
 have hrb:∀ q:Nat,spl [Value.int .i64 0,.int .i64 0,.slice none 0 0] 0 [.int .i64 (b.cols:Int),.int .i64 (b.rows:Int),.slice (some ⟨q,0,none⟩) (b.rods.length+1) (b.rods.length+1)]=rbl (b.add x) (some ⟨q,0,none⟩) (b.rods.length+1):=fun q=>by
   unfold rbl;rw [hal];rfl
 have hsl:(spl (Z2p (b.rods.length+1) [Value.int .i64 0,.int .i64 0,.int .i64 0,.int .i64 0]) 0 (rdrows b.rods).flatten).length=(b.rods.length+1)*4:=by
   unfold spl
   rw [List.length_append,List.length_append,List.length_take,List.length_drop,Z3J,Z52];omega
 refine Z8 Tryz.func10 rfl Tryz.ntmps10 rfl ?_
 refine sqt 4 rfl (bx rfl rfl rfl (fun b2=>bx rfl rfl rfl (fun b3=>alc rfl Zb8 rfl (fun b4=>pur 1 rfl (Z0 (sqt 3 rfl (spL rfl rfl (lhA (rbl b a c) ZT rfl rfl rfl) rfl ?_)))))))
 refine clV rfl Zbu rfl rfl (ZG b a c hb _ _) ?_
 refine pur 1 rfl (sqt 2 rfl (pur 2 rfl ?_))
 refine Z1 rfl ?_ ?_<;>intro hc0
 exact absurd hc0 (by simp)
 refine Z3 (Z0 (sqt 4 rfl (sp rfl (PE.fA Z0x rfl) rfl (spL rfl rfl (lh Z63 rfl rfl) rfl (sp rfl (PE.lenSl Z40 rfl) rfl (pur 1 rfl ?_))))))
 refine Z1 rfl ?_ ?_<;>intro hc1
 exact absurd hc1 (by simp;omega)
 refine Z3 (Z0 ?_)
 refine Z2u (ι:=Nat×Nat) (fun y=>⟨[(2,.pointer (some ⟨b2,0,none⟩)),(3,.pointer (some ⟨b3,0,none⟩)),(4,.pointer (some ⟨b4,0,none⟩)),(7,.pointer (some ⟨y.1,0,none⟩))],(y.1,cel 39 (rbl (b.add x) (some ⟨y.2,0,none⟩) (b.rods.length+1)))::(y.2,cel 50 (Z2p (b.rods.length+1) [Value.int .i64 0,.int .i64 0,.int .i64 0,.int .i64 0]))::(b4,cel 39 [.int .i64 0,.int .i64 0,.slice none 0 0])::(b3,cel 50 (rdrow x))::(b2,cel 39 (rbl b a c))::H,R⟩) ?_ ?_
 refine Zd [0,1,0,4,0,16,48,112,240,511,0,2047] (.tk 0 (.ld 1 (.tk 2 (.ld 3 (.tk 4 (.ld 5 (.tk 6 (.tk 7 (.any (.alt 8 (.tk 9 (.big 10 (.big 11 .done))) (.alt 10 (.big 8 (.tk 9 (.big 11 .done))) .stop))))))))))) Zu (by kernel_rfl) ?_
 refine tk rfl (PE.fA Z2W rfl) rfl (ld rfl rfl (lh sc3 rfl rfl) rfl (tk rfl (PE.fA Z2X rfl) rfl (ld rfl rfl (lh sc3 rfl rfl) rfl (tk rfl (PE.fA Z0x rfl) rfl (ld rfl rfl (lh Z63 rfl rfl) rfl (tk rfl (PE.lenSl Z40 rfl) rfl (tk rfl (PE.add rfl rfl (by omega)) rfl ?_)))))))
 refine Zm ?_ ?_
 rw [show (b.rods.length:Int)+1=((b.rods.length+1:Nat):Int) by omega]
 refine mkS rfl ZiS Z46 rfl rfl (Nat.le_refl _) (by omega) rfl (fun b28=>?_)
 refine bg (fun w hs=>⟨trivial,(lh sc3 rfl rfl) w hs,(lh sc3 rfl rfl) w hs,trivial⟩) ?_
 refine tk rfl (PE.build (out:=[_,_,_]) Zib Zb8 rfl rfl) rfl (alc rfl Zb8 rfl (fun b7=>?_))
 refine bg (fun w hs=>⟨(lh sc3 rfl rfl) w hs,(lh sc3 rfl rfl) w hs,trivial⟩) ?_
 refine ZU (l':=rbl (b.add x) (some ⟨b28,0,none⟩) (b.rods.length+1)) rfl rfl rfl ZcU rfl rfl rfl (hrb b28) (nl rfl) ?_
 refine bgT ?_
 exact Zh (b7,b28) (fun w h=>(h.pull b28).pull b7)
 refine Zm ?_ ?_
 refine alc rfl Zb8 rfl (fun b7=>?_)
 refine bg (fun w hs=>⟨(lh Z63 rfl rfl) w hs,(lh sc3 rfl rfl) w hs,(lh sc3 rfl rfl) w hs,trivial⟩) ?_
 rw [show (b.rods.length:Int)+1=((b.rods.length+1:Nat):Int) by omega]
 refine mkS rfl ZiS Z46 rfl rfl (Nat.le_refl _) (by omega) rfl (fun b28=>?_)
 refine bg (fun w hs=>⟨trivial,(lh sc3 rfl rfl) w hs,(lh sc3 rfl rfl) w hs,trivial⟩) ?_
 refine tk rfl (PE.build (out:=[_,_,_]) Zib Zb8 rfl rfl) rfl ?_
 refine ZU (l':=rbl (b.add x) (some ⟨b28,0,none⟩) (b.rods.length+1)) rfl rfl rfl ZcU rfl rfl rfl (hrb b28) (nl rfl) ?_
 refine bgT ?_
 exact Zh (b7,b28) (fun w h=>(h.pull b28).pull b7)
 exact Zx
 rintro ⟨b7,b28⟩
 dsimp only
 refine sqt 5 rfl (sp rfl (PE.fA Z0x rfl) rfl (spL rfl rfl (lh (v:=.slice (some ⟨b28,0,none⟩) (b.rods.length+1) (b.rods.length+1)) Z63 rfl (by show some _=some _;rw [hal])) rfl (sp rfl (PE.fA Z0x rfl) rfl (spL rfl rfl (lh Z63 rfl rfl) rfl ?_))))
 refine ZjT (rows:=rdrows b.rods) rfl Zkn rfl (by rw [Z3I];rfl) (Z6V _) (by rw [Z3I];omega) (ZeS _) (by rw [Z52,Z3J];omega) rfl ?_
 refine sqt 8 rfl (sp rfl (PE.fA Z0x rfl) rfl (spL rfl rfl (lh (v:=.slice (some ⟨b28,0,none⟩) (b.rods.length+1) (b.rods.length+1)) Z63 rfl (by show some _=some _;rw [hal])) rfl (sp rfl (PE.fA Z0x rfl) rfl (spL rfl rfl (lh Z63 rfl rfl) rfl (sp rfl (PE.lenSl Z40 rfl) rfl (spL rfl rfl (lhA (rdrow x) Zb9 rfl rfl rfl) rfl (sp rfl (PE.indexAddr Zef rfl rfl (by omega) (by omega)) rfl ?_)))))))
 refine ZU (l':=(rdrows (b.add x).rods).flatten) rfl rfl rfl Zba rfl rfl rfl (Zcb b.rods x (by show 0+((b.rods.length:Nat):Int).toNat*4=_;omega)) (by rw [hsl];show 0+((b.rods.length:Nat):Int).toNat*4+4≤_;omega) ?_
 refine Sy.heap (fun w h=>St.rows (sz:=4) (rows:=rdrows (b.add x).rods) (rest:=[]) (by rw [List.append_nil];exact h.pull b28) (Z6V _)) ?_
 refine Z0 (sqt 3 rfl (spL rfl rfl (lhA (rbl (b.add x) (some ⟨b28,0,none⟩) (b.rods.length+1)) ZT rfl rfl rfl) rfl ?_))
 refine clV rfl Zbu rfl rfl (ZG (b.add x) (some ⟨b28,0,none⟩) (b.rods.length+1) hb2 _ _) ?_
 refine pur 1 rfl (sqt 2 rfl (pur 2 rfl ?_))
 refine Z1 rfl ?_ ?_<;>intro hc2
 exact absurd hc2 (by simp)
 refine Z3 (sqt 3 rfl (spL rfl rfl (lhA (rbl (b.add x) (some ⟨b28,0,none⟩) (b.rods.length+1)) ZT rfl rfl rfl) rfl ?_))
 refine ZU (l':=rbl (b.add x) (some ⟨b28,0,none⟩) (b.rods.length+1)) rfl rfl rfl ZcU rfl rfl rfl rfl (nl rfl) ?_
 refine pur 1 rfl (Z4 ?_)
 exact Zf (vs:=[_,_]) rfl (.cons (RV.cell rfl (lhA (rbl (b.add x) (some ⟨b28,0,none⟩) (b.rods.length+1)) ZT rfl rfl rfl)) (.cons (RV.tmp rfl) .nil)) rfl ⟨some ⟨b28,0,none⟩,b.rods.length+1,rfl,rfl,rfl⟩ (fun w h=>(((h.del b7).del b4).del b3).del b2)
theorem Zat {α:Type} (a b:α) (G T:List α):(a::b::(G++T)).Perm (a::b::(G++T)):=.refl _
set_option maxHeartbeats 400000 in
theorem c_Warm (b:Rb) (a:Option Addr) (c:Nat) (hb:b.ok) (hf:∀ x∈b.rods,b.feel b.top x=x.s) (H:Z7) (R:Z5) [hB:MemRows a 4 (rdrows b.rods) R] :
    Fn Tryz.prog 21 [(b.v a c)] H R (fun v H' R'=>∃ ax cx,v = .tuple #[.slice ax (selL b.aloneB (b.n)).length cx,.int .i64 0]∧H'=H∧R'=R):=by
 refine Z1V Tryz.func21 rfl Tryz.ntmps21 rfl ?_
 refine sqt 3 rfl (bx rfl rfl rfl (fun b1=>pur 2 rfl (sqt 8 rfl (spL rfl rfl (lhA (rbl b a c) ZT rfl rfl rfl) rfl ?_))))
 refine cl rfl ZdX rfl rfl (Z5x b a c hb hf _ _) ?_
 rintro _ _ _ ⟨bf,m,kv,hkv,rfl,rfl,rfl⟩
 refine pur 3 rfl (alc rfl Z79 rfl (fun b4=>?_))
 refine sto rfl rfl rfl Z5m rfl rfl rfl rfl ?_
 refine pur 1 rfl (Z0 (sqt 2 rfl (pur 2 rfl ?_)))
 refine Z1 rfl ?_ ?_<;>intro hc0
 exact absurd hc0 (by simp)
 ·
  refine Z3 (sqt 1 rfl (alc rfl Zkz rfl (fun b6=>Z0 (sqt 2 rfl ?_))))
  refine Sy.heap (H':=(b6,cel 68 [.slice none 0 0])::(b4,cel 93 [.pointer (some ⟨bf,0,none⟩)])::(m,Z07 true kv)::(b1,cel 39 (rbl b a c))::H) (fun w h=>(h.pull b4).pull b6) ?_
  refine spL rfl rfl (lhA (rbl b a c) ZT rfl rfl rfl) rfl ?_
  refine cl rfl Z81 rfl rfl (Z2D b a c _ _) ?_
  rintro _ _ _ ⟨xb,rfl,rfl,rfl⟩
  refine Z2 ?_
  refine Z0q rfl Z83 (fun c0 bl0 bd0 hcp0 hca0 hcb0 hck0=>?_)
  refine ⟨fun st pend T R'=>st = .ready∧pend=none∧∃ ox:OSl 43 2 (crows b (selL b.aloneB (b.n))),T=(bd0,.deferred (some []))::(ox.G++((b6,cel 68 [ox.fs])::(b4,cel 93 [.pointer (some ⟨bf,0,none⟩)])::(m,Z07 true kv)::(b1,cel 39 (rbl b a c))::H))∧R'=RowsA (some ⟨xb,0,none⟩) 3 [rbl b a c]::RowsA (some ⟨bf,0,none⟩) 29 [fdl b a c m]::R,
    Fn.mono (Z1H b a c hb xb bl0 (fun k H' R'=>∃ ox:OSl 43 2 (crows b (selL b.aloneB (k))),H'=(bl0,lob c0 .ready none)::(bd0,.deferred (some []))::(ox.G++((b6,cel 68 [ox.fs])::(b4,cel 93 [.pointer (some ⟨bf,0,none⟩)])::(m,Z07 true kv)::(b1,cel 39 (rbl b a c))::H))∧R'=RowsA (some ⟨xb,0,none⟩) 3 [rbl b a c]::RowsA (some ⟨bf,0,none⟩) 29 [fdl b a c m]::R) (fun _ _=>False)
      (fun k H' R' h9=>by obtain ⟨_,_,rfl⟩:=h9;simp)
      (fun k H' R' hk h9=>?_) _ _ ⟨OSl.nil _ _,rfl,rfl⟩) (fun v H' R' h9=>?_),?_⟩
  rotate_left
  · rcases h9 with ⟨ox,rfl,rfl⟩ | h9
    · exact ⟨.ready,none,_,by simp,.refl _,rfl,rfl,ox,rfl,rfl⟩
    · exact h9.elim
  rotate_left
  obtain ⟨ox,rfl,rfl⟩:=h9
  have hk25:=(Rb.lt hb hk).2.2
  have hnl:=Rb.n_le hb
  have hsl:=ZaK b.aloneB k
  refine Z38 hcp0 hca0 hcb0 hck0 rfl rfl ?_
  refine sqr 2 rfl (alc rfl Z4s rfl (fun b8=>?_))
  refine sto rfl rfl rfl Zby rfl rfl rfl rfl ?_
  refine ZA ?_
  refine Z2 (sqt 3 rfl (spL rfl rfl (lh ZaH rfl rfl) rfl (spL rfl rfl (lhA [.int .i64 ((k%b.cols:Nat):Int),.int .i64 ((k / b.cols:Nat):Int)] Z2A rfl rfl rfl) rfl ?_)))
  refine clV rfl Zhf rfl rfl (Z8O b a c hb bf m kv hkv k hk _ _) ?_
  refine Z1 rfl ?_ ?_<;>intro hc1<;>try simp only [cS] at hc1
  have hst:=Zde (p:=b.aloneB) hc1
  refine sqr 5 rfl (spL rfl rfl (lh (v:=ox.fs) Zdc rfl rfl) rfl (spL rfl rfl (lhA [.int .i64 ((k%b.cols:Nat):Int),.int .i64 ((k / b.cols:Nat):Int)] Z2A rfl rfl rfl) rfl ?_))
  refine bsl (out:=[_,_]) rfl Zil Z4s rfl rfl rfl rfl rfl rfl (fun b26=>?_)
  refine apO ox rfl Zfx rfl rfl (Z0l (row:=[.int .i64 ((k%b.cols:Nat):Int),.int .i64 ((k / b.cols:Nat):Int)]) rfl) rfl rfl (by rw [Z4b];simp only [List.length_singleton];omega) rfl (fun o27=>?_)
  refine ZU (l':=[o27.fs]) rfl rfl rfl ZiE rfl (by rw [o27.cells.1];rfl) (by rw [o27.cells.1];simp [o27.cells.2]) (by rw [o27.cells.1];rfl) (by rw [o27.cells.1];exact Nat.le_refl _) ?_
  exact Ze (.inl ⟨rfl,o27.cast (by rw [ZcV,hst]),rfl,rfl⟩) (fun _ h9=>((h9.del b26).del b8).perm (Zat _ _ o27.G _))
  have hst:=Z70 (p:=b.aloneB) hc1
  refine Z3 ?_
  exact Ze (.inl ⟨rfl,ox.cast (by rw [hst]),rfl,rfl⟩) (fun _ h9=>h9.del b8)
  rintro _ _ _ _ ⟨rfl,rfl,ox,rfl,rfl⟩
  obtain ⟨ax,cx,hex,hfx⟩:=ox.freeze
  rw [Z4b] at hex
  refine Z44 ?_
  refine sqt 3 rfl (spL rfl rfl (lh (v:=ox.fs) Zdc rfl rfl) rfl (pur 2 rfl (Z4 ?_)))
  exact ZR [bd0] (H:=(ox.G++((b6,cel 68 [ox.fs])::(b4,cel 93 [.pointer (some ⟨bf,0,none⟩)])::(m,Z07 true kv)::(b1,cel 39 (rbl b a c))::H))) idH rfl (.cons (RV.tmp rfl) (.cons (RV.tmp rfl) .nil)) rfl ⟨ax,cx,by rw [← hex];rfl,rfl,rfl⟩ (fun w h=>St.sub (((((St.drop h).del b6).del b4).del m).del b1))
set_option maxHeartbeats 400000 in
theorem c_Open (b:Rb) (a:Option Addr) (c:Nat) (hb:b.ok) (hf:∀ x∈b.rods,b.feel b.top x=x.s) (H:Z7) (R:Z5) [hB:MemRows a 4 (rdrows b.rods) R] :
    Fn Tryz.prog 22 [(b.v a c)] H R (fun v H' R'=>∃ ax cx,v = .tuple #[.slice ax (selL b.opn (b.n)).length cx,.int .i64 0]∧H'=H∧R'=R):=by
 refine Z1V Tryz.func22 rfl Tryz.ntmps22 rfl ?_
 refine sqt 3 rfl (bx rfl rfl rfl (fun b1=>pur 2 rfl (sqt 8 rfl (spL rfl rfl (lhA (rbl b a c) ZT rfl rfl rfl) rfl ?_))))
 refine cl rfl ZdX rfl rfl (Z5x b a c hb hf _ _) ?_
 rintro _ _ _ ⟨bf,m,kv,hkv,rfl,rfl,rfl⟩
 refine pur 3 rfl (alc rfl Z79 rfl (fun b4=>?_))
 refine sto rfl rfl rfl Z5m rfl rfl rfl rfl ?_
 refine pur 1 rfl (Z0 (sqt 2 rfl (pur 2 rfl ?_)))
 refine Z1 rfl ?_ ?_<;>intro hc0
 exact absurd hc0 (by simp)
 ·
  refine Z3 (sqt 1 rfl (alc rfl Zkz rfl (fun b6=>Z0 (sqt 2 rfl ?_))))
  refine Sy.heap (H':=(b6,cel 68 [.slice none 0 0])::(b4,cel 93 [.pointer (some ⟨bf,0,none⟩)])::(m,Z07 true kv)::(b1,cel 39 (rbl b a c))::H) (fun w h=>(h.pull b4).pull b6) ?_
  refine spL rfl rfl (lhA (rbl b a c) ZT rfl rfl rfl) rfl ?_
  refine cl rfl Z81 rfl rfl (Z2D b a c _ _) ?_
  rintro _ _ _ ⟨xb,rfl,rfl,rfl⟩
  refine Z2 ?_
  refine Z0q rfl Z83 (fun c0 bl0 bd0 hcp0 hca0 hcb0 hck0=>?_)
  refine ⟨fun st pend T R'=>st = .ready∧pend=none∧∃ ox:OSl 43 2 (crows b (selL b.opn (b.n))),T=(bd0,.deferred (some []))::(ox.G++((b6,cel 68 [ox.fs])::(b4,cel 93 [.pointer (some ⟨bf,0,none⟩)])::(m,Z07 true kv)::(b1,cel 39 (rbl b a c))::H))∧R'=RowsA (some ⟨xb,0,none⟩) 3 [rbl b a c]::RowsA (some ⟨bf,0,none⟩) 29 [fdl b a c m]::R,
    Fn.mono (Z1H b a c hb xb bl0 (fun k H' R'=>∃ ox:OSl 43 2 (crows b (selL b.opn (k))),H'=(bl0,lob c0 .ready none)::(bd0,.deferred (some []))::(ox.G++((b6,cel 68 [ox.fs])::(b4,cel 93 [.pointer (some ⟨bf,0,none⟩)])::(m,Z07 true kv)::(b1,cel 39 (rbl b a c))::H))∧R'=RowsA (some ⟨xb,0,none⟩) 3 [rbl b a c]::RowsA (some ⟨bf,0,none⟩) 29 [fdl b a c m]::R) (fun _ _=>False)
      (fun k H' R' h9=>by obtain ⟨_,_,rfl⟩:=h9;simp)
      (fun k H' R' hk h9=>?_) _ _ ⟨OSl.nil _ _,rfl,rfl⟩) (fun v H' R' h9=>?_),?_⟩
  rotate_left
  · rcases h9 with ⟨ox,rfl,rfl⟩ | h9
    · exact ⟨.ready,none,_,by simp,.refl _,rfl,rfl,ox,rfl,rfl⟩
    · exact h9.elim
  rotate_left
  obtain ⟨ox,rfl,rfl⟩:=h9
  have hk25:=(Rb.lt hb hk).2.2
  have hnl:=Rb.n_le hb
  have hsl:=ZaK b.opn k
  refine Z38 hcp0 hca0 hcb0 hck0 rfl rfl ?_
  refine sqt 1 rfl (pur 1 rfl (sqr 2 rfl (alc rfl Z4s rfl (fun b8=>?_))))
  refine sto rfl rfl rfl Zby rfl rfl rfl rfl ?_
  refine ZA ?_
  refine Z2 (sqt 13 rfl (spL rfl rfl (lh ZaH rfl rfl) rfl (pur 1 rfl (sp rfl (PE.nilCheck rfl) rfl (sp rfl (PE.fA Zad rfl) rfl (sp rfl (PE.indexArr ZdB rfl rfl (by omega) (by omega)) rfl (spL rfl rfl (lfB (sz:=29) (x:=.int .i64 (b.top k)) sc3 (Z9X hb hk (by show 0+3+((k:Nat):Int).toNat*1=3+k;omega))) rfl (pur 2 rfl ?_))))))))
  refine Zr 28 rfl ?_ ?_<;>intro g28
  try simp only [cS] at g28
  refine Z0L rfl rfl rfl rfl rfl (lh ZaH rfl rfl) rfl (Z0L rfl rfl rfl rfl rfl (lhA [.int .i64 ((k%b.cols:Nat):Int),.int .i64 ((k / b.cols:Nat):Int)] Z2A rfl rfl rfl) rfl ?_)
  refine Z4F rfl rfl rfl rfl Zhf rfl rfl (Z8O b a c hb bf m kv hkv k hk _ _) ?_
  refine pur 2 rfl ?_
  refine Z1 rfl ?_ ?_<;>intro hc1<;>try simp only [cS] at hc1
  have hop:b.opn k=true:=by unfold Rb.opn;rw [dT (by omega),hc1];rfl
  have hst:=Zde (p:=b.opn) hop
  refine sqr 5 rfl (spL rfl rfl (lh (v:=ox.fs) Zdc rfl rfl) rfl (spL rfl rfl (lhA [.int .i64 ((k%b.cols:Nat):Int),.int .i64 ((k / b.cols:Nat):Int)] Z2A rfl rfl rfl) rfl ?_))
  refine bsl (out:=[_,_]) rfl Zil Z4s rfl rfl rfl rfl rfl rfl (fun b36=>?_)
  refine apO ox rfl Zfx rfl rfl (Z0l (row:=[.int .i64 ((k%b.cols:Nat):Int),.int .i64 ((k / b.cols:Nat):Int)]) rfl) rfl rfl (by rw [Z4b];simp only [List.length_singleton];omega) rfl (fun o37=>?_)
  refine ZU (l':=[o37.fs]) rfl rfl rfl ZiE rfl (by rw [o37.cells.1];rfl) (by rw [o37.cells.1];simp [o37.cells.2]) (by rw [o37.cells.1];rfl) (by rw [o37.cells.1];exact Nat.le_refl _) ?_
  exact Ze (.inl ⟨rfl,o37.cast (by rw [ZcV,hst]),rfl,rfl⟩) (fun _ h9=>((h9.del b36).del b8).perm (Zat _ _ o37.G _))
  have hop:b.opn k=false:=by unfold Rb.opn;rw [hc1];simp
  have hst:=Z70 (p:=b.opn) hop
  refine Z3 ?_
  exact Ze (.inl ⟨rfl,ox.cast (by rw [hst]),rfl,rfl⟩) (fun _ h9=>h9.del b8)
  try simp only [cS] at g28
  have hop:b.opn k=false:=by unfold Rb.opn;rw [dF (by omega)];rfl
  have hst:=Z70 (p:=b.opn) hop
  refine pur 5 rfl ?_
  refine ZE rfl ?_
  refine Z3 ?_
  exact Ze (.inl ⟨rfl,ox.cast (by rw [hst]),rfl,rfl⟩) (fun _ h9=>h9.del b8)
  rintro _ _ _ _ ⟨rfl,rfl,ox,rfl,rfl⟩
  obtain ⟨ax,cx,hex,hfx⟩:=ox.freeze
  rw [Z4b] at hex
  refine Z44 ?_
  refine sqt 3 rfl (spL rfl rfl (lh (v:=ox.fs) Zdc rfl rfl) rfl (pur 2 rfl (Z4 ?_)))
  exact ZR [bd0] (H:=(ox.G++((b6,cel 68 [ox.fs])::(b4,cel 93 [.pointer (some ⟨bf,0,none⟩)])::(m,Z07 true kv)::(b1,cel 39 (rbl b a c))::H))) idH rfl (.cons (RV.tmp rfl) (.cons (RV.tmp rfl) .nil)) rfl ⟨ax,cx,by rw [← hex];rfl,rfl,rfl⟩ (fun w h=>St.sub (((((St.drop h).del b6).del b4).del m).del b1))
theorem Zg1:cal Tryz.prog 125=true:=by kernel_rfl
theorem Z9y:cal Tryz.prog 126=true:=by kernel_rfl
theorem Zgh:cal Tryz.prog 152=true:=by kernel_rfl
theorem Z9A:cal Tryz.prog 161=true:=by kernel_rfl
theorem Zjy:cal Tryz.prog 88=true:=by kernel_rfl
theorem Zfr:elN Tryz.prog 68=some 2:=by kernel_rfl
theorem ZbL:Z8c Tryz.prog 203=some .u64:=by kernel_rfl
theorem ik3:Z8c Tryz.prog 3=some .i64:=by kernel_rfl
theorem ik5:Z8c Tryz.prog 5=some .u8:=by kernel_rfl
theorem Z41:Z3a Tryz.prog 68=true:=by kernel_rfl
theorem Zex:ZbO Tryz.prog 9=true:=by kernel_rfl
theorem Zfj:(Tryz.prog.underlying 258).isSome=true:=by kernel_rfl
theorem us3:(Tryz.prog.underlying 3).isSome=true:=by kernel_rfl
theorem us5:(Tryz.prog.underlying 5).isSome=true:=by kernel_rfl
def Zz (l:List (Int×Int)):List (List Value):=l.map fun x=>[.int .i64 x.1,.int .i64 x.2]
theorem Z1p (l:List (Int×Int)):(Zz l).length=l.length:=List.length_map _
theorem Z1B (l:List (Int×Int)):∀ r∈Zz l,r.length=2:=fun r hr=>by obtain ⟨x,_,rfl⟩:=List.mem_map.1 hr;rfl
theorem Z5W {l:List (Int×Int)} {k:Nat} {x:Int×Int} (h:l[k]?=some x):(Zz l)[k]?=some [.int .i64 x.1,.int .i64 x.2]:=by simp [Zz,h]
theorem Z2H {sz:Nat} {rows:List (List Value)} (hs:∀ r∈rows,r.length=sz) {k:Nat} {row:List Value} (h:rows[k]?=some row) (junk:List Value):∃ rest,(rows.flatten++junk).drop (k*sz)=row++rest:=by
 have hk:=(List.getElem?_eq_some_iff.1 h).1
 have e:rows=rows.take k++row::rows.drop (k+1):=by
   conv=>lhs;rw [← List.take_append_drop k rows]
   rw [List.drop_eq_getElem_cons hk,(List.getElem?_eq_some_iff.1 h).2]
 have hl:(rows.take k).flatten.length=k*sz:=by rw [ZK fun r hr=>hs r (List.mem_of_mem_take hr),List.length_take,Nat.min_eq_left (by omega)]
 refine ⟨(rows.drop (k+1)).flatten++junk,?_⟩
 conv=>lhs;rw [e]
 rw [List.flatten_append,List.flatten_cons,List.append_assoc,List.append_assoc,← hl,List.drop_left]
theorem Z57 (A M B J row:List Value) (h:row.length=M.length):spl ((A++(M++B))++J) A.length row=(A++(row++B))++J:=by
 unfold spl
 rw [List.append_assoc A,List.take_left,List.drop_length_add_append,h,List.append_assoc M,List.drop_left]
 simp only [List.append_assoc]
theorem Z4c {sz:Nat} {rows:List (List Value)} (hs:∀ r∈rows,r.length=sz) {k i:Nat} {row:List Value} (hk:k<rows.length) (hr:row.length=sz) (e:i=k*sz) (junk:List Value):spl (rows.flatten++junk) i row=(rows.set k row).flatten++junk:=by
 have hl:(rows.take k).flatten.length=k*sz:=by rw [ZK fun r hr=>hs r (List.mem_of_mem_take hr),List.length_take,Nat.min_eq_left (by omega)]
 have e1:rows.flatten=(rows.take k).flatten++(rows[k]++(rows.drop (k+1)).flatten):=by
   conv=>lhs;rw [← List.take_append_drop k rows]
   rw [List.drop_eq_getElem_cons hk,List.flatten_append,List.flatten_cons]
 have h2:rows[k].length=sz:=hs _ (List.getElem_mem hk)
 rw [List.set_eq_take_append_cons_drop,if_pos hk,List.flatten_append,List.flatten_cons,e1,e,← hl]
 exact Z57 _ _ _ _ _ (by rw [hr,h2])
theorem Z5X (l:List (Int×Int)) (k:Nat) (x:Int×Int):(Zz l).set k [.int .i64 x.1,.int .i64 x.2]=Zz (l.set k x):=by simp [Zz,List.map_set]
theorem Z3H (l:List (Int×Int)):(Zz l).flatten.length=l.length*2:=by rw [ZK (Z1B l),Z1p]
theorem Z6n (k:Nat) (hk:k≤12) (H:Z7) (R:Z5) :
    Fn Tryz.prog 161 [.int .u64 k] H R (fun v H' R'=>∃ z:Int,v = .int .i64 z∧H'=H∧R'=R):=by
 refine Z8 Tryz.func161 rfl Tryz.ntmps161 rfl ?_
 refine sqt 1 rfl (pur 1 rfl (Z0 (sqt 2 rfl (pur 1 rfl (sp rfl (PE.geq  rfl rfl) rfl ?_)))))
 refine Z1 rfl ?_ ?_<;>intro hc0
 simp only [decide_eq_true_eq] at hc0
 omega
 refine Z3 (Z0 (sqt 2 rfl (pur 1 rfl (sp rfl (PE.geq  rfl rfl) rfl ?_))))
 refine Z1 rfl ?_ ?_<;>intro hc1
 simp only [decide_eq_true_eq] at hc1
 omega
 refine Z3 (Z0 (sqt 2 rfl (pur 1 rfl (sp rfl (PE.geq  rfl rfl) rfl ?_))))
 refine Z1 rfl ?_ ?_<;>intro hc2
 simp only [decide_eq_true_eq] at hc2
 omega
 refine Z3 (sqt 7 rfl (pur 2 rfl ?_))
 refine sp rfl ((PE.convert Zfj ik5 rfl).to (by rw [Z4r (by omega) (by omega)])) rfl ?_
 refine spE rfl (PE.indexS (m:=256) Zex rfl rfl (by kernel_rfl) (by omega)) rfl ?_
 rintro _ ⟨u22,rfl,hu22⟩
 refine sp rfl (PE.conv64 us5 ik3 rfl (by omega)) rfl (sp rfl (PE.add rfl rfl (by omega)) rfl (pur 1 rfl (Z4 ?_)))
 exact rtA rfl rfl rfl ⟨_,rfl,rfl,rfl⟩ idH
theorem ZdG (k:Nat) (hk:k≤12) (H:Z7) (R:Z5) :
    Fn Tryz.prog 126 [.int .u64 k] H R (fun v H' R'=>∃ z:Int,v = .int .i64 z∧H'=H∧R'=R):=by
 refine Z8 Tryz.func126 rfl Tryz.ntmps126 rfl ?_
 refine sqt 1 rfl (pur 1 rfl (Z0 ?_))
 refine ZE rfl ?_
 refine Z3 (sqt 3 rfl (pur 1 rfl ?_))
 refine cl rfl Z9A rfl rfl (Z6n k hk _ _) ?_
 rintro _ _ R1 ⟨z,rfl,rfl,hR1⟩
 obtain rfl:=hR1.symm
 clear hR1
 refine pur 1 rfl (Z4 ?_)
 exact rtA rfl rfl rfl ⟨_,rfl,rfl,rfl⟩ idH
theorem Z9t (x y:Int×Int) (H:Z7) (R:Z5) :
    Fn Tryz.prog 88 [.agg #[.int .i64 x.1,.int .i64 x.2],.agg #[.int .i64 y.1,.int .i64 y.2]] H R (fun v H' R'=>∃ z:Int,v = .int .i64 z∧H'=H∧R'=R):=by
 refine Z8 Tryz.func88 rfl Tryz.ntmps88 rfl ?_
 refine sqt 3 rfl (bx rfl rfl rfl (fun b2=>bx rfl rfl rfl (fun b3=>pur 1 rfl (sqt 13 rfl (sp rfl (PE.fA Z5L rfl) rfl (spL rfl rfl (lh sc3 rfl rfl) rfl (sp rfl (PE.fA Z5L rfl) rfl (spL rfl rfl (lh sc3 rfl rfl) rfl (sp rfl (PE.subW rfl rfl) rfl (sp rfl (PE.mulW rfl rfl) rfl (sp rfl (PE.fA Z5K rfl) rfl (spL rfl rfl (lh sc3 rfl rfl) rfl (sp rfl (PE.addW rfl rfl) rfl (sp rfl (PE.fA Z5K rfl) rfl (spL rfl rfl (lh sc3 rfl rfl) rfl ?_)))))))))))))))
 refine sp rfl (PE.subW rfl rfl) rfl (pur 1 rfl (Z4 ?_))
 exact rtA rfl rfl rfl ⟨_,rfl,rfl,rfl⟩ drp
theorem Z9p (l:List (Int×Int)) (n b cap:Nat) (junk:List Value) (hl:l.length=n) (hn:n≤12) (H:Z7) (R:Z5) :
    Fn Tryz.prog 152 [.slice (some ⟨b,0,none⟩) n cap,.int .i64 0,.int .i64 n,.func (.func 88) #[] #[]] ((b,cel 43 ((Zz l).flatten++junk))::H) R (fun v H' R'=>v = .tuple #[]∧H'=H∧R'=R):=by
 refine Z8 Tryz.func152 rfl Tryz.ntmps152 rfl ?_
 refine sqt 3 rfl (pur 1 rfl (sp rfl (PE.add rfl rfl (by omega)) rfl (pur 1 rfl (Z2 ?_))))
 refine Zc (ι:={x:Nat×List (Int×Int) // 1≤x.1∧x.1≤13∧x.2.length=n}) (fun x=>⟨[(0,.slice (some ⟨b,0,none⟩) n cap),(1,.int .i64 0),(2,.int .i64 n),(3,.func (.func 88) #[] #[]),(8,.int .i64 x.1.1)],(b,cel 43 ((Zz x.1.2).flatten++junk))::H,R⟩) (fun x=>n-x.1.1) ⟨(1,l),by omega,by omega,hl⟩ ?_ (fun x=>?_)
 exact Zi idH
 obtain ⟨⟨i,xs⟩,hi1,hi2,hxl⟩:=x
 dsimp only at hi1 hi2 hxl ⊢
 refine Z0 (sqt 3 rfl (pur 3 rfl ?_))
 refine Z1 rfl ?_ ?_<;>intro hc0
 try simp only [cS] at hc0
 refine Z3 (Z0 (Z2 (sqt 2 rfl (pur 2 rfl (Z2 ?_)))))
 refine Zc (ι:={x:Nat×List (Int×Int) // x.1≤i∧x.2.length=n}) (fun x=>⟨[(0,.slice (some ⟨b,0,none⟩) n cap),(1,.int .i64 0),(2,.int .i64 n),(3,.func (.func 88) #[] #[]),(8,.int .i64 i),(9,.int .i64 x.1.1)],(b,cel 43 ((Zz x.1.2).flatten++junk))::H,R⟩) (fun x=>x.1.1) ⟨(i,xs),Nat.le_refl _,hxl⟩ ?_ (fun x=>?_)
 exact Zi idH
 obtain ⟨⟨j,ys⟩,hji,hyl⟩:=x
 dsimp only at hji hyl ⊢
 refine Z0 (Z0 ?_)
 refine Zd [0,0,3,7,15,15,15,111,239,15,15,1039,3599,7695,16383,32767,65535] (tks 0 8 (.ld 8 (tks 9 4 (.ld 13 (.big 14 (.tk 15 (.tk 16 .done))))))) Zu (by kernel_rfl) ?_
 refine Zo 4 rfl ?_
 refine Zr 21 rfl ?_ ?_<;>intro g21
 try simp only [cS] at g21
 obtain ⟨x,hx⟩:∃ x,ys[j]?=some x:=⟨_,List.getElem?_eq_getElem (by omega)⟩
 obtain ⟨y,hy⟩:∃ y,ys[j-1]?=some y:=⟨_,List.getElem?_eq_getElem (by omega)⟩
 obtain ⟨rx,hrx⟩:∃ rest,((Zz ys).flatten++junk).drop (0+((j:Nat):Int).toNat*2)=[.int .i64 x.1,.int .i64 x.2]++rest:=by rw [Nat.zero_add,Int.toNat_natCast];exact Z2H (Z1B ys) (Z5W hx) junk
 obtain ⟨ry,hry⟩:∃ rest,((Zz ys).flatten++junk).drop (0+((j-1:Nat):Int).toNat*2)=[.int .i64 y.1,.int .i64 y.2]++rest:=by rw [Nat.zero_add,Int.toNat_natCast];exact Z2H (Z1B ys) (Z5W hy) junk
 refine Zo 3 rfl ?_
 refine tkG rfl rfl rfl rfl (PE.indexAddr Zfr rfl rfl (by omega) (by omega)) rfl ?_
 refine ldG rfl rfl rfl rfl rfl (lhA [.int .i64 x.1,.int .i64 x.2] Z2A rfl (rest:=rx) hrx rfl) rfl (Zo 2 rfl ?_)
 refine tkG rfl rfl rfl rfl (PE.sub rfl rfl (by omega)) rfl ?_
 rw [show (j:Int)-1=((j-1:Nat):Int) from by omega]
 refine tkG rfl rfl rfl rfl (PE.indexAddr Zfr rfl rfl (by omega) (by omega)) rfl ?_
 refine ldG rfl rfl rfl rfl rfl (lhA [.int .i64 y.1,.int .i64 y.2] Z2A rfl (rest:=ry) hry rfl) rfl ?_
 refine ZjI rfl rfl rfl rfl rfl (Zjy) rfl rfl (Z9t x y _ _) ?_
 rintro _ _ R1 ⟨z,rfl,rfl,hR1⟩
 obtain rfl:=hR1.symm
 clear hR1
 refine bgT (Zo 2 rfl ?_)
 refine Z1 rfl ?_ ?_<;>intro hc1
 refine Z3 (Z0 (Z2 ?_))
 refine Zd [0,0,0,0,8,0,0,64,224,480,0,0,3072,7168,16355,32739,65535,131071] (tks 0 9 (.ld 9 (tks 10 3 (.ld 13 (.tk 14 (.big 15 (.tk 16 (.big 17 .done)))))))) Zu (by kernel_rfl) ?_
 refine Zo 4 rfl (tk rfl (PE.sub rfl rfl (by omega)) rfl (Zo 2 rfl (tk rfl (PE.sub rfl rfl (by omega)) rfl ?_)))
 rw [show (j:Int)-1=((j-1:Nat):Int) from by omega]
 refine tk rfl (PE.indexAddr Zfr rfl rfl (by omega) (by omega)) rfl (ld rfl rfl (lhA [.int .i64 y.1,.int .i64 y.2] Z2A rfl (rest:=ry) hry rfl) rfl (Zo 2 rfl (tk rfl (PE.indexAddr Zfr rfl rfl (by omega) (by omega)) rfl (ld rfl rfl (lhA [.int .i64 x.1,.int .i64 x.2] Z2A rfl (rest:=rx) hrx rfl) rfl (tk rfl (PE.indexAddr Zfr rfl rfl (by omega) (by omega)) rfl ?_)))))
 refine ZU (l:=(Zz (ys)).flatten++junk) (l':=(Zz ((ys).set j y)).flatten++junk) rfl rfl rfl Zby rfl rfl rfl (by rw [← Z5X (ys) j y];exact Z4c (k:=j) (rows:=Zz (ys)) (Z1B _) (by rw [Z1p];omega) rfl (by rw [Nat.zero_add,Int.toNat_natCast]) junk) (by show 0+((j:Nat):Int).toNat*2+2≤((Zz (ys)).flatten++junk).length;rw [List.length_append,Z3H,Int.toNat_natCast];omega) ?_
 refine bgT (tk rfl (PE.indexAddr Zfr rfl rfl (by omega) (by omega)) rfl ?_)
 refine ZU (l:=(Zz (ys.set j y)).flatten++junk) (l':=(Zz ((ys.set j y).set (j-1) x)).flatten++junk) rfl rfl rfl Zby rfl rfl rfl (by rw [← Z5X (ys.set j y) (j-1) x];exact Z4c (k:=(j-1)) (rows:=Zz (ys.set j y)) (Z1B _) (by rw [Z1p,List.length_set];omega) rfl (by rw [Nat.zero_add,Int.toNat_natCast]) junk) (by show 0+(((j-1):Nat):Int).toNat*2+2≤((Zz (ys.set j y)).flatten++junk).length;rw [List.length_append,Z3H,List.length_set,Int.toNat_natCast];omega) ?_
 refine bgT (sqr 3 rfl (pur 1 rfl (sp rfl (PE.sub rfl rfl (by omega)) rfl (pur 1 rfl ?_))))
 rw [show (j:Int)-1=((j-1:Nat):Int) from by omega]
 exact Z6 ⟨(j-1,(ys.set j y).set (j-1) x),by dsimp only;omega,by simp [hyl]⟩ idH
 refine Z9 (Za (Za (Zn (sqr 3 rfl (pur 1 rfl (sp rfl (PE.add rfl rfl (by omega)) rfl (pur 1 rfl ?_)))))))
 exact Z6 ⟨(i+1,ys),by dsimp only;omega,by dsimp only;omega,hyl⟩ idH
 refine Zo 4 rfl ?_
 refine ldN rfl rfl rfl rfl rfl rfl rfl rfl ?_
 refine Zo 4 rfl ?_
 refine ldN rfl rfl rfl rfl rfl rfl rfl rfl ?_
 refine spN rfl rfl rfl rfl rfl rfl rfl rfl ?_
 refine bgT (Zo 2 rfl ?_)
 refine ZE rfl ?_
 refine Z9 (Za (Za (Zn (sqr 3 rfl (pur 1 rfl (sp rfl (PE.add rfl rfl (by omega)) rfl (pur 1 rfl ?_)))))))
 exact Z6 ⟨(i+1,ys),by dsimp only;omega,by dsimp only;omega,hyl⟩ idH
 refine Z9 (Za (Za (Zn ?_)))
 exact Z0W (vs:=[]) rfl .nil rfl ⟨rfl,rfl,rfl⟩ (fun w h=>h.tail)
theorem Z9q (H:Z7) (R:Z5) :
    FnV Tryz.prog 152 [.slice none 0 0,.int .i64 0,.int .i64 ((0:Nat):Int),.func (.func 88) #[] #[]] H R (.tuple #[]):=by
 refine Z8 Tryz.func152 rfl Tryz.ntmps152 rfl ?_
 refine sqt 3 rfl (pur 1 rfl (sp rfl (PE.add rfl rfl (by omega)) rfl (pur 1 rfl (Z2 ?_))))
 refine Zc (ι:=Unit) (fun _=>⟨[(2,.int .i64 ((0:Nat):Int)),(8,.int .i64 1)],H,R⟩) (fun x=>0) () ?_ (fun x=>?_)
 exact Zi idH
 refine Z0 (sqt 3 rfl (pur 3 rfl ?_))
 refine Z1 rfl ?_ ?_<;>intro hc0
 exact absurd hc0 (by simp)
 refine Z9 (Za (Za (Zn ?_)))
 exact Z0W (vs:=[]) rfl .nil rfl ⟨rfl,rfl,rfl⟩ idH
theorem ZdN (l:List (Int×Int)) (o:OSl 43 2 (Zz l)) (hl:l.length≤12) (H:Z7) (R:Z5):Fn Tryz.prog 152 [o.fs,.int .i64 0,.int .i64 l.length,.func (.func 88) #[] #[]] (o.G++H) R (fun v H' R'=>v = .tuple #[]∧H'=H∧R'=R):=by
 rcases o.is with ⟨h1,h2,h3⟩ | ⟨b,cap,junk,h2,h3,hj,hc,hm⟩
 · have hx:l=[]:=List.map_eq_nil_iff.1 h1
   subst hx
   rw [h2,h3]
   exact Z9q H R
 · rw [Z1p] at h2
   rw [h2,h3]
   exact Z9p l l.length b cap junk rfl hl H R
theorem ZdP (l:List (Int×Int)) (o:OSl 43 2 (Zz l)) (hl:l.length≤12) (z:Int) (H:Z7) (R:Z5) :
    Fn Tryz.prog 125 [o.fs,.int .i64 0,.int .i64 l.length,.int .i64 z,.func (.func 88) #[] #[]] (o.G++H) R (fun v H' R'=>v = .tuple #[]∧H'=H∧R'=R):=by
 refine Z8 Tryz.func125 rfl Tryz.ntmps125 rfl ?_
 refine sqt 1 rfl (pur 1 rfl (sqt 1 rfl (pur 1 rfl (Z2 ?_))))
 refine Zc (ι:=Unit) (fun _=>⟨[(0,o.fs),(1,.int .i64 0),(2,.int .i64 l.length),(4,.func (.func 88) #[] #[])],o.G++H,R⟩) (fun x=>0) () ?_ (fun x=>?_)
 exact Zi idH
 refine Z2 (sqt 4 rfl (pur 2 rfl (sp rfl (PE.sub rfl rfl (by omega)) rfl (pur 1 rfl (Z0 (sqt 2 rfl (pur 2 rfl ?_)))))))
 refine Z1 rfl ?_ ?_<;>intro hc0
 refine sqt 5 rfl (pur 4 rfl ?_)
 refine cl rfl Zgh rfl rfl (ZdN l o hl _ _) ?_
 rintro _ _ R1 ⟨rfl,rfl,hR1⟩
 obtain rfl:=hR1.symm
 clear hR1
 refine Z4 ?_
 exact Zf (vs:=[]) rfl .nil rfl ⟨rfl,rfl,rfl⟩ idH
 simp only [decide_eq_false_iff_not] at hc0
 omega
theorem Z6o (l:List (Int×Int)) (o:OSl 43 2 (Zz l)) (hl:l.length≤12) (H:Z7) (R:Z5) :
    Fn Tryz.prog 87 [o.fs,.func (.func 88) #[] #[]] (o.G++H) R (fun v H' R'=>v = .tuple #[]∧H'=H∧R'=R):=by
 obtain ⟨a,c,he⟩:∃ a c,o.fs = .slice a l.length c:=by
   rcases o.is with ⟨h1,h2,_⟩ | ⟨b,c,j,h,_⟩
   · exact ⟨none,0,by rw [h2,show l=[] from List.map_eq_nil_iff.1 h1];rfl⟩
   · rw [Z1p] at h;exact ⟨_,_,h⟩
 refine Z8 Tryz.func87 rfl Tryz.ntmps87 rfl ?_
 refine sqt 3 rfl (pur 1 rfl (sp rfl (PE.lenSl Z41 (congrArg some he)) rfl (pur 1 rfl (sqr 7 rfl (pur 3 rfl ?_)))))
 refine sp rfl ((PE.convert us3 ZbL rfl).to (by rw [Z2d (by omega) (by omega)])) rfl ?_
 refine cl rfl Z9y rfl rfl (ZdG l.length hl _ _) ?_
 rintro _ _ R1 ⟨z,rfl,rfl,hR1⟩
 obtain rfl:=hR1.symm
 clear hR1
 refine pur 1 rfl ?_
 refine cl rfl Zg1 rfl rfl (ZdP l o hl z _ _) ?_
 rintro _ _ R1 ⟨rfl,rfl,hR1⟩
 obtain rfl:=hR1.symm
 clear hR1
 exact Z0W (vs:=[]) rfl .nil rfl ⟨rfl,rfl,rfl⟩ idH
def Rb.shI (b:Rb) (i:Nat):Bool:=match b.rods[i]? with | some x=>decide (0<x.s) | none=>false
def Rb.shn (b:Rb) (j:Nat):Nat:=Z3W b.shI j
theorem Rb.shn_step {b:Rb} {j:Nat} {x:Rd} (h:b.rods[j]?=some x):b.shn (j+1)=bif decide (0<x.s) then b.shn j|||1*2 ^ j else b.shn j:=by
 unfold Rb.shn
 rw [Nat.one_mul]
 show (bif b.shI j then _ else _)=_
 rw [show b.shI j=decide (0<x.s) by unfold Rb.shI;rw [h]]
theorem Rb.shn_lt (b:Rb) (j:Nat):b.shn j<2 ^ j:=Z4A _ _
set_option maxHeartbeats 400000 in
theorem Z9w (b:Rb) (a:Option Addr) (c:Nat) (hb:b.ok) (H:Z7) (R:Z5) [hB:MemRows a 4 (rdrows b.rods) R] :
    FnV Tryz.prog 85 [(b.v a c)] H R (.int .i64 ((b.shn b.rods.length:Nat):Int)):=by
 refine Z8 Tryz.func85 rfl Tryz.ntmps85 rfl ?_
 refine sqt 2 rfl (bx rfl rfl rfl (fun b1=>pur 1 rfl (sqt 1 rfl (pur 1 rfl (Z0 (sqt 4 rfl (sp rfl (PE.fA Z0x rfl) rfl (spL rfl rfl (lh Z63 rfl rfl) rfl (sp rfl (PE.lenSl Z40 rfl) rfl (pur 1 rfl (Z2 ?_)))))))))))
 refine Zc (ι:={j:Nat // j≤b.rods.length}) (fun j=>⟨[(3,.int .i64 ((b.shn j.1:Nat):Int)),(7,.slice a b.rods.length c),(8,.int .i64 b.rods.length),(9,.int .i64 (j.1:Int))],(b1,cel 39 (rbl b a c))::H,R⟩) (fun j=>b.rods.length-j.1) ⟨0,Nat.zero_le _⟩ ?_ (fun j=>?_)
 exact Zi idH
 obtain ⟨j,hj⟩:=j
 dsimp only at hj ⊢
 have hbf:=hb.few
 have hlt:=b.shn_lt j
 have hp8:(2:Nat) ^ j≤2 ^ 8:=Nat.pow_le_pow_right (by decide) (by omega)
 refine sqt 1 rfl (pur 1 rfl (Z0 ?_))
 refine Z1 rfl ?_ ?_<;>intro hc0<;>try simp only [cS] at hc0
 obtain ⟨x,hx⟩:∃ x,b.rods[j]?=some x:=⟨_,List.getElem?_eq_getElem (by omega)⟩
 have hst:=Rb.shn_step hx
 refine Zp (a:=a) (sz:=4) (rows:=rdrows b.rods) (Zax hx) (fun ba oa he=>?_)
 subst he
 refine Z3 (Z0 (Z2 (sqt 6 rfl (pur 1 rfl (sp rfl (PE.indexAddr Zef rfl rfl (by omega) (by omega)) rfl (spL rfl rfl (lfA Zb9 (row:=rdrow x) (Z7K hx) rfl) rfl (alc rfl Z46 rfl (fun b5=>pur 1 rfl ?_))))))))
 refine ZU (l':=rdrow x) rfl rfl rfl Zba rfl rfl rfl rfl (nl rfl) ?_
 refine sqt 3 rfl (sp rfl (PE.fA Z2Y rfl) rfl (spL rfl rfl (lh sc3 rfl rfl) rfl (pur 1 rfl ?_)))
 refine Z1 rfl ?_ ?_<;>intro hc1<;>try simp only [cS] at hc1
 have hs2:b.shn (j+1)=b.shn j|||1*2 ^ j:=by rw [hst,dT (show 0<x.s from hc1)];rfl
 refine sqr 5 rfl (pur 2 rfl (sp rfl (PE.shlN (m:=1) (n:=j) rfl rfl rfl (by omega) (by omega)) rfl (sp rfl (PE.orN (m:=b.shn j) (n:=1*2 ^ j) rfl rfl (by omega) (by omega)) rfl (pur 1 rfl (sqr 2 rfl (sp rfl (PE.add rfl rfl (by omega)) rfl (pur 1 rfl ?_)))))))
 exact Z1j ⟨j+1,by omega⟩ (by dsimp only;omega) (by dsimp only;rw [hs2];exact sbA) (fun w h9=>h9.del b5)
 have hs2:b.shn (j+1)=b.shn j:=by rw [hst,dF (show ¬ 0<x.s from fun h=>by omega)];rfl
 refine Z3 (sqr 2 rfl (sp rfl (PE.add rfl rfl (by omega)) rfl (pur 1 rfl ?_)))
 exact Z1j ⟨j+1,by omega⟩ (by dsimp only;omega) (by dsimp only;rw [hs2];exact sbA) (fun w h9=>h9.del b5)
 obtain rfl:j=b.rods.length:=by omega
 refine Z9 (Za (Za (Zn (sqt 2 rfl (pur 2 rfl (Z4 ?_))))))
 exact rtA rfl rfl rfl ⟨rfl,rfl,rfl⟩ (fun w h=>h.del b1)
theorem ZiP:apT Tryz.prog 169=some (68,1,24):=by kernel_rfl
theorem Zhj:cal Tryz.prog 85=true:=by kernel_rfl
theorem Zhk:cal Tryz.prog 86=true:=by kernel_rfl
theorem Zjx:cal Tryz.prog 87=true:=by kernel_rfl
theorem ZjM:ZF Tryz.prog 169=some 1:=by kernel_rfl
theorem Z86:elN Tryz.prog 169=some 1:=by kernel_rfl
theorem Zd0:Z00 Tryz.prog 99 0=some 0:=by kernel_rfl
theorem ZhX:Z3a Tryz.prog 169=true:=by kernel_rfl
theorem Z2N:Z0j Tryz.prog 169=true:=by kernel_rfl
theorem Zkt:Zw Tryz.prog 169=some ([.slice none 0 0]):=by kernel_rfl
def thr3:Rb:=⟨4,3,[⟨1,1,2,3⟩,⟨3,0,1,0⟩,⟨0,2,1,4⟩]⟩
theorem Z5g:thr3.ok:=⟨by decide,by decide,by decide,by decide⟩
theorem Zcx:∀ x∈thr3.rods,thr3.feel thr3.top x=x.s:=by decide +kernel
def Z2g (k:Nat):Nat:=[1,1,0,0,1,1,1,0,4,1,1,0].getD k 0
theorem Zcw:∀ k,k<12→thr3.all k=Z2g k:=by decide +kernel
theorem Z7Q:thr3.shn thr3.rods.length=5:=by decide
def crT (l:List Nat):List (List Value):=l.map fun k=>[.int .i64 ((k%4:Nat):Int),.int .i64 ((k / 4:Nat):Int)]
theorem Z9S (l:List Nat):(crT l).length=l.length:=List.length_map _
theorem Zhw (l:List Nat):crT l=Zz (l.map fun k=>(((k%4:Nat):Int),((k / 4:Nat):Int))):=by simp [crT,Zz]
def Z6K (s k:Nat):Bool:=(decide (s=1)&&decide (k=0))||(decide (s=4)&&decide (k=8))||(decide (s=5)&&decide (k=0))
def fL1 (s k:Nat):List Nat:=bif decide (1<s)||(decide (s=1)&&decide (0<k)) then [0] else []
def fL4 (s k:Nat):List Nat:=bif decide (4<s)||(decide (s=4)&&decide (8<k)) then [8] else []
def fL5 (s k:Nat):List Nat:=bif decide (5<s)||(decide (s=5)&&decide (0<k)) then [8,0] else []
def isS (s:Nat):Prop:=s=1∨s=4∨s=5
theorem ZcY {s k:Nat} (hs:isS s) (hk:k<12) (h:Z6K s k=false):fL1 s (k+1)=fL1 s k∧fL4 s (k+1)=fL4 s k∧fL5 s (k+1)=fL5 s k:=by
 have key:∀ k,k<12→(Z6K 1 k=false→fL1 1 (k+1)=fL1 1 k∧fL4 1 (k+1)=fL4 1 k∧fL5 1 (k+1)=fL5 1 k)∧(Z6K 4 k=false→fL1 4 (k+1)=fL1 4 k∧fL4 4 (k+1)=fL4 4 k∧fL5 4 (k+1)=fL5 4 k)∧(Z6K 5 k=false→fL1 5 (k+1)=fL1 5 k∧fL4 5 (k+1)=fL4 5 k∧fL5 5 (k+1)=fL5 5 k):=by decide
 rcases hs with rfl | rfl | rfl
 · exact (key k hk).1 h
 · exact (key k hk).2.1 h
 · exact (key k hk).2.2 h
theorem ZhN:∀ s,s<8→fL1 (s+1) 0=fL1 s 12∧fL4 (s+1) 0=fL4 s 12∧fL5 (s+1) 0=fL5 s 12:=by decide
theorem ZhP:∀ s,s<8→(s&&&(18446744073709551615-5)≠0)→fL1 (s+1) 0=fL1 s 0∧fL4 (s+1) 0=fL4 s 0∧fL5 (s+1) 0=fL5 s 0:=by decide
theorem ZjX:∀ s,s<8→1≤s→(s&&&(18446744073709551615-5)=0)→(s=1∨s=4∨s=5):=by decide
theorem ZhO {s k:Nat} (hs:isS s) (hk:k<12) (h:Z2g k&&&s=0):Z6K s k=false:=by
 have key:∀ k,k<12→(Z2g k&&&1=0→Z6K 1 k=false)∧(Z2g k&&&4=0→Z6K 4 k=false)∧(Z2g k&&&5=0→Z6K 5 k=false):=by decide
 rcases hs with rfl | rfl | rfl
 · exact (key k hk).1 h
 · exact (key k hk).2.1 h
 · exact (key k hk).2.2 h
theorem ZjY {s k:Nat} (hs:isS s) (hk:k<12) (h:Z2g k&&&s≠0):((s=1∧s&&&(18446744073709551615-(Z2g k&&&s))=0)∨(s=4∧k=8∧s&&&(18446744073709551615-(Z2g k&&&s))=0)∨(s=5∧s&&&(18446744073709551615-(Z2g k&&&s))=4)∨(s=5∧k=8∧s&&&(18446744073709551615-(Z2g k&&&s))=1))∧s&&&(18446744073709551615-(Z2g k&&&s))<8:=by
 have key:∀ k,k<12→(Z2g k&&&1≠0→1&&&(18446744073709551615-(Z2g k&&&1))=0)∧(Z2g k&&&4≠0→k=8∧4&&&(18446744073709551615-(Z2g k&&&4))=0)∧(Z2g k&&&5≠0→5&&&(18446744073709551615-(Z2g k&&&5))=4∨(k=8∧5&&&(18446744073709551615-(Z2g k&&&5))=1)):=by decide
 rcases hs with rfl | rfl | rfl
 · have:=(key k hk).1 h;exact ⟨.inl ⟨rfl,this⟩,by omega⟩
 · have:=(key k hk).2.1 h;exact ⟨.inr (.inl ⟨rfl,this⟩),by omega⟩
 · rcases (key k hk).2.2 h with h1 | h1
   · exact ⟨.inr (.inr (.inl ⟨rfl,h1⟩)),by omega⟩
   · exact ⟨.inr (.inr (.inr ⟨rfl,h1⟩)),by omega⟩
def Zew (l:List Nat):Bool:=l.isEmpty
theorem OSl.freezeS {e sz:Nat} {rows:List (List Value)} (o:OSl e sz rows) (h0:rows≠[]):∃ a c,a.isNone=false∧o.fs = .slice a rows.length c∧∀ {H:Z7} {R:Z5} {w:World},St (o.G++H) R w→St H (RowsA a sz rows::R) w:=by
 obtain ⟨fs,G,hl,his⟩:=o
 rcases his with ⟨rfl,rfl,rfl⟩ | ⟨b,cap,junk,rfl,rfl,_,_,_⟩
 · exact absurd rfl h0
 · exact ⟨_,cap,rfl,rfl,fun {H R w} h=>St.rows (rest:=junk) h hl⟩
theorem Zau (a b c d e f g:Nat×Obj) (G T:Z7):(a::b::c::d::e::f::g::(G++T)).Perm (b::c::d::e::f::g::(G++(a::T))):=by
 have h:=ZJ [a] ([b,c,d,e,f,g]++G) T
 rw [List.append_assoc,List.append_assoc] at h
 exact h
theorem Zc4 (b c d e f g:Nat×Obj) (G T:Z7):(b::c::d::e::f::g::(G++T)).Perm (G++(b::c::d::e::f::g::T)):=ZJ [b,c,d,e,f,g] G T
theorem Z3N {l:List Value} {k i:Nat} {v:Value} (hk:k<l.length) (e:i=k):spl l i [v]=l.set k v:=by
 subst e
 unfold spl
 rw [List.set_eq_take_append_cons_drop,if_pos hk,List.append_assoc];rfl
theorem St.noR {sz:Nat} {H:Z7} {R:Z5} {w:World} (h:St H R w):St H (RowsA none sz []::R) w:=h.also fun w' _ i row hi=>by simp at hi
theorem Z3m (xs:List Nat) (a:Option Addr) (c:Nat) (hl:xs.length≤1000000) (H:Z7) (R:Z5) [hR:MemRows a 2 (crT xs) R] :
    Fn Tryz.prog 86 [.slice a xs.length c] H R (fun v H' R'=>∃ o:OSl 43 2 (crT xs),v=o.fs∧H'=o.G++H∧R'=R):=by
 refine Z8 Tryz.func86 rfl Tryz.ntmps86 rfl ?_
 refine sqt 1 rfl (pur 1 rfl (Z0 (sqt 2 rfl (pur 1 rfl (sp rfl (PE.eqlNil Z41 rfl rfl) rfl ?_)))))
 refine Z1 rfl ?_ ?_<;>intro hc0
 refine Sy.pre (fun w h=>Z1M (h.now hR.mem) hc0) (fun hnil=>?_)
 obtain rfl:xs=[]:=by simpa [crT] using hnil
 refine sqt 1 rfl (pur 1 rfl (Z4 ?_))
 first
   | exact rtA rfl rfl rfl ⟨o2.cast (by simp),rfl,rfl,rfl⟩ idH
   | exact rtA rfl rfl rfl ⟨OSl.nil _ _,rfl,rfl,rfl⟩ idH
 refine Z3 (sqt 4 rfl ?_)
 refine Zfq rfl Zil rfl (fun o5 ho5=>?_)
 refine pur 1 rfl ?_
 refine ZiC (news:=crT xs) o5 rfl Zfx rfl rfl (Zcc) (by simp [crT]) (by simp [Z0Q,crT,Value.oneCell']) ⟨by simp [crT];omega,by simp [crT];omega⟩ rfl ho5 (fun o2 ho2=>?_)
 refine pur 1 rfl (Z4 ?_)
 first
   | exact rtA rfl rfl rfl ⟨o2.cast (by simp),rfl,rfl,rfl⟩ idH
   | exact rtA rfl rfl rfl ⟨OSl.nil _ _,rfl,rfl,rfl⟩ idH
set_option maxHeartbeats 2000000 in
theorem c_FewestT (a:Option Addr) (c:Nat) (H:Z7) (R:Z5) [hB:MemRows a 4 (rdrows thr3.rods) R] :
    Fn Tryz.prog 43 [(thr3.v a c)] H R (fun v H' R'=>∃ ax cx,v = .tuple #[.slice ax 2 cx,.int .i64 0]∧H'=H∧R'=R):=by
 refine Z1V Tryz.func43 rfl Tryz.ntmps43 rfl ?_
 refine sqt 3 rfl (bx rfl rfl rfl (fun b1=>pur 2 rfl (sqt 8 rfl (spL rfl rfl (lhA (rbl thr3 a c) ZT rfl rfl rfl) rfl ?_))))
 refine cl rfl ZdX rfl rfl (Z5x thr3 a c Z5g Zcx _ _) ?_
 rintro _ _ _ ⟨bf,m,kv,hkv,rfl,rfl,rfl⟩
 refine pur 3 rfl (alc rfl Z79 rfl (fun b4=>?_))
 refine sto rfl rfl rfl Z5m rfl rfl rfl rfl ?_
 refine pur 1 rfl (Z0 (sqt 2 rfl (pur 2 rfl ?_)))
 refine Z1 rfl ?_ ?_<;>intro hc0
 exact absurd hc0 (by simp)
 ·
  refine Z3 (sqt 7 rfl (sp rfl (PE.fA Z0x rfl) rfl (spL rfl rfl (lh Z63 rfl rfl) rfl (sp rfl (PE.lenSl Z40 rfl) rfl (sp rfl (PE.shlN (m:=1) (n:=thr3.rods.length) rfl rfl rfl (by decide) (by decide)) rfl ?_)))))
  refine mkS (l:=8) (c:=8) rfl ZiP Zkz rfl rfl (Nat.le_refl _) (by decide) rfl (fun b25=>?_)
  refine alc rfl Zkt rfl (fun b6=>?_)
  refine sto rfl rfl rfl ZjM rfl rfl rfl rfl ?_
  refine Z0 (sqt 2 rfl (alc rfl zl3 rfl (fun b7=>?_)))
  refine sto rfl rfl rfl cn3 rfl rfl rfl rfl ?_
  refine Z2 ?_
  refine Z2v (ι:=(y:{x:Nat×Nat×Option Addr×Nat×Option Addr×Nat×List Nat // 1≤x.1∧x.1≤8∧x.2.2.1.isNone=Zew (fL1 x.1 0)∧x.2.2.2.2.1.isNone=Zew (fL4 x.1 0)})×{o:OSl 43 2 (crT (fL5 y.1.1 0)) // fL5 y.1.1 0=[]→o.fs = .slice none 0 0∧o.G=[]}) (fun y=>⟨[(1,.pointer (some ⟨b1,0,none⟩)),(4,.pointer (some ⟨b4,0,none⟩)),(6,.pointer (some ⟨b6,0,none⟩)),(7,.pointer (some ⟨y.1.1.2.1,0,none⟩))],mks y.1.1.2.2.2.2.2.2,(y.1.1.2.1,cel 3 [.int .i64 ((y.1.1.1:Nat):Int)])::(b6,cel 169 [.slice (some ⟨b25,0,none⟩) 8 8])::(b25,cel 68 [.slice none 0 0,.slice y.1.1.2.2.1 (fL1 y.1.1.1 0).length y.1.1.2.2.2.1,.slice none 0 0,.slice none 0 0,.slice y.1.1.2.2.2.2.1 (fL4 y.1.1.1 0).length y.1.1.2.2.2.2.2.1,y.2.1.fs,.slice none 0 0,.slice none 0 0])::(b4,cel 93 [.pointer (some ⟨bf,0,none⟩)])::(m,Z07 true kv)::(b1,cel 39 (rbl thr3 a c))::(y.2.1.G++(mkh y.1.1.2.2.2.2.2.2++H)),RowsA y.1.1.2.2.2.2.1 2 (crT (fL4 y.1.1.1 0))::RowsA y.1.1.2.2.1 2 (crT (fL1 y.1.1.1 0))::RowsA (some ⟨bf,0,none⟩) 29 [fdl thr3 a c m]::R⟩) (fun y=>8-y.1.1.1) ⟨⟨(1,b7,none,0,none,0,[]),Nat.le_refl 1,by dsimp only;omega,rfl,rfl⟩,OSl.nil _ _,fun _=>⟨rfl,rfl⟩⟩ ?_ (fun y=>?_)
  exact Z67 sbA rfl (fun w h=>St.noR (St.noR (show St (_::_::_::_::_::_::([]++([]++H))) _ w from ((((h.pull m).pull b4).pull b25).pull b6).pull b7)))
  ·
   obtain ⟨⟨⟨s,bv,a1,c1,a4,c4,mk⟩,hs1,hs8,hn1,hn4⟩,o5,hn5⟩:=y
   dsimp only at hs1 hs8 hn1 hn4 o5 hn5 ⊢
   refine Z0 (sqt 4 rfl (spL rfl rfl (lh (v:=.int .i64 ((s:Nat):Int)) sc3 rfl rfl) rfl (spL rfl rfl (lh Z2N rfl rfl) rfl (sp rfl (PE.lenSl ZhX rfl) rfl (pur 1 rfl ?_)))))
   refine Z1 rfl ?_ ?_<;>intro hc1<;>try simp only [cS] at hc1
   ·
    refine Z3 (Z0 (Z2 (Z0 (Z0 ?_))))
    refine Zd [0,0,2,6,14,30,63,127] (.ld 0 (.ld 1 (.tk 2 (.tk 3 (.ld 4 (.big 5 (.tk 6 (.tk 7 .done)))))))) Zu (by kernel_rfl) ?_
    refine ld rfl rfl (lh (v:=.int .i64 ((s:Nat):Int)) sc3 rfl rfl) rfl (ld rfl rfl (lh ZaH rfl rfl) rfl (tk rfl (PE.nilCheck rfl) rfl (tk rfl (PE.fA Zd0 rfl) rfl (ld rfl rfl (ZiF (sz:=29) (rbl thr3 a c) ZT rfl rfl) rfl ?_))))
    refine cl rfl Zhj rfl rfl (Z9w thr3 a c Z5g _ _) ?_
    rintro _ _ R1 ⟨rfl,rfl,hR1⟩
    obtain rfl:=hR1.symm
    clear hR1
    rw [Z7Q]
    refine bg (fun w hs=>⟨trivial,trivial,(lh (v:=.int .i64 ((s:Nat):Int)) sc3 rfl rfl) w hs,trivial⟩) ?_
    refine tk rfl (PE.andNotN (m:=s) (n:=5) rfl rfl (by omega) (by decide)) rfl (Zo 1 rfl ?_)
    refine Z1 rfl ?_ ?_<;>intro hc2
    have hpa:=ZhP s (by omega) (fun e=>by rw [e] at hc2;simp at hc2)
    refine Z9 (Za (Zn (Z0 (sqt 1 rfl (spL rfl rfl (lh (v:=.int .i64 ((s:Nat):Int)) sc3 rfl rfl) rfl (sqr 2 rfl (alc rfl zl3 rfl (fun b7=>?_))))))))
    refine sto rfl rfl rfl cn3 rfl rfl rfl rfl ?_
    refine sqr 3 rfl (spL rfl rfl (lh (v:=.int .i64 ((s:Nat):Int)) sc3 rfl rfl) rfl (sp rfl (PE.add rfl rfl (by omega)) rfl ?_))
    refine sto rfl rfl rfl cn3 rfl rfl rfl rfl ?_
    exact Z0p ⟨⟨(s+1,b7,a1,c1,a4,c4,mk),by dsimp only;omega,by dsimp only;omega,by dsimp only;rw [hpa.1];exact hn1,by dsimp only;rw [hpa.2.1];exact hn4⟩,o5.cast (by dsimp only;rw [hpa.2.2]),fun h=>hn5 (by rw [← hpa.2.2];exact h)⟩ (by dsimp only;omega) sbA rfl (fun w h=>by have h2:=h.del bv;rw [← hpa.1,← hpa.2.1] at h2;exact h2)
    ·
     have hiS:=ZjX s (by omega) hs1 (by have h9:=of_decide_eq_false hc2;omega)
     refine Z3 (sqt 2 rfl (spL rfl rfl (lhA (rbl thr3 a c) ZT rfl rfl rfl) rfl ?_))
     refine cl rfl Z81 rfl rfl (Z2D thr3 a c _ _) ?_
     rintro _ _ _ ⟨xb,rfl,rfl,rfl⟩
     refine Sy.heap (fun w h=>(St.sub h:St _ (RowsA a4 2 (crT (fL4 s 0))::RowsA a1 2 (crT (fL1 s 0))::RowsA (some ⟨xb,0,none⟩) 3 [rbl thr3 a c]::RowsA (some ⟨bf,0,none⟩) 29 [fdl thr3 a c m]::R) w)) ?_
     refine Z2 ?_
     refine Z0q rfl Z83 (fun c0 bl0 bd0 hcp0 hca0 hcb0 hck0=>?_)
     refine ⟨fun st pend T R'=>st = .ready∧pend=none∧∃ (a1:Option Addr) (c1:Nat) (a4:Option Addr) (c4:Nat) (o5:OSl 43 2 (crT (fL5 s 12))),(a1.isNone=Zew (fL1 s 12)∧a4.isNone=Zew (fL4 s 12)∧(fL5 s 12=[]→o5.fs = .slice none 0 0∧o5.G=[]))∧T=(bd0,.deferred (some []))::(bv,cel 3 [.int .i64 ((s:Nat):Int)])::(b6,cel 169 [.slice (some ⟨b25,0,none⟩) 8 8])::(b25,cel 68 [.slice none 0 0,.slice a1 (fL1 s 12).length c1,.slice none 0 0,.slice none 0 0,.slice a4 (fL4 s 12).length c4,o5.fs,.slice none 0 0,.slice none 0 0])::(b4,cel 93 [.pointer (some ⟨bf,0,none⟩)])::(m,Z07 true kv)::(b1,cel 39 (rbl thr3 a c))::(o5.G++(mkh mk++H))∧R'=RowsA a4 2 (crT (fL4 s 12))::RowsA a1 2 (crT (fL1 s 12))::RowsA (some ⟨xb,0,none⟩) 3 [rbl thr3 a c]::RowsA (some ⟨bf,0,none⟩) 29 [fdl thr3 a c m]::R,
       Fn.mono (Z1H thr3 a c Z5g xb bl0 (fun k H' R'=>∃ (a1:Option Addr) (c1:Nat) (a4:Option Addr) (c4:Nat) (o5:OSl 43 2 (crT (fL5 s k))),(a1.isNone=Zew (fL1 s k)∧a4.isNone=Zew (fL4 s k)∧(fL5 s k=[]→o5.fs = .slice none 0 0∧o5.G=[]))∧H'=(bl0,lob c0 .ready none)::(bd0,.deferred (some []))::(bv,cel 3 [.int .i64 ((s:Nat):Int)])::(b6,cel 169 [.slice (some ⟨b25,0,none⟩) 8 8])::(b25,cel 68 [.slice none 0 0,.slice a1 (fL1 s k).length c1,.slice none 0 0,.slice none 0 0,.slice a4 (fL4 s k).length c4,o5.fs,.slice none 0 0,.slice none 0 0])::(b4,cel 93 [.pointer (some ⟨bf,0,none⟩)])::(m,Z07 true kv)::(b1,cel 39 (rbl thr3 a c))::(o5.G++(mkh mk++H))∧R'=RowsA a4 2 (crT (fL4 s k))::RowsA a1 2 (crT (fL1 s k))::RowsA (some ⟨xb,0,none⟩) 3 [rbl thr3 a c]::RowsA (some ⟨bf,0,none⟩) 29 [fdl thr3 a c m]::R) (fun _ _=>False)
         (fun k H' R' h9=>by obtain ⟨_,_,_,_,_,_,_,rfl⟩:=h9;simp)
         (fun k H' R' hk h9=>?_) _ _ ⟨a1,c1,a4,c4,o5,⟨hn1,hn4,hn5⟩,rfl,rfl⟩) (fun v H' R' h9=>?_),?_⟩
     rotate_left
     · rcases h9 with ⟨a1,c1,a4,c4,o5,hnn,rfl,rfl⟩ | h9
       · exact ⟨.ready,none,_,by simp,.refl _,rfl,rfl,a1,c1,a4,c4,o5,hnn,rfl,rfl⟩
       · exact h9.elim
     rotate_left
     obtain ⟨a1,c1,a4,c4,o5,⟨hn1,hn4,hn5⟩,rfl,rfl⟩:=h9
     have hk12:k<12:=hk
     have hak:=Zcw k hk12
     refine Z38 hcp0 hca0 hcb0 hck0 rfl rfl ?_
     refine sqr 2 rfl (alc rfl Z4s rfl (fun b9=>?_))
     refine sto rfl rfl rfl Zby rfl rfl rfl rfl ?_
     refine ZA ?_
     refine Z2 (Z0 ?_)
     refine Zd [0,1,3,7,0,31,0,127,255] (.ld 0 (.tk 1 (.tk 2 (.ld 3 (.ld 4 (.ld 5 (.ld 6 (.tk 7 (.tk 8 .done))))))))) Zu (by kernel_rfl) ?_
     refine ld rfl rfl (lh ZaH rfl rfl) rfl (tk rfl (PE.nilCheck rfl) rfl (tk rfl (PE.fA Z7u rfl) rfl (ld rfl rfl (lfB (sz:=29) ZiI Z4I) rfl (ld rfl rfl (lhA [.int .i64 ((k%4:Nat):Int),.int .i64 ((k / 4:Nat):Int)] Z2A rfl rfl rfl) rfl ?_))))
     refine ldK rfl rfl rfl (Z0o (b:=true) (v:=.int .i64 ((Z2g k:Nat):Int)) kv (thr3.key k) Z5U (KeyT.of Z5I Z6R) (Z0I zv3) rfl hkv.len (by rw [← hak];exact hkv.at_ k hk)) rfl ?_
     refine ld rfl rfl (lh (v:=.int .i64 ((s:Nat):Int)) sc3 rfl rfl) rfl (tk rfl (PE.andN (m:=Z2g k) (n:=s) rfl rfl rfl (by have:Z2g k≤4:=(by decide:∀ k,k<12→Z2g k≤4) k hk12;omega) (by omega)) rfl (Zo 1 rfl (Z0 (sqt 2 rfl (pur 2 rfl ?_)))))
     refine Z1 rfl ?_ ?_<;>intro hc3
     have hsm:=ZcY hiS hk12 (ZhO hiS hk12 (by have h9:=of_decide_eq_true hc3;omega))
     refine Z9 (Za (Zn ?_))
     try dsimp only
     rw [hsm.1,hsm.2.1,hsm.2.2]
     exact Ze (.inl ⟨rfl,a1,c1,a4,c4,o5,⟨hn1,hn4,hn5⟩,rfl,rfl⟩) (fun _ h9=>h9.del b9)
     obtain ⟨hcs,hr8⟩:=ZjY hiS hk12 (fun e=>by rw [e] at hc3;simp at hc3)
     obtain ⟨ar,Lr,cr,hbr,hfr,hlr⟩:∃ (ar:Option Addr) (Lr:List Nat) (cr:Nat),([.slice none 0 0,.slice a1 (fL1 s k).length c1,.slice none 0 0,.slice none 0 0,.slice a4 (fL4 s k).length c4,o5.fs,.slice none 0 0,.slice none 0 0]:List Value)[(s&&&(18446744073709551615-(Z2g k&&&s)))]?=some (.slice ar Lr.length cr)∧(∀ H9 w,St H9 (RowsA a4 2 (crT (fL4 s k))::RowsA a1 2 (crT (fL1 s k))::RowsA (some ⟨xb,0,none⟩) 3 [rbl thr3 a c]::RowsA (some ⟨bf,0,none⟩) 29 [fdl thr3 a c m]::R) w→St H9 (RowsA ar 2 (crT Lr)::RowsA a4 2 (crT (fL4 s k))::RowsA a1 2 (crT (fL1 s k))::RowsA (some ⟨xb,0,none⟩) 3 [rbl thr3 a c]::RowsA (some ⟨bf,0,none⟩) 29 [fdl thr3 a c m]::R) w)∧Lr=(bif decide (s=5) then (bif decide ((s&&&(18446744073709551615-(Z2g k&&&s)))=4) then [8] else [0]) else []):=by
       rcases hcs with ⟨rfl,e⟩ | ⟨rfl,rfl,e⟩ | ⟨rfl,e⟩ | ⟨rfl,rfl,e⟩
       · exact ⟨none,[],0,by rw [e];rfl,fun H9 w h=>St.noR h,by rw [e];rfl⟩
       · exact ⟨none,[],0,by rw [e];rfl,fun H9 w h=>St.noR h,by rw [e];rfl⟩
       · exact ⟨a4,[8],c4,by rw [e];rfl,fun H9 w h=>(show St H9 (RowsA a4 2 (crT (fL4 5 k))::_) w from St.sub h),by rw [e];rfl⟩
       · exact ⟨a1,[0],c1,by rw [e];rfl,fun H9 w h=>(show St H9 (RowsA a1 2 (crT (fL1 5 8))::_) w from St.sub h),by rw [e];rfl⟩
     have hlr9:Lr.length≤1:=by
       rw [hlr]
       cases decide (s=5) with
       | false=>exact Nat.zero_le _
       | true =>
         rw [cond_true]
         cases decide ((s&&&(18446744073709551615-(Z2g k&&&s)))=4) with
         | false=>exact Nat.le_refl _
         | true=>exact Nat.le_refl _
     obtain ⟨a9,n9,c9,hb9,hn9,hn9b⟩:∃ (a9:Option Addr) (n9 c9:Nat),([.slice none 0 0,.slice a1 (fL1 s k).length c1,.slice none 0 0,.slice none 0 0,.slice a4 (fL4 s k).length c4,o5.fs,.slice none 0 0,.slice none 0 0]:List Value)[s]?=some (.slice a9 n9 c9)∧a9.isNone=Z6K s k∧n9≤Lr.length+1:=by
       rcases hcs with ⟨rfl,e⟩ | ⟨rfl,rfl,e⟩ | ⟨rfl,e⟩ | ⟨rfl,rfl,e⟩
       · refine ⟨a1,_,c1,rfl,?_,?_⟩
         · rw [hn1];exact (by decide:∀ k,k<12→Zew (fL1 1 k)=Z6K 1 k) k hk12
         · have:=(by decide:∀ k,k<12→(fL1 1 k).length≤1) k hk12;omega
       · refine ⟨a4,_,c4,rfl,?_,?_⟩
         · rw [hn4];rfl
         · show (fL4 4 8).length≤_;exact Nat.zero_le _
       · by_cases hk0:k=0
         · subst hk0
           rw [(hn5 rfl).1]
           exact ⟨none,0,0,rfl,rfl,Nat.zero_le _⟩
         · have h5:fL5 5 k=[8,0]:=(by decide:∀ k,k<12→k≠0→fL5 5 k=[8,0]) k hk12 hk0
           obtain ⟨ax,cx,hax,he,_⟩:=OSl.freezeS o5 (by rw [h5];simp [crT])
           refine ⟨ax,_,cx,by rw [show ([.slice none 0 0,.slice a1 (fL1 5 k).length c1,.slice none 0 0,.slice none 0 0,.slice a4 (fL4 5 k).length c4,o5.fs,.slice none 0 0,.slice none 0 0]:List Value)[5]?=some o5.fs from rfl,he],?_,?_⟩
           · rw [hax];exact ((by decide:∀ k,k<12→k≠0→Z6K 5 k=false) k hk12 hk0).symm
           · rw [h5,hlr,e];decide
       · obtain ⟨ax,cx,hax,he,_⟩:=OSl.freezeS o5 (by simp [crT,fL5])
         refine ⟨ax,_,cx,by rw [show ([.slice none 0 0,.slice a1 (fL1 5 8).length c1,.slice none 0 0,.slice none 0 0,.slice a4 (fL4 5 8).length c4,o5.fs,.slice none 0 0,.slice none 0 0]:List Value)[5]?=some o5.fs from rfl,he],by rw [hax];rfl,?_⟩
         rw [hlr,e];decide
     refine Z3 (sqt 7 rfl (spL rfl rfl (lh Z2N rfl rfl) rfl (spL rfl rfl (lh (v:=.int .i64 ((s:Nat):Int)) sc3 rfl rfl) rfl (pur 1 rfl (sp rfl (PE.andNotN (m:=s) (n:=(Z2g k&&&s)) rfl rfl (by omega) (by have:=Nat.and_le_right (n:=Z2g k) (m:=s);omega)) rfl (sp rfl (PE.indexAddr Z86 rfl rfl (by omega) (by omega)) rfl (spL rfl rfl (lh (v:=.slice ar Lr.length cr) Zdc rfl (by rw [show 0+(((s&&&(18446744073709551615-(Z2g k&&&s))):Nat):Int).toNat*1=(s&&&(18446744073709551615-(Z2g k&&&s))) by omega];exact hbr)) rfl (pur 1 rfl (sqt 16 rfl (spL rfl rfl (lh Z2N rfl rfl) rfl (spL rfl rfl (lh (v:=.int .i64 ((s:Nat):Int)) sc3 rfl rfl) rfl (sp rfl (PE.indexAddr Z86 rfl rfl (by omega) (by omega)) rfl (spL rfl rfl (lh (v:=.slice a9 n9 c9) Zdc rfl (by rw [show 0+((s:Nat):Int).toNat*1=s by omega];exact hb9)) rfl (sp rfl (PE.eqlNil Z41 rfl rfl) rfl (pur 1 rfl ?_)))))))))))))))
     refine Zr 65 rfl ?_ ?_<;>intro g65
     try simp only [cS] at g65
     have hf3:Z6K s k=true:=by rw [← hn9];exact g65
     have hup:(s=1∧k=0∧Lr=[])∨(s=4∧k=8∧Lr=[])∨(s=5∧k=0∧Lr=[8]):=by
       rcases hcs with ⟨rfl,e⟩ | ⟨rfl,rfl,e⟩ | ⟨rfl,e⟩ | ⟨rfl,rfl,e⟩
       · exact .inl ⟨rfl,(by decide:∀ k,k<12→Z6K 1 k=true→k=0) k hk12 hf3,by rw [hlr];rfl⟩
       · exact .inr (.inl ⟨rfl,rfl,by rw [hlr];rfl⟩)
       · exact .inr (.inr ⟨rfl,(by decide:∀ k,k<12→Z6K 5 k=true→k=0) k hk12 hf3,by rw [hlr,e];rfl⟩)
       · exact absurd hf3 (by decide)
     refine pur 10 rfl ?_
     refine Z08 rfl ?_
     refine Z2u (ι:=OSl 43 2 (crT Lr++[[.int .i64 ((k%4:Nat):Int),.int .i64 ((k / 4:Nat):Int)]])) (fun y=>⟨[(1,.pointer (some ⟨b1,0,none⟩)),(4,.pointer (some ⟨b4,0,none⟩)),(6,.pointer (some ⟨b6,0,none⟩)),(7,.pointer (some ⟨bv,0,none⟩))],y.G++((b9,cel 43 [.int .i64 ((k%4:Nat):Int),.int .i64 ((k / 4:Nat):Int)])::(bl0,lob c0 .busy none)::(bd0,.deferred (some []))::(bv,cel 3 [.int .i64 ((s:Nat):Int)])::(b6,cel 169 [.slice (some ⟨b25,0,none⟩) 8 8])::(b25,cel 68 (([.slice none 0 0,.slice a1 (fL1 s k).length c1,.slice none 0 0,.slice none 0 0,.slice a4 (fL4 s k).length c4,o5.fs,.slice none 0 0,.slice none 0 0]:List Value).set s y.fs))::(b4,cel 93 [.pointer (some ⟨bf,0,none⟩)])::(m,Z07 true kv)::(b1,cel 39 (rbl thr3 a c))::(o5.G++(mkh mk++H))),RowsA a4 2 (crT (fL4 s k))::RowsA a1 2 (crT (fL1 s k))::RowsA (some ⟨xb,0,none⟩) 3 [rbl thr3 a c]::RowsA (some ⟨bf,0,none⟩) 29 [fdl thr3 a c m]::R⟩) ?_ ?_
     refine Zd [0,0,0,4,0,16,60,127,255] (.ld 0 (.ld 1 (.tk 2 (.ld 4 (.any (.alt 3 (.big 5 (.big 6 (.tk 7 (.big 8 .done)))) (.alt 5 (.big 3 (.big 6 (.tk 7 (.big 8 .done)))) .stop))))))) Zu (by kernel_rfl) ?_
     refine Sy.heap (fun w h=>hfr _ w h) ?_
     have hlr1:Lr.length≤1:=by rcases hup with ⟨_,_,h⟩ | ⟨_,_,h⟩ | ⟨_,_,h⟩<;>rw [h]<;>decide
     refine ld rfl rfl (lh Z2N rfl rfl) rfl (ld rfl rfl (lh (v:=.int .i64 ((s:Nat):Int)) sc3 rfl rfl) rfl (Zo 1 rfl (ld rfl rfl (lhA [.int .i64 ((k%4:Nat):Int),.int .i64 ((k / 4:Nat):Int)] Z2A rfl rfl rfl) rfl ?_)))
     refine Zm ?_ ?_
     refine cl rfl Zhk rfl rfl (Z3m Lr ar cr (by omega) _ _) ?_
     rintro _ _ R1 ⟨o79,rfl,rfl,hR1⟩
     obtain rfl:=hR1.symm
     clear hR1
     refine bg (fun w hs=>⟨(lhA [.int .i64 ((k%4:Nat):Int),.int .i64 ((k / 4:Nat):Int)] Z2A rfl rfl rfl) w hs,(lh (v:=.int .i64 ((s:Nat):Int)) sc3 rfl rfl) w hs,(lh Z2N rfl rfl) w hs,trivial⟩) ?_
     refine bsl (out:=[_,_]) rfl Zil Z4s rfl rfl rfl rfl rfl rfl (fun b81=>?_)
     refine bg (fun w hs=>⟨trivial,(lh (v:=.int .i64 ((s:Nat):Int)) sc3 rfl rfl) w hs,(lh Z2N rfl rfl) w hs,trivial⟩) ?_
     refine apO o79 rfl Zfx rfl rfl (Z0l (row:=[.int .i64 ((k%4:Nat):Int),.int .i64 ((k / 4:Nat):Int)]) rfl) rfl rfl (by rw [Z9S];simp only [List.length_singleton];omega) rfl (fun o82=>?_)
     refine bg (fun w hs=>⟨(lh (v:=.int .i64 ((s:Nat):Int)) sc3 rfl rfl) w hs,(lh Z2N rfl rfl) w hs,trivial⟩) ?_
     refine tk rfl (PE.indexAddr Z86 rfl rfl (by omega) (by omega)) rfl ?_
     refine ZU (l':=([.slice none 0 0,.slice a1 (fL1 s k).length c1,.slice none 0 0,.slice none 0 0,.slice a4 (fL4 s k).length c4,o5.fs,.slice none 0 0,.slice none 0 0]:List Value).set s o82.fs) rfl rfl rfl ZiE rfl (by rw [o82.cells.1];rfl) (by rw [o82.cells.1];simp [o82.cells.2]) (by rw [o82.cells.1];exact Z3N (by show s<8;omega) (by omega)) (by rw [o82.cells.1];show 0+((s:Nat):Int).toNat*1+1≤8;omega) ?_
     refine bgT ?_
     exact Zh o82 (fun w h=>St.sub (h.del b81))
     refine Zm ?_ ?_
     refine bsl (out:=[_,_]) rfl Zil Z4s rfl rfl rfl rfl rfl rfl (fun b81=>?_)
     refine bg (fun w hs=>⟨trivial,(lh (v:=.int .i64 ((s:Nat):Int)) sc3 rfl rfl) w hs,(lh Z2N rfl rfl) w hs,trivial⟩) ?_
     refine cl rfl Zhk rfl rfl (Z3m Lr ar cr (by omega) _ _) ?_
     rintro _ _ R1 ⟨o79,rfl,rfl,hR1⟩
     obtain rfl:=hR1.symm
     clear hR1
     refine bg (fun w hs=>⟨(lh (v:=.int .i64 ((s:Nat):Int)) sc3 rfl rfl) w hs,(lh Z2N rfl rfl) w hs,trivial⟩) ?_
     refine apO o79 rfl Zfx rfl rfl (Z0l (row:=[.int .i64 ((k%4:Nat):Int),.int .i64 ((k / 4:Nat):Int)]) rfl) rfl rfl (by rw [Z9S];simp only [List.length_singleton];omega) rfl (fun o82=>?_)
     refine bg (fun w hs=>⟨(lh (v:=.int .i64 ((s:Nat):Int)) sc3 rfl rfl) w hs,(lh Z2N rfl rfl) w hs,trivial⟩) ?_
     refine tk rfl (PE.indexAddr Z86 rfl rfl (by omega) (by omega)) rfl ?_
     refine ZU (l':=([.slice none 0 0,.slice a1 (fL1 s k).length c1,.slice none 0 0,.slice none 0 0,.slice a4 (fL4 s k).length c4,o5.fs,.slice none 0 0,.slice none 0 0]:List Value).set s o82.fs) rfl rfl rfl ZiE rfl (by rw [o82.cells.1];rfl) (by rw [o82.cells.1];simp [o82.cells.2]) (by rw [o82.cells.1];exact Z3N (by show s<8;omega) (by omega)) (by rw [o82.cells.1];show 0+((s:Nat):Int).toNat*1+1≤8;omega) ?_
     refine bgT ?_
     exact Zh o82 (fun w h=>St.sub (h.del b81))
     exact Zx
     rintro o82
     dsimp only
     rcases hup with ⟨rfl,rfl,rfl⟩ | ⟨rfl,rfl,rfl⟩ | ⟨rfl,rfl,rfl⟩
     · obtain ⟨ax,cx,hax,he,hf⟩:=OSl.freezeS o82 (by simp)
       exact Ze (.inl ⟨rfl,ax,cx,a4,c4,o5.cast rfl,⟨hax,hn4,hn5⟩,rfl,rfl⟩) (fun _ h9=>by rw [he] at h9;exact (St.sub (hf (St.del b9 h9)):St _ (RowsA a4 2 (crT (fL4 1 0))::RowsA ax 2 (crT []++[[.int .i64 ((0%4:Nat):Int),.int .i64 ((0 / 4:Nat):Int)]])::RowsA (some ⟨xb,0,none⟩) 3 [rbl thr3 a c]::RowsA (some ⟨bf,0,none⟩) 29 [fdl thr3 a c m]::R) _))
     · obtain ⟨ax,cx,hax,he,hf⟩:=OSl.freezeS o82 (by simp)
       exact Ze (.inl ⟨rfl,a1,c1,ax,cx,o5.cast rfl,⟨hn1,hax,hn5⟩,rfl,rfl⟩) (fun _ h9=>by rw [he] at h9;exact (St.sub (hf (St.del b9 h9)):St _ (RowsA ax 2 (crT []++[[.int .i64 ((8%4:Nat):Int),.int .i64 ((8 / 4:Nat):Int)]])::RowsA a1 2 (crT (fL1 4 8))::RowsA (some ⟨xb,0,none⟩) 3 [rbl thr3 a c]::RowsA (some ⟨bf,0,none⟩) 29 [fdl thr3 a c m]::R) _))
     · exact Ze (.inl ⟨rfl,a1,c1,a4,c4,o82.cast rfl,⟨hn1,hn4,fun h=>by cases h⟩,rfl,rfl⟩) (fun _ h9=>by rw [(hn5 rfl).2] at h9;exact (St.del b9 h9).perm (ZJ o82.G [_,_,_,_,_,_,_,_] _))
     try simp only [cS] at g65
     have hf3:Z6K s k=false:=by rw [← hn9];exact g65
     have hsm:=ZcY hiS hk12 hf3
     refine pur 1 rfl ?_
     refine spG rfl rfl rfl rfl (PE.lenSl Z41 rfl) rfl ?_
     refine spG rfl rfl rfl rfl (PE.add rfl rfl (by omega)) rfl ?_
     refine Z0L rfl rfl rfl rfl rfl (lh Z2N rfl rfl) rfl (Z0L rfl rfl rfl rfl rfl (lh (v:=.int .i64 ((s:Nat):Int)) sc3 rfl rfl) rfl ?_)
     refine spG rfl rfl rfl rfl (PE.indexAddr Z86 rfl rfl (by omega) (by omega)) rfl ?_
     refine Z0L rfl rfl rfl rfl rfl (lh (v:=.slice a9 n9 c9) Zdc rfl (by rw [show 0+((s:Nat):Int).toNat*1=s by omega];exact hb9)) rfl ?_
     refine spG rfl rfl rfl rfl (PE.lenSl Z41 rfl) rfl ?_
     refine pur 2 rfl ?_
     refine Z1 rfl ?_ ?_<;>intro hc4
     exact absurd hc4 (by simp;omega)
     refine Z3 ?_
     try dsimp only
     rw [hsm.1,hsm.2.1,hsm.2.2]
     exact Ze (.inl ⟨rfl,a1,c1,a4,c4,o5,⟨hn1,hn4,hn5⟩,rfl,rfl⟩) (fun _ h9=>h9.del b9)
     rintro _ _ _ _ ⟨rfl,rfl,a1,c1,a4,c4,o5,⟨hn1,hn4,hn5⟩,rfl,rfl⟩
     have hov:=ZhN s (by omega)
     refine Z44 ?_
     refine Z0 (sqt 1 rfl (spL rfl rfl (lh (v:=.int .i64 ((s:Nat):Int)) sc3 rfl rfl) rfl (sqr 2 rfl (alc rfl zl3 rfl (fun b7=>?_)))))
     refine sto rfl rfl rfl cn3 rfl rfl rfl rfl ?_
     refine sqr 3 rfl (spL rfl rfl (lh (v:=.int .i64 ((s:Nat):Int)) sc3 rfl rfl) rfl (sp rfl (PE.add rfl rfl (by omega)) rfl ?_))
     refine sto rfl rfl rfl cn3 rfl rfl rfl rfl ?_
     exact Z0p ⟨⟨(s+1,b7,a1,c1,a4,c4,bd0::mk),by dsimp only;omega,by dsimp only;omega,by dsimp only;rw [hov.1];exact hn1,by dsimp only;rw [hov.2.1];exact hn4⟩,o5.cast (by dsimp only;rw [hov.2.2]),fun h=>hn5 (by rw [← hov.2.2];exact h)⟩ (by dsimp only;omega) sbA rfl (fun w h=>by have h2:=h.del bv;rw [← hov.1,← hov.2.1] at h2;exact St.sub ((h2.pull bd0).perm (Zau _ _ _ _ _ _ _ _ _)))
   obtain rfl:s=8:=by omega
   refine Z9 (Za (Za (Zn (Z0 ?_))))
   refine Zd [0,0,2,6,14,30,63,127,255] (.ld 0 (.ld 1 (.tk 2 (.tk 3 (.ld 4 (.big 5 (.tk 6 (.ld 7 (.tk 8 .done))))))))) Zu (by kernel_rfl) ?_
   refine ld rfl rfl (lh Z2N rfl rfl) rfl (ld rfl rfl (lh ZaH rfl rfl) rfl (tk rfl (PE.nilCheck rfl) rfl (tk rfl (PE.fA Zd0 rfl) rfl (ld rfl rfl (ZiF (sz:=29) (rbl thr3 a c) ZT rfl rfl) rfl ?_))))
   refine cl rfl Zhj rfl rfl (Z9w thr3 a c Z5g _ _) ?_
   rintro _ _ R1 ⟨rfl,rfl,hR1⟩
   obtain rfl:=hR1.symm
   clear hR1
   rw [Z7Q]
   refine bg (fun w hs=>⟨trivial,trivial,(lh Z2N rfl rfl) w hs,trivial⟩) ?_
   refine tk rfl (PE.indexAddr Z86 rfl rfl (by decide) (by decide)) rfl (ld rfl rfl (lh (v:=o5.fs) Zdc rfl rfl) rfl (Zo 1 rfl (sqt 2 rfl ?_)))
   obtain ⟨ax,cx,hax,he,_⟩:=OSl.freezeS o5 (by simp [crT,fL5])
   have he2:o5.fs = .slice ax 2 cx:=he
   refine Sy.heap (fun w h=>h.perm (Zc4 _ _ _ _ _ _ o5.G _)) ?_
   refine pur 1 rfl ?_
   refine cl rfl Zjx rfl rfl (Z6o ((fL5 8 0).map fun k=>(((k%4:Nat):Int),((k / 4:Nat):Int))) (o5.cast (Zhw _)) (by decide) _ _) ?_
   rintro _ _ R1 ⟨rfl,rfl,hR1⟩
   obtain rfl:=hR1.symm
   clear hR1
   refine sqt 3 rfl (pur 3 rfl (Z4 ?_))
   exact ZR mk (H:=H) (fun w h=>(((((h.del bv).del b6).del b25).del b4).del m).del b1) rfl (.cons (RV.tmp rfl) (.cons (RV.tmp rfl) .nil)) rfl ⟨ax,cx,by rw [← he2];rfl,rfl,rfl⟩ (fun w h=>St.sub h)
theorem ZkR:ZF Tryz.prog 37=some 1:=by kernel_rfl
theorem Zc9:ZM Tryz.prog 50=some [(0,2),(2,1),(3,1)]:=by kernel_rfl
theorem ZeT (l:List Rd) (x:Rd):rdrows l++[rdrow x]=rdrows (l++[x]):=by simp [rdrows]
set_option maxHeartbeats 400000 in
theorem c_Three (a:Option Addr) (c:Nat) (H:Z7) (R:Z5) [hB:MemRows a 1 (irows [0,1,2]) R] :
    Fn Tryz.prog 44 [.slice a 3 c] H R (fun v H' R'=>∃ ax cx,v=thr3.v ax cx∧H'=H∧R'=RowsA ax 4 (rdrows thr3.rods)::R):=by
 refine Z8 Tryz.func44 rfl Tryz.ntmps44 rfl ?_
 refine sqt 1 rfl (alc rfl Zb8 rfl (fun b2=>sqt 10 rfl (sp rfl (PE.build (out:=[_,_]) Zc8 Z4s rfl rfl) rfl (sp rfl (PE.build (out:=[_,_,_,_]) Zc9 Z46 rfl rfl) rfl (sp rfl (PE.build (out:=[_,_]) Zc8 Z4s rfl rfl) rfl (sp rfl (PE.build (out:=[_,_,_,_]) Zc9 Z46 rfl rfl) rfl (sp rfl (PE.build (out:=[_,_]) Zc8 Z4s rfl rfl) rfl (sp rfl (PE.build (out:=[_,_,_,_]) Zc9 Z46 rfl rfl) rfl (sp rfl (PE.build (out:=[_,_]) Zc8 Z4s rfl rfl) rfl (sp rfl (PE.build (out:=[_,_,_,_]) Zc9 Z46 rfl rfl) rfl ?_))))))))))
 refine bsl (out:=[_,_,_,_,_,_,_,_,_,_,_,_,_,_,_,_]) rfl Zkn Z46 rfl rfl rfl rfl rfl rfl (fun b15=>?_)
 refine pur 1 rfl (sqt 3 rfl (sp rfl (PE.build (out:=[_,_,_]) Zib Zb8 rfl rfl) rfl (alc rfl Zb8 rfl (fun b4=>?_))))
 refine sto rfl rfl rfl ZcU rfl rfl rfl rfl ?_
 refine Z0 (sqt 3 rfl (pur 1 rfl (sp rfl (PE.lenSl Z0t rfl) rfl (pur 1 rfl (Z2 ?_)))))
 refine Zc (ι:=(x:{x:Nat // x≤3})×OSl 50 4 (rdrows (thr3.rods.take x.1))) (fun x=>⟨[(2,.pointer (some ⟨b2,0,none⟩)),(3,.slice (some ⟨b15,0,none⟩) 4 4),(4,.pointer (some ⟨b4,0,none⟩)),(17,.slice a 3 c),(18,.int .i64 3),(19,.int .i64 (x.1.1:Int))],x.2.G++((b4,cel 39 [.int .i64 4,.int .i64 3,x.2.fs])::(b15,cel 50 [.int .i64 1,.int .i64 1,.int .i64 2,.int .i64 3,.int .i64 3,.int .i64 0,.int .i64 1,.int .i64 0,.int .i64 0,.int .i64 2,.int .i64 1,.int .i64 4,.int .i64 0,.int .i64 2,.int .i64 0,.int .i64 0])::(b2,cel 39 [.int .i64 0,.int .i64 0,.slice none 0 0])::H),R⟩) (fun x=>3-x.1.1) ⟨⟨0,Nat.zero_le _⟩,OSl.nil _ _⟩ ?_ (fun x=>?_)
 exact Zi idH
 obtain ⟨⟨k,hk⟩,o⟩:=x
 dsimp only at hk o ⊢
 refine sqt 1 rfl (pur 1 rfl (Z0 ?_))
 refine Z1 rfl ?_ ?_<;>intro hc0<;>try simp only [cS] at hc0
 have hg:(irows [0,1,2])[k]?=some [.int .i64 (k:Int)]:=by rcases (show k=0∨k=1∨k=2 by omega) with rfl | rfl | rfl<;>rfl
 obtain ⟨x,rest,hx,hdr⟩:∃ (x:Rd) (rest:List Value),thr3.rods[k]?=some x∧([.int .i64 1,.int .i64 1,.int .i64 2,.int .i64 3,.int .i64 3,.int .i64 0,.int .i64 1,.int .i64 0,.int .i64 0,.int .i64 2,.int .i64 1,.int .i64 4,.int .i64 0,.int .i64 2,.int .i64 0,.int .i64 0]:List Value).drop (0+((k:Nat):Int).toNat*4)=rdrow x++rest:=by rcases (show k=0∨k=1∨k=2 by omega) with rfl | rfl | rfl<;>exact ⟨_,_,rfl,rfl⟩
 refine Zp (a:=a) (sz:=1) (rows:=irows [0,1,2]) (by simp) (fun ba oa he=>?_)
 subst he
 refine Z3 (Z0 (Z2 (sqt 3 rfl (sp rfl (PE.indexAddr Z5G rfl rfl (by omega) (by omega)) rfl (spL rfl rfl (lf0 sc3 hg rfl) rfl (pur 1 rfl ?_))))))
 refine Zd [0,1,0,0,12,28,60,127,255,511] (.tk 0 (.ld 1 (tks 2 3 (.ld 5 (.big 6 (.big 7 (.tk 8 (.big 9 .done)))))))) Zu (by kernel_rfl) ?_
 refine tk rfl (PE.fA Z0x rfl) rfl (ld rfl rfl (lh (v:=o.fs) Z63 rfl rfl) rfl (Zo 2 rfl (tk rfl (PE.indexAddr Zef rfl rfl (by omega) (by omega)) rfl (ld rfl rfl (lhA (rest:=rest) (rdrow x) Zb9 rfl hdr rfl) rfl ?_))))
 refine bsl (out:=[_,_,_,_]) rfl Zkn Z46 rfl rfl rfl rfl rfl rfl (fun b29=>?_)
 refine bg (fun w hs=>⟨trivial,(lh (v:=o.fs) Z63 rfl rfl) w hs,trivial⟩) ?_
 refine apO (o) rfl ZiS rfl rfl (Z0l (row:=rdrow x) rfl) rfl rfl ((by rw [Z3I,List.length_take];simp only [List.length_singleton];omega)) rfl (fun o30=>?_)
 refine bgT (tk rfl (PE.fA Z0x rfl) rfl ?_)
 refine ZU (l':=[.int .i64 4,.int .i64 3,o30.fs]) rfl rfl rfl ZkR rfl (by rw [o30.cells.1];rfl) (by rw [o30.cells.1];simp [o30.cells.2]) (by rw [o30.cells.1];rfl) (by rw [o30.cells.1];exact Nat.le_of_ble_eq_true rfl) ?_
 refine bgT (sqr 2 rfl (sp rfl (PE.add rfl rfl (by omega)) rfl (pur 1 rfl ?_)))
 exact Z6 ⟨⟨k+1,by omega⟩,o30.cast (by rw [List.take_add_one,hx];exact ZeT _ _)⟩ (fun w h=>h.del b29)
 obtain rfl:k=3:=by omega
 obtain ⟨ax,cx,he,hf⟩:=(o.cast rfl:OSl 50 4 (rdrows thr3.rods)).freeze
 rw [show o.fs=_ from he]
 refine Sy.heap (fun w h=>hf h) ?_
 refine Z9 (Za (Za (Zn (sqt 2 rfl (spL rfl rfl (lhA (rbl thr3 ax cx) ZT rfl rfl rfl) rfl ?_)))))
 refine ZU (l':=rbl thr3 ax cx) rfl rfl rfl ZcU rfl rfl rfl rfl (nl rfl) ?_
 refine Z4 ?_
 exact Zf (vs:=[_]) rfl (.cons (RV.cell rfl (lhA (rbl thr3 ax cx) ZT rfl rfl rfl)) .nil) rfl ⟨ax,cx,rfl,rfl,rfl⟩ (fun w h=>((h.del b4).del b15).del b2)
end Go.Proofs.YthijcgkicjljhaaGreat.Ro
namespace Go.Proofs.YthijcgkicjljhaaGreat.Fl
set_option linter.unusedSimpArgs false
set_option linter.unusedVariables false
open Go
theorem Z1t:Z1r Tryz.prog 119=some 4:=by kernel_rfl
theorem Zbd:Z1r Tryz.prog 178=some 2:=by kernel_rfl
theorem Zbe:Z1r Tryz.prog 180=some 3:=by kernel_rfl
theorem Zfu:Z1r Tryz.prog 261=some 2:=by kernel_rfl
theorem Z5y:cal Tryz.prog 110=true:=by kernel_rfl
theorem Z3r:cal Tryz.prog 130=true:=by kernel_rfl
theorem Z5z:cal Tryz.prog 147=true:=by kernel_rfl
theorem Z9C:cal Tryz.prog 182=true:=by kernel_rfl
theorem Zgv:cal Tryz.prog 187=true:=by kernel_rfl
theorem ZcP:cal Tryz.prog 189=true:=by kernel_rfl
theorem ZgB:cal Tryz.prog 194=true:=by kernel_rfl
theorem ZgU:cal Tryz.prog 226=true:=by kernel_rfl
theorem ZgV:cal Tryz.prog 227=true:=by kernel_rfl
theorem ZgW:cal Tryz.prog 228=true:=by kernel_rfl
theorem ZgX:cal Tryz.prog 229=true:=by kernel_rfl
theorem ZgY:cal Tryz.prog 230=true:=by kernel_rfl
theorem ZgZ:cal Tryz.prog 231=true:=by kernel_rfl
theorem Zh0:cal Tryz.prog 232=true:=by kernel_rfl
theorem Zh7:cal Tryz.prog 242=true:=by kernel_rfl
theorem Zh8:cal Tryz.prog 243=true:=by kernel_rfl
theorem Zh9:cal Tryz.prog 244=true:=by kernel_rfl
theorem ZbD:elN Tryz.prog 115=some 2:=by kernel_rfl
theorem Zee:elN Tryz.prog 116=some 3:=by kernel_rfl
theorem ZjU:elN Tryz.prog 117=some 2:=by kernel_rfl
theorem Z5G:elN Tryz.prog 30=some 1:=by kernel_rfl
theorem Z3y:Z00 Tryz.prog 119 0=some 0:=by kernel_rfl
theorem Z1z:Z00 Tryz.prog 119 1=some 1:=by kernel_rfl
theorem Z25:Z00 Tryz.prog 119 2=some 2:=by kernel_rfl
theorem Z6D:Z00 Tryz.prog 178 0=some 0:=by kernel_rfl
theorem Z3A:Z00 Tryz.prog 178 1=some 1:=by kernel_rfl
theorem Z4K:Z00 Tryz.prog 180 0=some 0:=by kernel_rfl
theorem Z6E:Z00 Tryz.prog 180 1=some 1:=by kernel_rfl
theorem Z6F:Z00 Tryz.prog 180 2=some 2:=by kernel_rfl
theorem Z5O:Z3a Tryz.prog 115=true:=by kernel_rfl
theorem Z5P:Z3a Tryz.prog 116=true:=by kernel_rfl
theorem Zag:Z3a Tryz.prog 117=true:=by kernel_rfl
theorem Z0t:Z3a Tryz.prog 30=true:=by kernel_rfl
theorem Z62:Z0j Tryz.prog 115=true:=by kernel_rfl
theorem Z6Y:Z0j Tryz.prog 116=true:=by kernel_rfl
theorem Z2M:Z0j Tryz.prog 131=true:=by kernel_rfl
theorem Zkc:Z0j Tryz.prog 278=true:=by kernel_rfl
theorem Zkd:Z0j Tryz.prog 280=true:=by kernel_rfl
theorem Zke:Z0j Tryz.prog 282=true:=by kernel_rfl
theorem sc3:Z0j Tryz.prog 3=true:=by kernel_rfl
theorem Z8u:Z0j Tryz.prog 30=true:=by kernel_rfl
@[reducible] def inR (n lo hi : Int) : Bool := decide (lo ≤ n) && decide (n ≤ hi)
def na (l:List Int) (k:Nat):Int:=l.getD k 0
structure Trn where (f t n:Int)
abbrev irows (l:List Int):List (List Value):=l.map fun z=>[.int .i64 z]
def Z0T (x:Int×Nat):List Value:=[.int .i64 x.1,.slice (some ⟨x.2,0,none⟩) 2 2]
abbrev Z0i (l:List (Int×Nat)):List (List Value):=l.map Z0T
def Z16 (x:Trn):List Value:=[.int .i64 x.f,.int .i64 x.t,.int .i64 x.n]
abbrev Z0u (l:List Trn):List (List Value):=l.map Z16
def Z53 (x:Int×Int):List Value:=[.int .i64 x.1,.int .i64 x.2]
abbrev Z0R (l:List (Int×Int)):List (List Value):=l.map Z53
def fls (pa pb pc:Nat):List Value:=[.slice (some ⟨pa,0,none⟩) 2 2,.slice (some ⟨pb,0,none⟩) 3 3,.slice (some ⟨pc,0,none⟩) 3 3,.slice none 0 0]
def ZY (pd pe pf:Nat):List (Int×Nat):=[(60,pd),(30,pe),(0,pf)]
def trnF:List Trn:=[⟨0,1,40⟩,⟨1,2,30⟩,⟨-1,0,40⟩]
def shs:Nat→List Int
 | 0=>[4,0]
 | 1=>[2,2]
 | _=>[0,4]
theorem irl (l:List Int):(irows l).length=l.length:=List.length_map _
theorem Z1W {l:List Int} {k:Nat} {x:Int} (h:l[k]?=some x):(irows l)[k]?=some [.int .i64 x]:=by simp [irows,h]
theorem Zb (l:List Int):(Zj l).length=l.length:=by simp [Zj]
theorem Z1b {l:List Int} {k:Nat} {v:Int} (h:l[k]?=some v):(Zj l)[k]?=some (.int .i64 v):=by simp [Zj,h]
theorem na_get {l:List Int} {k:Nat} (h:k<l.length):l[k]?=some (na l k):=by
 unfold na;rw [List.getD_eq_getElem?_getD,List.getElem?_eq_getElem h];rfl
theorem Z0O {w:List Int} {k i:Nat} (hk:k<w.length) (e:i=k):(Zj w)[i]?=some (.int .i64 (na w k)):=by
 subst e;exact Z1b (na_get hk)
theorem Z6L {n lo hi:Int} (h:lo≤n∧n≤hi):inR n lo hi=true:=by simp [inR,h]
theorem Z5p {pd pe pf:Nat} {x:Int×Nat} (h:x∈ZY pd pe pf):x=(60,pd)∨x=(30,pe)∨x=(0,pf):=by simpa [ZY] using h
theorem Z6b {x:Trn} (h:x∈trnF):(-1≤x.f∧x.f≤1)∧(0≤x.t∧x.t≤2)∧(1≤x.n∧x.n≤40)∧x.f≠x.t:=by
 simp only [trnF,List.mem_cons,List.not_mem_nil,or_false] at h
 rcases h with rfl | rfl | rfl<;>simp
theorem Zq {α:Type} {xs:List α} {p:α→Bool} {k:Nat} {x:α} (hx:xs[k]?=some x) (hn:∀ y∈xs.take k,p y=false) (h:p x=true):xs.findIdx? p=some k:=by
 induction xs generalizing k with
 | nil=>simp at hx
 | cons y ys ih =>
   cases k with
   | zero=>simp only [List.getElem?_cons_zero,Option.some.injEq] at hx;subst hx;simp [List.findIdx?_cons,h]
   | succ k =>
     have hy:=hn y (by simp)
     have:=ih (by simpa using hx) (fun z hz=>hn z (by simp [hz]))
     simp [List.findIdx?_cons,hy,this]
theorem Zl {α:Type} {xs:List α} {p:α→Bool} (hn:∀ y∈xs,p y=false):xs.findIdx? p=none:=by
 rw [List.findIdx?_eq_none_iff];exact hn
theorem ZC {α:Type} {xs:List α} {p:α→Bool} {k:Nat} {x:α} (hx:xs[k]?=some x) (hn:∀ y∈xs.take k,p y=false) (h:p x=false):∀ y∈xs.take (k+1),p y=false:=by
 intro y hy
 rw [List.take_add_one,hx] at hy
 rcases List.mem_append.1 hy with h1 | h1
 · exact hn y h1
 · simp only [Option.toList_some,List.mem_singleton] at h1;subst h1;exact h
theorem Z03 {α:Type} (xs:List α) (p:α→Bool):Value.bool (decide (0≤(match xs.findIdx? p with | some k=>(k:Int) | none => -1))) = .bool (xs.any p):=by
 congr 1
 cases h:xs.findIdx? p with
 | none =>
   have:=List.findIdx?_eq_none_iff.1 h
   have h2:xs.any p=false:=by simpa using this
   rw [h2];rfl
 | some k =>
   have h2:xs.any p=true:=by
     rw [← Bool.not_eq_false];intro h3
     have:xs.findIdx? p=none:=List.findIdx?_eq_none_iff.2 (by simpa using h3)
     rw [this] at h;cases h
   rw [h2];simp
theorem Zt {α:Type} (xs:List α) (p:α→Bool):Value.bool (!xs.any fun x=>!p x) = .bool (xs.all p):=by
 congr 1
 induction xs with
 | nil=>rfl
 | cons x xs ih=>simp [← ih]
theorem Z7Y (n lo hi:Int) (H:Z7) (R:Z5) :
    FnV Tryz.prog 130 [.int .i64 n,.int .i64 lo,.int .i64 hi] H R (.bool (inR n lo hi)):=by
 refine Z8 Tryz.func130 rfl Tryz.ntmps130 rfl ?_
 refine sqt 1 rfl (pur 1 rfl (sqt 9 rfl (pur 4 rfl ?_)))
 refine Zr 10 rfl ?_ ?_<;>intro g10
 refine pur 5 rfl (Z4 ?_)
 exact rtA rfl rfl rfl ⟨by simp_all only [Z0c,inR,Bool.true_and,Bool.false_and,cond_true,cond_false],rfl,rfl⟩ drp
 refine pur 5 rfl (Z4 ?_)
 exact rtA rfl rfl rfl ⟨by simp_all only [Z0c,inR,Bool.true_and,Bool.false_and,cond_true,cond_false],rfl,rfl⟩ drp
theorem Z0z (n lo hi:Int) (h:lo≤n∧n≤hi) (H:Z7) (R:Z5):FnV Tryz.prog 130 [.int .i64 n,.int .i64 lo,.int .i64 hi] H R (.bool true):=by
 have:=Z7Y n lo hi H R
 rwa [Z6L h] at this
theorem Z9g (xs:List (Int×Nat)) (a:Option Addr) (c g:Nat) (fst cap:List Value) (p:(Int×Nat)→Bool) (hg:cal Tryz.prog g=true) (hl:xs.length≤9223372036854775807) (H:Z7) (R:Z5) [hR:MemRows a 2 (Z0i xs) R] (hp:∀ x,x∈xs→FnV Tryz.prog g (fst++[.agg (Z0T x).toArray]++cap) H R (.bool (p x))) :
    FnV Tryz.prog 242 [.slice a xs.length c,.func (.func g) fst.toArray cap.toArray] H R (.int .i64 (match xs.findIdx? p with | some k=>(k:Int) | none => -1)):=by
 refine Z8 Tryz.func242 rfl Tryz.ntmps242 rfl ?_
 refine sqt 1 rfl (pur 1 rfl (Z0 (sqt 3 rfl (pur 1 rfl (sp rfl (PE.lenSl Z5O rfl) rfl (pur 1 rfl (Z2 ?_)))))))
 refine Zc (ι:={k:Nat // k≤xs.length∧∀ x∈xs.take k,p x=false}) (fun k=>⟨[(0,.slice a xs.length c),(1,.func (.func g) fst.toArray cap.toArray),(7,.int .i64 xs.length),(8,.int .i64 k.1)],H,R⟩) (fun k=>xs.length-k.1) ⟨0,by simp⟩ ?_ (fun k=>?_)
 exact Zi idH
 obtain ⟨k,hk,hn⟩:=k
 dsimp only
 refine sqt 1 rfl (pur 1 rfl (Z0 ?_))
 refine Z1 rfl ?_ ?_<;>intro hc0
 simp only [cS] at hc0
 obtain ⟨x,hx⟩:∃ x,xs[k]?=some x:=⟨_,List.getElem?_eq_getElem (by omega)⟩
 have hxm:=List.mem_of_getElem? hx
 refine Zp (a:=a) (sz:=2) (rows:=Z0i xs) (by cases xs<;>simp_all [Z0i]) (fun b off he=>?_)
 subst he
 refine Z3 (Z0 (Z2 (sqt 2 rfl (pur 2 rfl (sqt 6 rfl (pur 3 rfl (sp rfl (PE.indexAddr ZbD rfl rfl (by omega) (by omega)) rfl (spL rfl rfl (lfA Zbd (row:=Z0T x) (by simp [Z0i,hx]) rfl) rfl ?_))))))))
 refine Z1R rfl rfl (hg) rfl rfl (hp x hxm) ?_
 refine Z1 rfl ?_ ?_<;>intro hc1
 refine sqt 2 rfl (pur 2 rfl (Z4 ?_))
 first | (exact rtA rfl rfl rfl ⟨by rw [Zq hx hn hc1];rfl,rfl,rfl⟩ idH) | (exact rtA rfl rfl rfl ⟨by rw [Zl (by simpa using hn)];rfl,rfl,rfl⟩ idH)
 refine Z3 (sqr 2 rfl (sp rfl (PE.add rfl rfl (by omega)) rfl (pur 1 rfl ?_)))
 exact Z6 ⟨k+1,by omega,ZC hx hn hc1⟩ idH
 simp only [cS] at hc0
 obtain rfl:k=xs.length:=by omega
 refine Z9 (Za (Za (Zn (sqt 1 rfl (pur 1 rfl (Z4 ?_))))))
 first | (exact rtA rfl rfl rfl ⟨by rw [Zq hx hn hc1];rfl,rfl,rfl⟩ idH) | (exact rtA rfl rfl rfl ⟨by rw [Zl (by simpa using hn)];rfl,rfl,rfl⟩ idH)
theorem Z97 (xs:List (Int×Nat)) (a:Option Addr) (c g:Nat) (fst cap:List Value) (p:(Int×Nat)→Bool) (hg:cal Tryz.prog g=true) (hl:xs.length≤9223372036854775807) (H:Z7) (R:Z5) [hR:MemRows a 2 (Z0i xs) R] (hp:∀ x,x∈xs→FnV Tryz.prog g (fst++[.agg (Z0T x).toArray]++cap) H R (.bool (p x))) :
    FnV Tryz.prog 226 [.slice a xs.length c,.func (.func g) fst.toArray cap.toArray] H R (.bool (xs.any p)):=by
 refine Z8 Tryz.func226 rfl Tryz.ntmps226 rfl ?_
 refine sqt 1 rfl (pur 1 rfl (sqt 5 rfl (pur 2 rfl ?_)))
 refine clV rfl Zh7 rfl rfl (Z9g xs a c g fst cap p hg hl _ _ hp) ?_
 refine pur 2 rfl (Z4 ?_)
 exact rtA rfl rfl rfl ⟨by simp only [Z0c];exact Z03 _ _,rfl,rfl⟩ drp
theorem Z8V (x:(Int×Nat)) (g bf:Nat) (fst cap:List Value) (p:Bool) (hg:cal Tryz.prog g=true) (H:Z7) (R:Z5) [hM:Mem1 bf (cel 278 [.func (.func g) fst.toArray cap.toArray]) H] (hp:∀ b,FnV Tryz.prog g (fst++[.agg (Z0T x).toArray]++cap) ((b,cel 178 (Z0T x))::H) R (.bool p)) :
    FnV Tryz.prog 227 [.agg (Z0T x).toArray,.pointer (some ⟨bf,0,none⟩)] H R (.bool !p):=by
 refine Z8 Tryz.func227 rfl Tryz.ntmps227 rfl ?_
 refine sqt 2 rfl (bx rfl rfl rfl (fun b2=>pur 1 rfl (sqt 5 rfl (spL rfl rfl (lh Zkc rfl rfl) rfl (spL rfl rfl (lhA [_,_] Zbd rfl rfl rfl) rfl ?_)))))
 refine Z1R rfl rfl (hg) rfl rfl (hp _) ?_
 refine pur 2 rfl (Z4 ?_)
 exact rtA rfl rfl rfl ⟨rfl,rfl,rfl⟩ drp
theorem Z21 (xs:List (Int×Nat)) (a:Option Addr) (c g:Nat) (fst cap:List Value) (p:(Int×Nat)→Bool) (hg:cal Tryz.prog g=true) (hl:xs.length≤9223372036854775807) (H:Z7) (R:Z5) [hR:MemRows a 2 (Z0i xs) R] (hp:∀ b b2 x,x∈xs→FnV Tryz.prog g (fst++[.agg (Z0T x).toArray]++cap) ((b2,cel 178 (Z0T x))::(b,cel 278 [.func (.func g) fst.toArray cap.toArray])::H) R (.bool (p x))) :
    FnV Tryz.prog 180 [.slice a xs.length c,.func (.func g) fst.toArray cap.toArray] H R (.bool (xs.all p)):=by
 refine Z8 Tryz.func180 rfl Tryz.ntmps180 rfl ?_
 refine sqt 2 rfl (bx rfl rfl rfl (fun b3=>pur 1 rfl (sqt 5 rfl (pur 1 rfl (sp rfl (PE.makeFunc rfl rfl) rfl ?_)))))
 refine clV rfl ZgU rfl rfl (Z97 xs a c 227 [] [_] (fun x=>!p x) ZgV hl _ _ (hp:=fun x hx=>Z8V x g _ fst cap (p x) hg _ _ (hp:=fun b=>hp _ _ x hx))) ?_
 refine pur 2 rfl (Z4 ?_)
 exact rtA rfl rfl rfl ⟨by simp only [Z0c];rw [Zt],rfl,rfl⟩ drp
theorem Z9o (xs:List Trn) (a:Option Addr) (c g:Nat) (fst cap:List Value) (p:Trn→Bool) (hg:cal Tryz.prog g=true) (hl:xs.length≤9223372036854775807) (H:Z7) (R:Z5) [hR:MemRows a 3 (Z0u xs) R] (hp:∀ x,x∈xs→FnV Tryz.prog g (fst++[.agg (Z16 x).toArray]++cap) H R (.bool (p x))) :
    FnV Tryz.prog 243 [.slice a xs.length c,.func (.func g) fst.toArray cap.toArray] H R (.int .i64 (match xs.findIdx? p with | some k=>(k:Int) | none => -1)):=by
 refine Z8 Tryz.func243 rfl Tryz.ntmps243 rfl ?_
 refine sqt 1 rfl (pur 1 rfl (Z0 (sqt 3 rfl (pur 1 rfl (sp rfl (PE.lenSl Z5P rfl) rfl (pur 1 rfl (Z2 ?_)))))))
 refine Zc (ι:={k:Nat // k≤xs.length∧∀ x∈xs.take k,p x=false}) (fun k=>⟨[(0,.slice a xs.length c),(1,.func (.func g) fst.toArray cap.toArray),(7,.int .i64 xs.length),(8,.int .i64 k.1)],H,R⟩) (fun k=>xs.length-k.1) ⟨0,by simp⟩ ?_ (fun k=>?_)
 exact Zi idH
 obtain ⟨k,hk,hn⟩:=k
 dsimp only
 refine sqt 1 rfl (pur 1 rfl (Z0 ?_))
 refine Z1 rfl ?_ ?_<;>intro hc0
 simp only [cS] at hc0
 obtain ⟨x,hx⟩:∃ x,xs[k]?=some x:=⟨_,List.getElem?_eq_getElem (by omega)⟩
 have hxm:=List.mem_of_getElem? hx
 refine Zp (a:=a) (sz:=3) (rows:=Z0u xs) (by cases xs<;>simp_all [Z0u]) (fun b off he=>?_)
 subst he
 refine Z3 (Z0 (Z2 (sqt 2 rfl (pur 2 rfl (sqt 6 rfl (pur 3 rfl (sp rfl (PE.indexAddr Zee rfl rfl (by omega) (by omega)) rfl (spL rfl rfl (lfA Zbe (row:=Z16 x) (by simp [Z0u,hx]) rfl) rfl ?_))))))))
 refine Z1R rfl rfl (hg) rfl rfl (hp x hxm) ?_
 refine Z1 rfl ?_ ?_<;>intro hc1
 refine sqt 2 rfl (pur 2 rfl (Z4 ?_))
 first | (exact rtA rfl rfl rfl ⟨by rw [Zq hx hn hc1];rfl,rfl,rfl⟩ idH) | (exact rtA rfl rfl rfl ⟨by rw [Zl (by simpa using hn)];rfl,rfl,rfl⟩ idH)
 refine Z3 (sqr 2 rfl (sp rfl (PE.add rfl rfl (by omega)) rfl (pur 1 rfl ?_)))
 exact Z6 ⟨k+1,by omega,ZC hx hn hc1⟩ idH
 simp only [cS] at hc0
 obtain rfl:k=xs.length:=by omega
 refine Z9 (Za (Za (Zn (sqt 1 rfl (pur 1 rfl (Z4 ?_))))))
 first | (exact rtA rfl rfl rfl ⟨by rw [Zq hx hn hc1];rfl,rfl,rfl⟩ idH) | (exact rtA rfl rfl rfl ⟨by rw [Zl (by simpa using hn)];rfl,rfl,rfl⟩ idH)
theorem Z9f (xs:List Trn) (a:Option Addr) (c g:Nat) (fst cap:List Value) (p:Trn→Bool) (hg:cal Tryz.prog g=true) (hl:xs.length≤9223372036854775807) (H:Z7) (R:Z5) [hR:MemRows a 3 (Z0u xs) R] (hp:∀ x,x∈xs→FnV Tryz.prog g (fst++[.agg (Z16 x).toArray]++cap) H R (.bool (p x))) :
    FnV Tryz.prog 229 [.slice a xs.length c,.func (.func g) fst.toArray cap.toArray] H R (.bool (xs.any p)):=by
 refine Z8 Tryz.func229 rfl Tryz.ntmps229 rfl ?_
 refine sqt 1 rfl (pur 1 rfl (sqt 5 rfl (pur 2 rfl ?_)))
 refine clV rfl Zh8 rfl rfl (Z9o xs a c g fst cap p hg hl _ _ hp) ?_
 refine pur 2 rfl (Z4 ?_)
 exact rtA rfl rfl rfl ⟨by simp only [Z0c];exact Z03 _ _,rfl,rfl⟩ drp
theorem Z93 (x:Trn) (g bf:Nat) (fst cap:List Value) (p:Bool) (hg:cal Tryz.prog g=true) (H:Z7) (R:Z5) [hM:Mem1 bf (cel 280 [.func (.func g) fst.toArray cap.toArray]) H] (hp:∀ b,FnV Tryz.prog g (fst++[.agg (Z16 x).toArray]++cap) ((b,cel 180 (Z16 x))::H) R (.bool p)) :
    FnV Tryz.prog 230 [.agg (Z16 x).toArray,.pointer (some ⟨bf,0,none⟩)] H R (.bool !p):=by
 refine Z8 Tryz.func230 rfl Tryz.ntmps230 rfl ?_
 refine sqt 2 rfl (bx rfl rfl rfl (fun b2=>pur 1 rfl (sqt 5 rfl (spL rfl rfl (lh Zkd rfl rfl) rfl (spL rfl rfl (lhA [_,_,_] Zbe rfl rfl rfl) rfl ?_)))))
 refine Z1R rfl rfl (hg) rfl rfl (hp _) ?_
 refine pur 2 rfl (Z4 ?_)
 exact rtA rfl rfl rfl ⟨rfl,rfl,rfl⟩ drp
theorem Z23 (xs:List Trn) (a:Option Addr) (c g:Nat) (fst cap:List Value) (p:Trn→Bool) (hg:cal Tryz.prog g=true) (hl:xs.length≤9223372036854775807) (H:Z7) (R:Z5) [hR:MemRows a 3 (Z0u xs) R] (hp:∀ b b2 x,x∈xs→FnV Tryz.prog g (fst++[.agg (Z16 x).toArray]++cap) ((b2,cel 180 (Z16 x))::(b,cel 280 [.func (.func g) fst.toArray cap.toArray])::H) R (.bool (p x))) :
    FnV Tryz.prog 184 [.slice a xs.length c,.func (.func g) fst.toArray cap.toArray] H R (.bool (xs.all p)):=by
 refine Z8 Tryz.func184 rfl Tryz.ntmps184 rfl ?_
 refine sqt 2 rfl (bx rfl rfl rfl (fun b3=>pur 1 rfl (sqt 5 rfl (pur 1 rfl (sp rfl (PE.makeFunc rfl rfl) rfl ?_)))))
 refine clV rfl ZgX rfl rfl (Z9f xs a c 230 [] [_] (fun x=>!p x) ZgY hl _ _ (hp:=fun x hx=>Z93 x g _ fst cap (p x) hg _ _ (hp:=fun b=>hp _ _ x hx))) ?_
 refine pur 2 rfl (Z4 ?_)
 exact rtA rfl rfl rfl ⟨by simp only [Z0c];rw [Zt],rfl,rfl⟩ drp
theorem Z9l (xs:List (Int×Int)) (a:Option Addr) (c g:Nat) (fst cap:List Value) (p:(Int×Int)→Bool) (hg:cal Tryz.prog g=true) (hl:xs.length≤9223372036854775807) (H:Z7) (R:Z5) [hR:MemRows a 2 (Z0R xs) R] (hp:∀ x,x∈xs→FnV Tryz.prog g (fst++[.agg (Z53 x).toArray]++cap) H R (.bool (p x))) :
    FnV Tryz.prog 244 [.slice a xs.length c,.func (.func g) fst.toArray cap.toArray] H R (.int .i64 (match xs.findIdx? p with | some k=>(k:Int) | none => -1)):=by
 refine Z8 Tryz.func244 rfl Tryz.ntmps244 rfl ?_
 refine sqt 1 rfl (pur 1 rfl (Z0 (sqt 3 rfl (pur 1 rfl (sp rfl (PE.lenSl Zag rfl) rfl (pur 1 rfl (Z2 ?_)))))))
 refine Zc (ι:={k:Nat // k≤xs.length∧∀ x∈xs.take k,p x=false}) (fun k=>⟨[(0,.slice a xs.length c),(1,.func (.func g) fst.toArray cap.toArray),(7,.int .i64 xs.length),(8,.int .i64 k.1)],H,R⟩) (fun k=>xs.length-k.1) ⟨0,by simp⟩ ?_ (fun k=>?_)
 exact Zi idH
 obtain ⟨k,hk,hn⟩:=k
 dsimp only
 refine sqt 1 rfl (pur 1 rfl (Z0 ?_))
 refine Z1 rfl ?_ ?_<;>intro hc0
 simp only [cS] at hc0
 obtain ⟨x,hx⟩:∃ x,xs[k]?=some x:=⟨_,List.getElem?_eq_getElem (by omega)⟩
 have hxm:=List.mem_of_getElem? hx
 refine Zp (a:=a) (sz:=2) (rows:=Z0R xs) (by cases xs<;>simp_all [Z0R]) (fun b off he=>?_)
 subst he
 refine Z3 (Z0 (Z2 (sqt 2 rfl (pur 2 rfl (sqt 6 rfl (pur 3 rfl (sp rfl (PE.indexAddr ZjU rfl rfl (by omega) (by omega)) rfl (spL rfl rfl (lfA Zfu (row:=Z53 x) (by simp [Z0R,hx]) rfl) rfl ?_))))))))
 refine Z1R rfl rfl (hg) rfl rfl (hp x hxm) ?_
 refine Z1 rfl ?_ ?_<;>intro hc1
 refine sqt 2 rfl (pur 2 rfl (Z4 ?_))
 first | (exact rtA rfl rfl rfl ⟨by rw [Zq hx hn hc1];rfl,rfl,rfl⟩ idH) | (exact rtA rfl rfl rfl ⟨by rw [Zl (by simpa using hn)];rfl,rfl,rfl⟩ idH)
 refine Z3 (sqr 2 rfl (sp rfl (PE.add rfl rfl (by omega)) rfl (pur 1 rfl ?_)))
 exact Z6 ⟨k+1,by omega,ZC hx hn hc1⟩ idH
 simp only [cS] at hc0
 obtain rfl:k=xs.length:=by omega
 refine Z9 (Za (Za (Zn (sqt 1 rfl (pur 1 rfl (Z4 ?_))))))
 first | (exact rtA rfl rfl rfl ⟨by rw [Zq hx hn hc1];rfl,rfl,rfl⟩ idH) | (exact rtA rfl rfl rfl ⟨by rw [Zl (by simpa using hn)];rfl,rfl,rfl⟩ idH)
theorem Z9c (xs:List (Int×Int)) (a:Option Addr) (c g:Nat) (fst cap:List Value) (p:(Int×Int)→Bool) (hg:cal Tryz.prog g=true) (hl:xs.length≤9223372036854775807) (H:Z7) (R:Z5) [hR:MemRows a 2 (Z0R xs) R] (hp:∀ x,x∈xs→FnV Tryz.prog g (fst++[.agg (Z53 x).toArray]++cap) H R (.bool (p x))) :
    FnV Tryz.prog 231 [.slice a xs.length c,.func (.func g) fst.toArray cap.toArray] H R (.bool (xs.any p)):=by
 refine Z8 Tryz.func231 rfl Tryz.ntmps231 rfl ?_
 refine sqt 1 rfl (pur 1 rfl (sqt 5 rfl (pur 2 rfl ?_)))
 refine clV rfl Zh9 rfl rfl (Z9l xs a c g fst cap p hg hl _ _ hp) ?_
 refine pur 2 rfl (Z4 ?_)
 exact rtA rfl rfl rfl ⟨by simp only [Z0c];exact Z03 _ _,rfl,rfl⟩ drp
theorem Z90 (x:(Int×Int)) (g bf:Nat) (fst cap:List Value) (p:Bool) (hg:cal Tryz.prog g=true) (H:Z7) (R:Z5) [hM:Mem1 bf (cel 282 [.func (.func g) fst.toArray cap.toArray]) H] (hp:∀ b,FnV Tryz.prog g (fst++[.agg (Z53 x).toArray]++cap) ((b,cel 261 (Z53 x))::H) R (.bool p)) :
    FnV Tryz.prog 232 [.agg (Z53 x).toArray,.pointer (some ⟨bf,0,none⟩)] H R (.bool !p):=by
 refine Z8 Tryz.func232 rfl Tryz.ntmps232 rfl ?_
 refine sqt 2 rfl (bx rfl rfl rfl (fun b2=>pur 1 rfl (sqt 5 rfl (spL rfl rfl (lh Zke rfl rfl) rfl (spL rfl rfl (lhA [_,_] Zfu rfl rfl rfl) rfl ?_)))))
 refine Z1R rfl rfl (hg) rfl rfl (hp _) ?_
 refine pur 2 rfl (Z4 ?_)
 exact rtA rfl rfl rfl ⟨rfl,rfl,rfl⟩ drp
theorem Z6s (xs:List (Int×Int)) (a:Option Addr) (c g:Nat) (fst cap:List Value) (p:(Int×Int)→Bool) (hg:cal Tryz.prog g=true) (hl:xs.length≤9223372036854775807) (H:Z7) (R:Z5) [hR:MemRows a 2 (Z0R xs) R] (hp:∀ b b2 x,x∈xs→FnV Tryz.prog g (fst++[.agg (Z53 x).toArray]++cap) ((b2,cel 261 (Z53 x))::(b,cel 282 [.func (.func g) fst.toArray cap.toArray])::H) R (.bool (p x))) :
    FnV Tryz.prog 190 [.slice a xs.length c,.func (.func g) fst.toArray cap.toArray] H R (.bool (xs.all p)):=by
 refine Z8 Tryz.func190 rfl Tryz.ntmps190 rfl ?_
 refine sqt 2 rfl (bx rfl rfl rfl (fun b3=>pur 1 rfl (sqt 5 rfl (pur 1 rfl (sp rfl (PE.makeFunc rfl rfl) rfl ?_)))))
 refine clV rfl ZgZ rfl rfl (Z9c xs a c 232 [] [_] (fun x=>!p x) Zh0 hl _ _ (hp:=fun x hx=>Z90 x g _ fst cap (p x) hg _ _ (hp:=fun b=>hp _ _ x hx))) ?_
 refine pur 2 rfl (Z4 ?_)
 exact rtA rfl rfl rfl ⟨by simp only [Z0c];rw [Zt],rfl,rfl⟩ drp
theorem Z1w (xs:List Int) (a:Option Addr) (c g:Nat) (fst cap:List Value) (p:Int→Bool) (hg:cal Tryz.prog g=true) (hl:xs.length≤9223372036854775807) (H:Z7) (R:Z5) [hR:MemRows a 1 (irows xs) R] (hp:∀ x,x∈xs→FnV Tryz.prog g (fst++[.int .i64 x]++cap) H R (.bool (p x))) :
    FnV Tryz.prog 147 [.slice a xs.length c,.func (.func g) fst.toArray cap.toArray] H R (.int .i64 (match xs.findIdx? p with | some k=>(k:Int) | none => -1)):=by
 refine Z8 Tryz.func147 rfl Tryz.ntmps147 rfl ?_
 refine sqt 1 rfl (pur 1 rfl (Z0 (sqt 3 rfl (pur 1 rfl (sp rfl (PE.lenSl Z0t rfl) rfl (pur 1 rfl (Z2 ?_)))))))
 refine Zc (ι:={k:Nat // k≤xs.length∧∀ x∈xs.take k,p x=false}) (fun k=>⟨[(0,.slice a xs.length c),(1,.func (.func g) fst.toArray cap.toArray),(7,.int .i64 xs.length),(8,.int .i64 k.1)],H,R⟩) (fun k=>xs.length-k.1) ⟨0,by simp⟩ ?_ (fun k=>?_)
 exact Zi idH
 obtain ⟨k,hk,hn⟩:=k
 dsimp only
 refine sqt 1 rfl (pur 1 rfl (Z0 ?_))
 refine Z1 rfl ?_ ?_<;>intro hc0
 simp only [cS] at hc0
 obtain ⟨x,hx⟩:∃ x,xs[k]?=some x:=⟨_,List.getElem?_eq_getElem (by omega)⟩
 have hxm:=List.mem_of_getElem? hx
 refine Zp (a:=a) (sz:=1) (rows:=irows xs) (by cases xs<;>simp_all [irows]) (fun b off he=>?_)
 subst he
 refine Z3 (Z0 (Z2 (sqt 2 rfl (pur 2 rfl (sqt 6 rfl (pur 3 rfl (sp rfl (PE.indexAddr Z5G rfl rfl (by omega) (by omega)) rfl (spL rfl rfl (lf0 sc3 (by simp [irows,hx];rfl) rfl) rfl ?_))))))))
 refine Z1R rfl rfl (hg) rfl rfl (hp x hxm) ?_
 refine Z1 rfl ?_ ?_<;>intro hc1
 refine sqt 2 rfl (pur 2 rfl (Z4 ?_))
 first | (exact rtA rfl rfl rfl ⟨by rw [Zq hx hn hc1];rfl,rfl,rfl⟩ idH) | (exact rtA rfl rfl rfl ⟨by rw [Zl (by simpa using hn)];rfl,rfl,rfl⟩ idH)
 refine Z3 (sqr 2 rfl (sp rfl (PE.add rfl rfl (by omega)) rfl (pur 1 rfl ?_)))
 exact Z6 ⟨k+1,by omega,ZC hx hn hc1⟩ idH
 simp only [cS] at hc0
 obtain rfl:k=xs.length:=by omega
 refine Z9 (Za (Za (Zn (sqt 1 rfl (pur 1 rfl (Z4 ?_))))))
 first | (exact rtA rfl rfl rfl ⟨by rw [Zq hx hn hc1];rfl,rfl,rfl⟩ idH) | (exact rtA rfl rfl rfl ⟨by rw [Zl (by simpa using hn)];rfl,rfl,rfl⟩ idH)
theorem Z1v (xs:List Int) (a:Option Addr) (c g:Nat) (fst cap:List Value) (p:Int→Bool) (hg:cal Tryz.prog g=true) (hl:xs.length≤9223372036854775807) (H:Z7) (R:Z5) [hR:MemRows a 1 (irows xs) R] (hp:∀ x,x∈xs→FnV Tryz.prog g (fst++[.int .i64 x]++cap) H R (.bool (p x))) :
    FnV Tryz.prog 110 [.slice a xs.length c,.func (.func g) fst.toArray cap.toArray] H R (.bool (xs.any p)):=by
 refine Z8 Tryz.func110 rfl Tryz.ntmps110 rfl ?_
 refine sqt 1 rfl (pur 1 rfl (sqt 5 rfl (pur 2 rfl ?_)))
 refine clV rfl Z5z rfl rfl (Z1w xs a c g fst cap p hg hl _ _ hp) ?_
 refine pur 2 rfl (Z4 ?_)
 exact rtA rfl rfl rfl ⟨by simp only [Z0c];exact Z03 _ _,rfl,rfl⟩ drp
theorem Z1u (x:Int) (g bf:Nat) (fst cap:List Value) (p:Bool) (hg:cal Tryz.prog g=true) (H:Z7) (R:Z5) [hM:Mem1 bf (cel 131 [.func (.func g) fst.toArray cap.toArray]) H] (hp:FnV Tryz.prog g (fst++[.int .i64 x]++cap) H R (.bool p)) :
    FnV Tryz.prog 228 [.int .i64 x,.pointer (some ⟨bf,0,none⟩)] H R (.bool !p):=by
 refine Z8 Tryz.func228 rfl Tryz.ntmps228 rfl ?_
 refine sqt 1 rfl (pur 1 rfl (sqt 5 rfl (spL rfl rfl (lh Z2M rfl rfl) rfl (pur 1 rfl ?_))))
 refine Z1R rfl rfl (hg) rfl rfl (hp) ?_
 refine pur 2 rfl (Z4 ?_)
 exact rtA rfl rfl rfl ⟨rfl,rfl,rfl⟩ drp
theorem Z0a (xs:List Int) (a:Option Addr) (c g:Nat) (fst cap:List Value) (p:Int→Bool) (hg:cal Tryz.prog g=true) (hl:xs.length≤9223372036854775807) (H:Z7) (R:Z5) [hR:MemRows a 1 (irows xs) R] (hp:∀ b x,x∈xs→FnV Tryz.prog g (fst++[.int .i64 x]++cap) ((b,cel 131 [.func (.func g) fst.toArray cap.toArray])::H) R (.bool (p x))) :
    FnV Tryz.prog 182 [.slice a xs.length c,.func (.func g) fst.toArray cap.toArray] H R (.bool (xs.all p)):=by
 refine Z8 Tryz.func182 rfl Tryz.ntmps182 rfl ?_
 refine sqt 2 rfl (bx rfl rfl rfl (fun b3=>pur 1 rfl (sqt 5 rfl (pur 1 rfl (sp rfl (PE.makeFunc rfl rfl) rfl ?_)))))
 refine clV rfl Z5y rfl rfl (Z1v xs a c 228 [] [_] (fun x=>!p x) ZgW hl _ _ (hp:=fun x hx=>Z1u x g _ fst cap (p x) hg _ _ (hp:=hp _ x hx))) ?_
 refine pur 2 rfl (Z4 ?_)
 exact rtA rfl rfl rfl ⟨by simp only [Z0c];rw [Zt],rfl,rfl⟩ drp
theorem ZiW (pa pb pc:Nat) (q:Int) (hq:0≤q∧q≤1) (H:Z7) (R:Z5) :
    FnV Tryz.prog 90 [(.agg (fls pa pb pc).toArray),.int .i64 q] H R (.bool true):=by
 refine Z8 Tryz.func90 rfl Tryz.ntmps90 rfl ?_
 refine sqt 2 rfl (bx rfl rfl rfl (fun b2=>pur 1 rfl (sqt 7 rfl (pur 1 rfl (sp rfl (PE.fA Z3y rfl) rfl (spL rfl rfl (lh Z8u rfl rfl) rfl (sp rfl (PE.lenSl Z0t rfl) rfl (sp rfl (PE.sub rfl rfl (by omega)) rfl ?_))))))))
 refine clV rfl Z3r rfl rfl (Z0z _ _ _ (by omega) _ _) ?_
 refine pur 1 rfl (Z4 ?_)
 exact rtA rfl rfl rfl ⟨rfl,rfl,rfl⟩ drp
theorem Z9r (pa pb pc:Nat) (q:Int) (hq : -1≤q∧q≤2) (H:Z7) (R:Z5) :
    FnV Tryz.prog 189 [(.agg (fls pa pb pc).toArray),.int .i64 q] H R (.bool true):=by
 refine Z8 Tryz.func189 rfl Tryz.ntmps189 rfl ?_
 refine sqt 2 rfl (bx rfl rfl rfl (fun b2=>pur 1 rfl (sqt 7 rfl (pur 1 rfl (sp rfl (PE.fA Z1z rfl) rfl (spL rfl rfl (lh Z62 rfl rfl) rfl (sp rfl (PE.lenSl Z5O rfl) rfl (sp rfl (PE.sub rfl rfl (by omega)) rfl ?_))))))))
 refine clV rfl Z3r rfl rfl (Z0z _ _ _ (by omega) _ _) ?_
 refine pur 1 rfl (Z4 ?_)
 exact rtA rfl rfl rfl ⟨rfl,rfl,rfl⟩ drp
theorem Zj1 (u v:Int) (hu:0≤u∧u≤4) (hv:0≤v∧v≤4) (a:Option Addr) (H:Z7) (R:Z5) [hR:MemRows a 1 (irows [u,v]) R] :
    FnV Tryz.prog 194 [.slice a 2 2] H R (.int .i64 (u+v)):=by
 refine Z8 Tryz.func194 rfl Tryz.ntmps194 rfl ?_
 refine sqt 1 rfl (pur 1 rfl (sqt 1 rfl (pur 1 rfl (Z0 (sqt 3 rfl (pur 1 rfl (sp rfl (PE.lenSl Z0t rfl) rfl (pur 1 rfl (Z2 ?_)))))))))
 refine Zc (ι:={k:Nat // k≤2}) (fun k=>⟨[(3,.int .i64 (([u,v].take k.1).foldl (· + ·) 0)),(6,.slice a 2 2),(7,.int .i64 2),(8,.int .i64 k.1)],H,R⟩) (fun k=>2-k.1) ⟨0,Nat.zero_le _⟩ ?_ (fun k=>?_)
 exact Zi idH
 obtain ⟨k,hk⟩:=k
 dsimp only at hk ⊢
 refine sqt 1 rfl (pur 1 rfl (Z0 ?_))
 refine Z1 rfl ?_ ?_<;>intro hc0<;>try simp only [cS] at hc0
 obtain ⟨x,hx,hxb⟩:∃ x,[u,v][k]?=some x∧0≤x∧x≤4:=by
   obtain rfl | rfl:k=0∨k=1:=by omega
   · exact ⟨u,rfl,hu⟩
   · exact ⟨v,rfl,hv⟩
 have htb:0≤([u,v].take k).foldl (· + ·) 0∧([u,v].take k).foldl (· + ·) 0≤4:=by
   obtain rfl | rfl:k=0∨k=1:=by omega
   · simp
   · simp;omega
 refine Zp (a:=a) (sz:=1) (rows:=irows [u,v]) (by simp) (fun ba oa he=>?_)
 subst he
 refine Z3 (Z0 (Z2 (sqt 3 rfl (sp rfl (PE.indexAddr Z5G rfl rfl (by omega) (by omega)) rfl (spL rfl rfl (lf0 sc3 (Z1W hx) rfl) rfl (pur 1 rfl (sqr 4 rfl (pur 2 rfl (sp rfl (PE.add rfl rfl (by omega)) rfl (pur 1 rfl (sqr 2 rfl (sp rfl (PE.add rfl rfl (by omega)) rfl (pur 1 rfl ?_)))))))))))))
 rw [show ([u,v].take k).foldl (· + ·) 0+x=([u,v].take (k+1)).foldl (· + ·) 0 by rw [List.take_add_one,hx];simp]
 exact Z6 ⟨k+1,by omega⟩ idH
 obtain rfl:k=2:=by omega
 refine Z9 (Za (Za (Zn (sqt 2 rfl (pur 2 rfl (Z4 ?_))))))
 exact rtA rfl rfl rfl ⟨by simp [Z0c],rfl,rfl⟩ drp
theorem ZkI (pa pb pc b1:Nat) (x:Int×Nat) (H:Z7) (R:Z5) [hM:Mem1 b1 (cel 119 (fls pa pb pc)) H] :
    FnV Tryz.prog 181 [.agg (Z0T x).toArray,.pointer (some ⟨b1,0,none⟩)] H R (.bool true):=by
 refine Z8 Tryz.func181 rfl Tryz.ntmps181 rfl ?_
 refine sqt 2 rfl (bx rfl rfl rfl (fun b2=>pur 1 rfl (sqt 8 rfl (sp rfl (PE.fA Z3A rfl) rfl (spL rfl rfl (lh (v:=.slice (some ⟨x.2,0,none⟩) 2 2) Z8u rfl rfl) rfl (sp rfl (PE.lenSl Z0t rfl) rfl (sp rfl (PE.fA Z3y rfl) rfl (spL rfl rfl (lh Z8u rfl rfl) rfl (sp rfl (PE.lenSl Z0t rfl) rfl (pur 2 rfl (Z4 ?_)))))))))))
 exact rtA rfl rfl rfl ⟨rfl,rfl,rfl⟩ drp
theorem ZkJ (x:Int) (hx:0≤x∧x≤4000) (H:Z7) (R:Z5) :
    FnV Tryz.prog 183 [.int .i64 x] H R (.bool true):=by
 refine Z8 Tryz.func183 rfl Tryz.ntmps183 rfl ?_
 refine sqt 1 rfl (pur 1 rfl (sqt 3 rfl (pur 1 rfl ?_)))
 refine clV rfl Z3r rfl rfl (Z0z _ _ _ (by omega) _ _) ?_
 refine pur 1 rfl (Z4 ?_)
 exact rtA rfl rfl rfl ⟨rfl,rfl,rfl⟩ drp
theorem ZkK (x:Trn) (hx:x∈trnF) (H:Z7) (R:Z5) :
    FnV Tryz.prog 185 [.agg (Z16 x).toArray] H R (.bool true):=by
 have hxo:=Z6b hx
 refine Z8 Tryz.func185 rfl Tryz.ntmps185 rfl ?_
 refine sqt 2 rfl (bx rfl rfl rfl (fun b1=>pur 1 rfl (sqt 4 rfl (sp rfl (PE.fA Z6F rfl) rfl (spL rfl rfl (lh sc3 rfl rfl) rfl ?_)))))
 refine clV rfl Z3r rfl rfl (Z0z _ _ _ (by omega) _ _) ?_
 refine pur 1 rfl (Z4 ?_)
 exact rtA rfl rfl rfl ⟨rfl,rfl,rfl⟩ drp
theorem ZiZ (x:Int) (hx:0≤x∧x≤4) (H:Z7) (R:Z5) :
    FnV Tryz.prog 187 [.int .i64 x] H R (.bool true):=by
 refine Z8 Tryz.func187 rfl Tryz.ntmps187 rfl ?_
 refine sqt 1 rfl (pur 1 rfl (sqt 3 rfl (pur 1 rfl ?_)))
 refine clV rfl Z3r rfl rfl (Z0z _ _ _ (by omega) _ _) ?_
 refine pur 1 rfl (Z4 ?_)
 exact rtA rfl rfl rfl ⟨rfl,rfl,rfl⟩ drp
theorem ZiY (x:Int×Nat) (u v:Int) (hu:0≤u∧u≤4) (hv:0≤v∧v≤4) (hx:0≤x.1∧x.1≤300) (H:Z7) (R:Z5) [hS:MemRows (some ⟨x.2,0,none⟩) 1 (irows [u,v]) R] :
    FnV Tryz.prog 186 [.agg (Z0T x).toArray] H R (.bool true):=by
 refine Z8 Tryz.func186 rfl Tryz.ntmps186 rfl ?_
 refine sqt 2 rfl (bx rfl rfl rfl (fun b1=>pur 1 rfl (sqt 9 rfl (sp rfl (PE.fA Z6D rfl) rfl (spL rfl rfl (lh sc3 rfl rfl) rfl ?_)))))
 refine clV rfl Z3r rfl rfl (Z0z _ _ _ (by omega) _ _) ?_
 refine pur 1 rfl ?_
 refine Zr 6 rfl ?_ ?_<;>intro g6
 refine spG rfl rfl rfl rfl (PE.fA Z3A rfl) rfl ?_
 refine Z0L rfl rfl rfl rfl rfl (lh (v:=.slice (some ⟨x.2,0,none⟩) 2 2) Z8u rfl rfl) rfl ?_
 refine clG rfl rfl rfl rfl Z9C rfl rfl (Z0a [u,v] (some ⟨x.2,0,none⟩) 2 187 [] [] (fun _=>true) Zgv (by simp) _ _ (fun b3 y hy=>ZiZ y (by simp only [List.mem_cons,List.not_mem_nil,or_false] at hy;rcases hy with rfl | rfl<;>assumption) _ _)) ?_
 rintro _ _ R1 ⟨rfl,rfl,hR1⟩
 obtain rfl:=hR1.symm
 clear hR1
 rw [show ([u,v].all fun _=>true)=true from rfl]
 refine pur 2 rfl (Z4 ?_)
 exact rtA rfl rfl rfl ⟨rfl,rfl,rfl⟩ drp
 exact absurd g6 (by simp)
theorem ZkL (pa pb pc b1:Nat) (x:Trn) (hx:x∈trnF) (H:Z7) (R:Z5) [hM:Mem1 b1 (cel 119 (fls pa pb pc)) H] :
    FnV Tryz.prog 188 [.agg (Z16 x).toArray,.pointer (some ⟨b1,0,none⟩)] H R (.bool true):=by
 have hxo:=Z6b hx
 refine Z8 Tryz.func188 rfl Tryz.ntmps188 rfl ?_
 refine sqt 2 rfl (bx rfl rfl rfl (fun b2=>pur 1 rfl (sqt 11 rfl (spL rfl rfl (lhA (fls pa pb pc) Z1t rfl rfl rfl) rfl (sp rfl (PE.fA Z4K rfl) rfl (spL rfl rfl (lh sc3 rfl rfl) rfl ?_))))))
 refine clV rfl ZcP rfl rfl (Z9r pa pb pc x.f (by omega) _ _) ?_
 refine pur 1 rfl ?_
 refine Zr 8 rfl ?_ ?_<;>intro g8
 refine Z0L rfl rfl rfl rfl rfl (lhA (fls pa pb pc) Z1t rfl rfl rfl) rfl ?_
 refine spG rfl rfl rfl rfl (PE.fA Z6E rfl) rfl ?_
 refine Z0L rfl rfl rfl rfl rfl (lh sc3 rfl rfl) rfl ?_
 refine Z4F rfl rfl rfl rfl ZcP rfl rfl (Z9r pa pb pc x.t (by omega) _ _) ?_
 refine pur 2 rfl (Z4 ?_)
 exact rtA rfl rfl rfl ⟨rfl,rfl,rfl⟩ drp
 exact absurd g8 (by simp)
theorem ZkM (x:Trn) (hx:x∈trnF) (H:Z7) (R:Z5) :
    FnV Tryz.prog 192 [.agg (Z16 x).toArray] H R (.bool true):=by
 have hxo:=Z6b hx
 refine Z8 Tryz.func192 rfl Tryz.ntmps192 rfl ?_
 refine sqt 2 rfl (bx rfl rfl rfl (fun b1=>pur 1 rfl (sqt 6 rfl (sp rfl (PE.fA Z4K rfl) rfl (spL rfl rfl (lh sc3 rfl rfl) rfl (sp rfl (PE.fA Z6E rfl) rfl (spL rfl rfl (lh sc3 rfl rfl) rfl (pur 2 rfl (Z4 ?_)))))))))
 exact rtA rfl rfl rfl ⟨by simp only [Z0c];congr 1;simpa using hxo.2.2.2,rfl,rfl⟩ drp
theorem Zj0 (x:Int×Nat) (u v:Int) (hu:0≤u∧u≤4) (hv:0≤v∧v≤4) (h4:u+v=4) (H:Z7) (R:Z5) [hS:MemRows (some ⟨x.2,0,none⟩) 1 (irows [u,v]) R] :
    FnV Tryz.prog 193 [.agg (Z0T x).toArray] H R (.bool true):=by
 refine Z8 Tryz.func193 rfl Tryz.ntmps193 rfl ?_
 refine sqt 2 rfl (bx rfl rfl rfl (fun b1=>pur 1 rfl (sqt 5 rfl (sp rfl (PE.fA Z3A rfl) rfl (spL rfl rfl (lh (v:=.slice (some ⟨x.2,0,none⟩) 2 2) Z8u rfl rfl) rfl ?_)))))
 refine cl rfl ZgB rfl rfl (Zj1 u v hu hv _ _ _) ?_
 rintro _ _ R1 ⟨rfl,rfl,hR1⟩
 obtain rfl:=hR1.symm
 clear hR1
 rw [h4]
 refine pur 2 rfl (Z4 ?_)
 exact rtA rfl rfl rfl ⟨rfl,rfl,rfl⟩ drp
theorem Z8A:Z1r Tryz.prog 215=some 8:=by kernel_rfl
theorem ZfA:arE Tryz.prog 215=some (8,3):=by kernel_rfl
theorem ZcK:cal Tryz.prog 128=true:=by kernel_rfl
theorem Zgi:cal Tryz.prog 162=true:=by kernel_rfl
theorem Z9B:cal Tryz.prog 180=true:=by kernel_rfl
theorem Zgr:cal Tryz.prog 181=true:=by kernel_rfl
theorem Zgs:cal Tryz.prog 183=true:=by kernel_rfl
theorem Z9D:cal Tryz.prog 184=true:=by kernel_rfl
theorem Zgt:cal Tryz.prog 185=true:=by kernel_rfl
theorem Zgu:cal Tryz.prog 186=true:=by kernel_rfl
theorem Zgw:cal Tryz.prog 188=true:=by kernel_rfl
theorem Zgx:cal Tryz.prog 190=true:=by kernel_rfl
theorem Zgy:cal Tryz.prog 191=true:=by kernel_rfl
theorem Zgz:cal Tryz.prog 192=true:=by kernel_rfl
theorem ZgA:cal Tryz.prog 193=true:=by kernel_rfl
theorem ZgC:cal Tryz.prog 195=true:=by kernel_rfl
theorem Z9M:ZF Tryz.prog 131=some 1:=by kernel_rfl
theorem Zhp:ZF Tryz.prog 178=some 2:=by kernel_rfl
theorem Zhq:ZF Tryz.prog 180=some 3:=by kernel_rfl
theorem Zhr:ZF Tryz.prog 215=some 8:=by kernel_rfl
theorem ZhH:eqB Tryz.prog 10000 215=some (true,8):=by kernel_rfl
theorem ZjV:eqB Tryz.prog 10000 3=some (false,1):=by kernel_rfl
theorem ZhK:Tryz.prog.eqGuardType Tryz.prog.depth 215=false:=by kernel_rfl
theorem Z6A:Z00 Tryz.prog 119 3=some 3:=by kernel_rfl
theorem ZeW:Z0j Tryz.prog 117=true:=by kernel_rfl
theorem Zb6:Zw Tryz.prog 131=some ([.nilFunc]):=by kernel_rfl
theorem Z8r:Zw Tryz.prog 178=some ([.int .i64 0,.slice none 0 0]):=by kernel_rfl
theorem Z8s:Zw Tryz.prog 180=some ([.int .i64 0,.int .i64 0,.int .i64 0]):=by kernel_rfl
theorem Zfn:Zw Tryz.prog 215=some ([.int .i64 0,.int .i64 0,.int .i64 0,.int .i64 0,.int .i64 0,.int .i64 0,.int .i64 0,.int .i64 0]):=by kernel_rfl
def tkq (q:Int) (k:Nat):Int:=(trnF.take k).foldl (fun s x=>bif decide (x.f=q) then s+x.n else s) 0
theorem Zfe {q:Int} {k:Nat} {x:Trn} (h:trnF[k]?=some x):tkq q (k+1)=bif decide (x.f=q) then tkq q k+x.n else tkq q k:=by
 unfold tkq;rw [List.take_add_one,h];simp [List.foldl_append]
theorem Zkp {q:Nat} (hq:q<3) {k:Nat} (hk:k≤3):0≤tkq q k∧tkq q k≤200:=(by decide:∀ q:Nat,q<3→∀ k:Nat,k<4→0≤tkq q k∧tkq q k≤200) q hq k (by omega)
theorem ZfC {pd pe pf:Nat} {k:Nat} {x:Int×Nat} (h:(ZY pd pe pf)[k]?=some x):tkq (k:Int) 3≤x.1:=by
 match k,h with
 | 0,h=>cases h;exact (by decide:tkq 0 3≤60)
 | 1,h=>cases h;exact (by decide:tkq 1 3≤30)
 | 2,h=>cases h;exact (by decide:tkq 2 3≤0)
 | k+3,h=>cases h
theorem Zks {k:Nat} (h:k<8):mkv false ((([0,0,0,0,0,0,0,0]:List Int).drop (k*1)).take 1) = .int .i64 0:=by
 obtain rfl | rfl | rfl | rfl | rfl | rfl | rfl | rfl:k=0∨k=1∨k=2∨k=3∨k=4∨k=5∨k=6∨k=7:=by omega
 all_goals rfl
def shv (q:Int) (k:Nat):Int:=bif decide (q = -1) then 0 else na (shs q.toNat) k
theorem Zik (q k:Nat):0≤na (shs q) k∧na (shs q) k≤4:=by
 match q with
 | 0=>match k with
   | 0=>decide
   | 1=>decide
   | k+2=>exact (by decide:(0:Int)≤0∧(0:Int)≤4)
 | 1=>match k with
   | 0=>decide
   | 1=>decide
   | k+2=>exact (by decide:(0:Int)≤0∧(0:Int)≤4)
 | q+2=>match k with
   | 0=>exact (by decide:(0:Int)≤0∧(0:Int)≤4)
   | 1=>exact (by decide:(0:Int)≤4∧(4:Int)≤4)
   | k+2=>exact (by decide:(0:Int)≤0∧(0:Int)≤4)
theorem Zdf (q:Int) (k:Nat):0≤shv q k∧shv q k≤4:=by
 unfold shv
 cases decide (q = -1) with
 | true=>exact (by decide:(0:Int)≤0∧(0:Int)≤4)
 | false=>exact Zik _ _
theorem ZaM (q:Nat) {k:Nat} (h:k<2):(shs q)[k]?=some (na (shs q) k):=by
 apply na_get
 match q with
 | 0=>exact h
 | 1=>exact h
 | q+2=>exact h
theorem ZdV (pa pb pc pd pe pf:Nat) (q:Nat) (hq:q<3) (H:Z7) (R:Z5) [hA:MemRows (some ⟨pa,0,none⟩) 1 (irows [400,300]) R] [hB:MemRows (some ⟨pb,0,none⟩) 2 (Z0i (ZY pd pe pf)) R] [hC:MemRows (some ⟨pc,0,none⟩) 3 (Z0u trnF) R] [hD:MemRows (some ⟨pd,0,none⟩) 1 (irows (shs 0)) R] [hE:MemRows (some ⟨pe,0,none⟩) 1 (irows (shs 1)) R] [hF:MemRows (some ⟨pf,0,none⟩) 1 (irows (shs 2)) R] [hG:MemRows none 2 (Z0R []) R] :
    FnV Tryz.prog 195 [(.agg (fls pa pb pc).toArray),.int .i64 (q:Nat)] H R (.int .i64 (tkq (q:Int) 3)):=by
 refine Z8 Tryz.func195 rfl Tryz.ntmps195 rfl ?_
 refine sqt 2 rfl (bx rfl rfl rfl (fun b2=>pur 1 rfl (sqt 1 rfl (pur 1 rfl (Z0 (sqt 4 rfl (sp rfl (PE.fA Z25 rfl) rfl (spL rfl rfl (lh Z6Y rfl rfl) rfl (sp rfl (PE.lenSl Z5P rfl) rfl (pur 1 rfl (Z2 ?_)))))))))))
 refine Zc (ι:={k:Nat // k≤3}) (fun k=>⟨[(1,.int .i64 (q:Nat)),(5,.int .i64 (tkq (q:Int) k.1)),(9,.slice (some ⟨pc,0,none⟩) 3 3),(10,.int .i64 3),(11,.int .i64 (k.1:Int))],(b2,cel 119 (fls pa pb pc))::H,R⟩) (fun k=>3-k.1) ⟨0,Nat.zero_le _⟩ ?_ (fun k=>?_)
 exact Zi idH
 obtain ⟨k,hk⟩:=k
 dsimp only at hk ⊢
 refine sqt 1 rfl (pur 1 rfl (Z0 ?_))
 refine Z1 rfl ?_ ?_<;>intro hc0<;>try simp only [cS] at hc0
 obtain ⟨x,hx⟩:∃ x,trnF[k]?=some x:=⟨_,List.getElem?_eq_getElem (show k<trnF.length from by show k<3;omega)⟩
 have htb:=Zkp hq hk
 have hxo:=Z6b (List.mem_of_getElem? hx)
 have hst:=Zfe (q:=(q:Int)) hx
 refine Zp (a:=some ⟨pc,0,none⟩) (sz:=3) (rows:=Z0u trnF) (by simp [trnF]) (fun ba oa he=>?_)
 obtain ⟨rfl,rfl⟩:pc=ba∧0=oa:=by injection he with he;injection he with h1 h2;exact ⟨h1,h2⟩
 clear he
 refine Z3 (Z0 (Z2 (sqt 4 rfl (sp rfl (PE.indexAddr Zee rfl rfl (by omega) (by omega)) rfl (spL rfl rfl (lfA Zbe (row:=Z16 x) (by simp [hx]) rfl) rfl (alc rfl Z8s rfl (fun b7=>?_)))))))
 refine sto rfl rfl rfl Zhq rfl rfl rfl rfl ?_
 refine sqt 4 rfl (sp rfl (PE.fA Z4K rfl) rfl (spL rfl rfl (lh (v:=.int .i64 x.f) sc3 rfl rfl) rfl (pur 2 rfl ?_)))
 refine Z1 rfl ?_ ?_<;>intro hc1<;>try simp only [cS] at hc1
 rw [show decide (x.f=(q:Int))=true by simpa using hc1,cond_true] at hst
 refine sqr 5 rfl (pur 1 rfl (sp rfl (PE.fA Z6F rfl) rfl (spL rfl rfl (lh (v:=.int .i64 x.n) sc3 rfl rfl) rfl (sp rfl (PE.add rfl rfl (by omega)) rfl (pur 1 rfl (sqr 2 rfl (sp rfl (PE.add rfl rfl (by omega)) rfl (pur 1 rfl ?_))))))))
 rw [← hst]
 exact Z6 ⟨k+1,by omega⟩ (fun w h=>h.del b7)
 rw [show decide (x.f=(q:Int))=false by simpa using hc1,cond_false] at hst
 refine Z3 (sqr 2 rfl (sp rfl (PE.add rfl rfl (by omega)) rfl (pur 1 rfl ?_)))
 rw [← hst]
 exact Z6 ⟨k+1,by omega⟩ (fun w h=>h.del b7)
 obtain rfl:k=3:=by omega
 refine Z9 (Za (Za (Zn (sqt 2 rfl (pur 2 rfl (Z4 ?_))))))
 exact rtA rfl rfl rfl ⟨rfl,rfl,rfl⟩ (fun w h=>h.del b2)
theorem Z4C (pa pb pc pd pe pf:Nat) (q k:Nat) (hk:k<2) (x:Int×Nat) (hx:(ZY pd pe pf)[q]?=some x) (H:Z7) (R:Z5) [hB:MemRows (some ⟨pb,0,none⟩) 2 (Z0i (ZY pd pe pf)) R] [hS:MemRows (some ⟨x.2,0,none⟩) 1 (irows (shs q)) R] :
    FnV Tryz.prog 129 [(.agg (fls pa pb pc).toArray),.int .i64 (q:Nat),.int .i64 (k:Nat)] H R (.int .i64 (na (shs q) k)):=by
 refine Z8 Tryz.func129 rfl Tryz.ntmps129 rfl ?_
 refine sqt 2 rfl (bx rfl rfl rfl (fun b3=>pur 1 rfl (Z0 (sqt 2 rfl (pur 2 rfl ?_)))))
 refine Z1 rfl ?_ ?_<;>intro hc0
 exact absurd hc0 (by simp)
 try simp only [cS] at hc0
 have hq3:q<3:=(List.getElem?_eq_some_iff.1 hx).1
 refine Z3 (sqt 10 rfl (sp rfl (PE.fA Z1z rfl) rfl (spL rfl rfl (lh Z62 rfl rfl) rfl (pur 1 rfl (sp rfl (PE.indexAddr ZbD rfl rfl (by omega) (by omega)) rfl (sp rfl (PE.fA Z3A rfl) rfl (spL rfl rfl (lf Z8u (row:=Z0T x) (x:=.slice (some ⟨x.2,0,none⟩) 2 2) (by simp [hx]) rfl) rfl (pur 1 rfl (sp rfl (PE.indexAddr Z5G rfl rfl (by omega) (by omega)) rfl (spL rfl rfl (lf0 sc3 (Z1W (ZaM q hk)) rfl) rfl (pur 1 rfl (Z4 ?_))))))))))))
 exact rtA rfl rfl rfl ⟨rfl,rfl,rfl⟩ drp
theorem Zbs (pa pb pc pd pe pf:Nat) (k:Nat) (H:Z7) (R:Z5) :
    FnV Tryz.prog 129 [(.agg (fls pa pb pc).toArray),.int .i64 (-1),.int .i64 (k:Nat)] H R (.int .i64 0):=by
 refine Z8 Tryz.func129 rfl Tryz.ntmps129 rfl ?_
 refine sqt 2 rfl (bx rfl rfl rfl (fun b3=>pur 1 rfl (Z0 (sqt 2 rfl (pur 2 rfl ?_)))))
 refine Z1 rfl ?_ ?_<;>intro hc0
 try simp only [cS] at hc0
 refine sqt 1 rfl (pur 1 rfl (Z4 ?_))
 exact rtA rfl rfl rfl ⟨rfl,rfl,rfl⟩ drp
 exact absurd hc0 (by simp)
theorem Z9u (pa pb pc pd pe pf:Nat) (q:Int) (hq : -1≤q∧q≤2) (k:Nat) (hk:k<2) (H:Z7) (R:Z5) [hA:MemRows (some ⟨pa,0,none⟩) 1 (irows [400,300]) R] [hB:MemRows (some ⟨pb,0,none⟩) 2 (Z0i (ZY pd pe pf)) R] [hC:MemRows (some ⟨pc,0,none⟩) 3 (Z0u trnF) R] [hD:MemRows (some ⟨pd,0,none⟩) 1 (irows (shs 0)) R] [hE:MemRows (some ⟨pe,0,none⟩) 1 (irows (shs 1)) R] [hF:MemRows (some ⟨pf,0,none⟩) 1 (irows (shs 2)) R] [hG:MemRows none 2 (Z0R []) R]:FnV Tryz.prog 129 [(.agg (fls pa pb pc).toArray),.int .i64 q,.int .i64 (k:Nat)] H R (.int .i64 (shv q k)):=by
 obtain rfl | rfl | rfl | rfl:q = -1∨q=0∨q=1∨q=2:=by omega
 · exact Zbs pa pb pc pd pe pf k H R
 · exact Z4C pa pb pc pd pe pf 0 k hk (60,pd) rfl H R
 · exact Z4C pa pb pc pd pe pf 1 k hk (30,pe) rfl H R
 · exact Z4C pa pb pc pd pe pf 2 k hk (0,pf) rfl H R
set_option maxHeartbeats 600000 in
theorem ZdR (pa pb pc pd pe pf:Nat) (H:Z7) (R:Z5) [hA:MemRows (some ⟨pa,0,none⟩) 1 (irows [400,300]) R] [hB:MemRows (some ⟨pb,0,none⟩) 2 (Z0i (ZY pd pe pf)) R] [hC:MemRows (some ⟨pc,0,none⟩) 3 (Z0u trnF) R] [hD:MemRows (some ⟨pd,0,none⟩) 1 (irows (shs 0)) R] [hE:MemRows (some ⟨pe,0,none⟩) 1 (irows (shs 1)) R] [hF:MemRows (some ⟨pf,0,none⟩) 1 (irows (shs 2)) R] [hG:MemRows none 2 (Z0R []) R] :
    FnV Tryz.prog 162 [(.agg (fls pa pb pc).toArray)] H R (.int .i64 0):=by
 refine Z8 Tryz.func162 rfl Tryz.ntmps162 rfl ?_
 refine sqt 2 rfl (bx rfl rfl rfl (fun b1=>pur 1 rfl (sqt 4 rfl (spL rfl rfl (lhA (fls pa pb pc) Z1t rfl rfl rfl) rfl (sp rfl (PE.makeFunc rfl rfl) rfl (alc rfl Zb6 rfl (fun b3=>?_)))))))
 refine sto rfl rfl rfl Z9M rfl rfl rfl rfl ?_
 refine Z0 (Z2 (sqt 31 rfl (sp rfl (PE.fA Z3y rfl) rfl (spL rfl rfl (lh Z8u rfl rfl) rfl (sp rfl (PE.lenSl Z0t rfl) rfl ?_)))))
 refine clV rfl Z3r rfl rfl (Z0z _ _ _ (by decide) _ _) ?_
 refine pur 2 rfl ?_
 refine Zr 14 rfl ?_ ?_<;>intro g14
 exact absurd g14 (by simp)
 refine spG rfl rfl rfl rfl (PE.fA Z1z rfl) rfl ?_
 refine Z0L rfl rfl rfl rfl rfl (lh Z62 rfl rfl) rfl ?_
 refine spG rfl rfl rfl rfl (PE.lenSl Z5O rfl) rfl ?_
 refine pur 3 rfl ?_
 refine Zr 20 rfl ?_ ?_<;>intro g20
 exact absurd g20 (by simp)
 refine spG rfl rfl rfl rfl (PE.fA Z25 rfl) rfl ?_
 refine Z0L rfl rfl rfl rfl rfl (lh Z6Y rfl rfl) rfl ?_
 refine spG rfl rfl rfl rfl (PE.lenSl Z5P rfl) rfl ?_
 refine pur 3 rfl ?_
 refine Zr 26 rfl ?_ ?_<;>intro g26
 exact absurd g26 (by simp)
 refine spG rfl rfl rfl rfl (PE.fA Z6A rfl) rfl ?_
 refine Z0L rfl rfl rfl rfl rfl (lh ZeW rfl rfl) rfl ?_
 refine spG rfl rfl rfl rfl (PE.lenSl Zag rfl) rfl ?_
 refine pur 3 rfl ?_
 refine Zr 32 rfl ?_ ?_<;>intro g32
 exact absurd g32 (by simp)
 refine spG rfl rfl rfl rfl (PE.fA Z1z rfl) rfl ?_
 refine Z0L rfl rfl rfl rfl rfl (lh Z62 rfl rfl) rfl ?_
 refine spG rfl rfl rfl rfl (PE.makeFunc rfl rfl) rfl ?_
 refine clG rfl rfl rfl rfl Z9B rfl rfl (Z21 (ZY pd pe pf) (some ⟨pb,0,none⟩) 3 181 [] [.pointer (some ⟨b1,0,none⟩)] (fun _=>true) Zgr (by simp [ZY]) _ _ (fun b3 b2 x hx=>ZkI pa pb pc b1 x _ _)) ?_
 rintro _ _ R1 ⟨rfl,rfl,hR1⟩
 obtain rfl:=hR1.symm
 clear hR1
 rw [show ((ZY pd pe pf).all fun _=>true)=true from rfl]
 refine pur 3 rfl ?_
 refine Z1 rfl ?_ ?_<;>intro hc0
 exact absurd hc0 (by simp)
 refine sqt 11 rfl (sp rfl (PE.fA Z3y rfl) rfl (spL rfl rfl (lh Z8u rfl rfl) rfl ?_))
 refine cl rfl Z9C rfl rfl (Z0a ([400,300]:List Int) (some ⟨pa,0,none⟩) 2 183 [] [] (fun _=>true) Zgs (by simp [List.length]) _ _ (fun b3 y hy=>ZkJ y (by simp only [List.mem_cons,List.not_mem_nil,or_false] at hy;rcases hy with rfl | rfl<;>decide) _ _)) ?_
 rintro _ _ R1 ⟨rfl,rfl,hR1⟩
 obtain rfl:=hR1.symm
 clear hR1
 rw [show (([400,300]:List Int).all fun _=>true)=true from rfl]
 refine pur 2 rfl ?_
 refine Zr 44 rfl ?_ ?_<;>intro g44
 exact absurd g44 (by simp)
 refine spG rfl rfl rfl rfl (PE.fA Z25 rfl) rfl ?_
 refine Z0L rfl rfl rfl rfl rfl (lh Z6Y rfl rfl) rfl ?_
 refine clG rfl rfl rfl rfl Z9D rfl rfl (Z23 (trnF) (some ⟨pc,0,none⟩) 3 185 [] [] (fun _=>true) Zgt (by simp [trnF]) _ _ (fun b3 b2 x hx=>ZkK x hx _ _)) ?_
 rintro _ _ R1 ⟨rfl,rfl,hR1⟩
 obtain rfl:=hR1.symm
 clear hR1
 rw [show ((trnF).all fun _=>true)=true from rfl]
 refine pur 3 rfl ?_
 refine Z1 rfl ?_ ?_<;>intro hc1
 exact absurd hc1 (by simp)
 refine sqt 5 rfl (sp rfl (PE.fA Z1z rfl) rfl (spL rfl rfl (lh Z62 rfl rfl) rfl ?_))
 refine cl rfl Z9B rfl rfl (Z21 (ZY pd pe pf) (some ⟨pb,0,none⟩) 3 186 [] [] (fun _=>true) Zgu (by simp [ZY]) _ _ (fun b3 b2 x hx=>by
     rcases Z5p hx with rfl | rfl | rfl
     · exact ZiY _ 4 0 (by decide) (by decide) (by decide:(0:Int)≤60∧(60:Int)≤300) _ _
     · exact ZiY _ 2 2 (by decide) (by decide) (by decide:(0:Int)≤30∧(30:Int)≤300) _ _
     · exact ZiY _ 0 4 (by decide) (by decide) (by decide:(0:Int)≤0∧(0:Int)≤300) _ _)) ?_
 rintro _ _ R1 ⟨rfl,rfl,hR1⟩
 obtain rfl:=hR1.symm
 clear hR1
 rw [show ((ZY pd pe pf).all fun _=>true)=true from rfl]
 refine pur 2 rfl ?_
 refine Z1 rfl ?_ ?_<;>intro hc2
 exact absurd hc2 (by simp)
 refine sqt 13 rfl (sp rfl (PE.fA Z25 rfl) rfl (spL rfl rfl (lh Z6Y rfl rfl) rfl (sp rfl (PE.makeFunc rfl rfl) rfl ?_)))
 refine cl rfl Z9D rfl rfl (Z23 (trnF) (some ⟨pc,0,none⟩) 3 188 [] [.pointer (some ⟨b1,0,none⟩)] (fun _=>true) Zgw (by simp [trnF]) _ _ (fun b3 b2 x hx=>ZkL pa pb pc b1 x hx _ _)) ?_
 rintro _ _ R1 ⟨rfl,rfl,hR1⟩
 obtain rfl:=hR1.symm
 clear hR1
 rw [show ((trnF).all fun _=>true)=true from rfl]
 refine pur 2 rfl ?_
 refine Zr 61 rfl ?_ ?_<;>intro g61
 exact absurd g61 (by simp)
 refine spG rfl rfl rfl rfl (PE.fA Z6A rfl) rfl ?_
 refine Z0L rfl rfl rfl rfl rfl (lh ZeW rfl rfl) rfl ?_
 refine spG rfl rfl rfl rfl (PE.makeFunc rfl rfl) rfl ?_
 refine clG rfl rfl rfl rfl Zgx rfl rfl (Z6s ([]) (none) 0 191 [] [.pointer (some ⟨b3,0,none⟩)] (fun _=>true) Zgy (by simp [List.length]) _ _ (fun b2 b4 x hx=>by cases hx)) ?_
 rintro _ _ R1 ⟨rfl,rfl,hR1⟩
 obtain rfl:=hR1.symm
 clear hR1
 rw [show (([]).all fun _=>true)=true from rfl]
 refine pur 3 rfl ?_
 refine Z1 rfl ?_ ?_<;>intro hc3
 exact absurd hc3 (by simp)
 refine sqt 5 rfl (sp rfl (PE.fA Z25 rfl) rfl (spL rfl rfl (lh Z6Y rfl rfl) rfl ?_))
 refine cl rfl Z9D rfl rfl (Z23 (trnF) (some ⟨pc,0,none⟩) 3 192 [] [] (fun _=>true) Zgz (by simp [trnF]) _ _ (fun b3 b2 x hx=>ZkM x hx _ _)) ?_
 rintro _ _ R1 ⟨rfl,rfl,hR1⟩
 obtain rfl:=hR1.symm
 clear hR1
 rw [show ((trnF).all fun _=>true)=true from rfl]
 refine pur 2 rfl ?_
 refine Z1 rfl ?_ ?_<;>intro hc4
 exact absurd hc4 (by simp)
 refine sqt 5 rfl (sp rfl (PE.fA Z1z rfl) rfl (spL rfl rfl (lh Z62 rfl rfl) rfl ?_))
 refine cl rfl Z9B rfl rfl (Z21 (ZY pd pe pf) (some ⟨pb,0,none⟩) 3 193 [] [] (fun _=>true) ZgA (by simp [ZY]) _ _ (fun b3 b2 x hx=>by
     rcases Z5p hx with rfl | rfl | rfl
     · exact Zj0 _ 4 0 (by decide) (by decide) rfl _ _
     · exact Zj0 _ 2 2 (by decide) (by decide) rfl _ _
     · exact Zj0 _ 0 4 (by decide) (by decide) rfl _ _)) ?_
 rintro _ _ R1 ⟨rfl,rfl,hR1⟩
 obtain rfl:=hR1.symm
 clear hR1
 rw [show ((ZY pd pe pf).all fun _=>true)=true from rfl]
 refine pur 2 rfl ?_
 refine Z1 rfl ?_ ?_<;>intro hc5
 exact absurd hc5 (by simp)
 refine Z3 (Z0 (sqt 4 rfl (sp rfl (PE.fA Z1z rfl) rfl (spL rfl rfl (lh Z62 rfl rfl) rfl (sp rfl (PE.lenSl Z5O rfl) rfl (pur 1 rfl (Z2 ?_)))))))
 refine Zc (ι:={k:Nat // k≤3}) (fun k=>⟨[(1,.pointer (some ⟨b1,0,none⟩)),(79,.slice (some ⟨pb,0,none⟩) 3 3),(80,.int .i64 3),(81,.int .i64 (k.1:Int))],(b1,cel 119 (fls pa pb pc))::H,R⟩) (fun k=>3-k.1) ⟨0,Nat.zero_le _⟩ ?_ (fun k=>?_)
 exact Zi (fun w h=>h.del b3)
 obtain ⟨k,hk⟩:=k
 dsimp only at hk ⊢
 refine sqt 1 rfl (pur 1 rfl (Z0 ?_))
 refine Z1 rfl ?_ ?_<;>intro hc6<;>try simp only [cS] at hc6
 obtain ⟨x,hx⟩:∃ x,(ZY pd pe pf)[k]?=some x:=⟨_,List.getElem?_eq_getElem (show k<(ZY pd pe pf).length from by show k<3;omega)⟩
 have hxo:=ZfC hx
 refine Zp (a:=some ⟨pb,0,none⟩) (sz:=2) (rows:=Z0i (ZY pd pe pf)) (by simp [ZY]) (fun ba oa he=>?_)
 obtain ⟨rfl,rfl⟩:pb=ba∧0=oa:=by injection he with he;injection he with h1 h2;exact ⟨h1,h2⟩
 clear he
 refine Z3 (Z0 (Z2 (sqt 6 rfl (pur 1 rfl (sp rfl (PE.indexAddr ZbD rfl rfl (by omega) (by omega)) rfl (spL rfl rfl (lfA Zbd (row:=Z0T x) (by simp [hx]) rfl) rfl (alc rfl Z8r rfl (fun b5=>pur 1 rfl ?_))))))))
 refine sto rfl rfl rfl Zhp rfl rfl rfl rfl ?_
 refine Z0 ?_
 refine Zd [0,0,3,0,8,31] (.ld 0 (.tk 1 (.tk 3 (.ld 4 (.big 2 (.tk 5 .done)))))) Zu (by kernel_rfl) ?_
 refine ld rfl rfl (lhA (fls pa pb pc) Z1t rfl rfl rfl) rfl (Zo 1 rfl (tk rfl (PE.fA Z6D rfl) rfl (ld rfl rfl (lh (v:=.int .i64 x.1) sc3 rfl rfl) rfl ?_)))
 refine clV rfl ZgC rfl rfl (ZdV pa pb pc pd pe pf k (by omega) _ _) ?_
 refine bg (fun w hs=>⟨(lh (v:=.int .i64 x.1) sc3 rfl rfl) w hs,trivial,trivial⟩) ?_
 refine Zo 1 rfl ?_
 refine Z1 rfl ?_ ?_<;>intro hc7
 exact absurd hc7 (by simp;omega)
 refine Z3 (sqr 2 rfl (sp rfl (PE.add rfl rfl (by omega)) rfl (pur 1 rfl ?_)))
 exact Z6 ⟨k+1,by omega⟩ (fun w h=>h.del b5)
 refine Z9 (Za (Za (Zn (sqt 1 rfl (pur 1 rfl (Z4 ?_))))))
 exact rtA rfl rfl rfl ⟨rfl,rfl,rfl⟩ (fun w h=>h.del b1)
theorem Z8N (pa pb pc:Nat) (H:Z7) (R:Z5) :
    FnV Tryz.prog 128 [(.agg (fls pa pb pc).toArray)] H R (.agg (Zj [0,0,0,0,0,0,0,0]).toArray):=by
 refine Z8 Tryz.func128 rfl Tryz.ntmps128 rfl ?_
 refine sqt 2 rfl (bx rfl rfl rfl (fun b1=>alc rfl Zfn rfl (fun b2=>sqt 1 rfl (alc rfl Zfn rfl (fun b3=>Z2 ?_)))))
 refine Zc (ι:=Unit) (fun _=>⟨[(1,.pointer (some ⟨b1,0,none⟩)),(2,.pointer (some ⟨b2,0,none⟩)),(3,.pointer (some ⟨b3,0,none⟩))],(b3,cel 215 (Zj [0,0,0,0,0,0,0,0]))::(b2,cel 215 (Zj [0,0,0,0,0,0,0,0]))::(b1,cel 119 (fls pa pb pc))::H,R⟩) (fun _=>0) () ?_ (fun _=>?_)
 exact Zi idH
 refine Z2 (sqt 3 rfl (spL rfl rfl (lhA (Zj [0,0,0,0,0,0,0,0]) Z8A rfl rfl rfl) rfl (alc rfl Zfn rfl (fun b4=>?_))))
 refine sto rfl rfl rfl Zhr rfl rfl rfl rfl ?_
 refine Z0 (sqt 4 rfl (sp rfl (PE.fA Z6A rfl) rfl (spL rfl rfl (lh ZeW rfl rfl) rfl (sp rfl (PE.lenSl Zag rfl) rfl (pur 1 rfl (Z2 ?_))))))
 refine Zc (ι:=Unit) (fun _=>⟨[(1,.pointer (some ⟨b1,0,none⟩)),(2,.pointer (some ⟨b2,0,none⟩)),(3,.pointer (some ⟨b3,0,none⟩)),(4,.pointer (some ⟨b4,0,none⟩)),(9,.slice none 0 0),(10,.int .i64 0),(11,.int .i64 0)],(b4,cel 215 (Zj [0,0,0,0,0,0,0,0]))::(b3,cel 215 (Zj [0,0,0,0,0,0,0,0]))::(b2,cel 215 (Zj [0,0,0,0,0,0,0,0]))::(b1,cel 119 (fls pa pb pc))::H,R⟩) (fun _=>0) () ?_ (fun _=>?_)
 exact Zi idH
 refine sqt 1 rfl (pur 1 rfl (Z0 ?_))
 refine Z1 rfl ?_ ?_<;>intro hc0
 exact absurd hc0 (by simp)
 try simp only [cS] at hc0
 refine Z9 (Za (Za (Zn (sqt 3 rfl (spL rfl rfl (lhA (Zj [0,0,0,0,0,0,0,0]) Z8A rfl rfl rfl) rfl (spL rfl rfl (lhA (Zj [0,0,0,0,0,0,0,0]) Z8A rfl rfl rfl) rfl (sp rfl (PE.eqlAgg [0,0,0,0,0,0,0,0] [0,0,0,0,0,0,0,0] (Z1o 10000 215 true 8 ZhH) ZhK rfl rfl rfl rfl) rfl ?_)))))))
 refine Z1 rfl ?_ ?_<;>intro hc1
 try simp only [cS] at hc1
 refine sqt 2 rfl (spL rfl rfl (lhA (Zj [0,0,0,0,0,0,0,0]) Z8A rfl rfl rfl) rfl ?_)
 refine sto rfl rfl rfl Zhr rfl rfl rfl rfl ?_
 refine Z4 ?_
 exact Zf (vs:=[_]) rfl (.cons (RV.cell rfl (lhA (Zj [0,0,0,0,0,0,0,0]) Z8A rfl rfl rfl)) .nil) rfl ⟨rfl,rfl,rfl⟩ (fun w h=>(((h.del b4).del b3).del b2).del b1)
 exact absurd hc1 (by simp)
theorem ZG (pa pb pc pd pe pf:Nat) (H:Z7) (R:Z5) [hA:MemRows (some ⟨pa,0,none⟩) 1 (irows [400,300]) R] [hB:MemRows (some ⟨pb,0,none⟩) 2 (Z0i (ZY pd pe pf)) R] [hC:MemRows (some ⟨pc,0,none⟩) 3 (Z0u trnF) R] [hD:MemRows (some ⟨pd,0,none⟩) 1 (irows (shs 0)) R] [hE:MemRows (some ⟨pe,0,none⟩) 1 (irows (shs 1)) R] [hF:MemRows (some ⟨pf,0,none⟩) 1 (irows (shs 2)) R] [hG:MemRows none 2 (Z0R []) R] :
    FnV Tryz.prog 127 [(.agg (fls pa pb pc).toArray)] H R (.int .i64 0):=by
 refine Z8 Tryz.func127 rfl Tryz.ntmps127 rfl ?_
 refine sqt 2 rfl (bx rfl rfl rfl (fun b1=>pur 1 rfl (Z0 (sqt 3 rfl (spL rfl rfl (lhA (fls pa pb pc) Z1t rfl rfl rfl) rfl ?_)))))
 refine clV rfl Zgi rfl rfl (ZdR pa pb pc pd pe pf _ _) ?_
 refine pur 1 rfl (sqt 2 rfl (pur 2 rfl ?_))
 refine Z1 rfl ?_ ?_<;>intro hc0
 exact absurd hc0 (by simp)
 refine Z3 (Z0 (sqt 3 rfl (spL rfl rfl (lhA (fls pa pb pc) Z1t rfl rfl rfl) rfl ?_)))
 refine clV rfl ZcK rfl rfl (Z8N pa pb pc _ _) ?_
 refine pur 1 rfl (Z2 ?_)
 refine Zc (ι:={k:Nat // k≤8}) (fun k=>⟨[(12,(.agg (Zj [0,0,0,0,0,0,0,0]).toArray)),(13,.int .i64 (k.1:Int))],(b1,cel 119 (fls pa pb pc))::H,R⟩) (fun k=>8-k.1) ⟨0,Nat.zero_le _⟩ ?_ (fun k=>?_)
 exact Zi idH
 obtain ⟨k,hk⟩:=k
 dsimp only at hk ⊢
 refine sqt 1 rfl (pur 1 rfl (Z0 ?_))
 refine Z1 rfl ?_ ?_<;>intro hc1<;>try simp only [cS] at hc1
 refine Z3 (Z0 (Z2 (sqt 4 rfl (pur 1 rfl ?_))))
 refine sp rfl ((PE.indexI (l:=[0,0,0,0,0,0,0,0]) (i:=k) ZfA (Z1o 10000 3 false 1 ZjV) (fun _=>rfl) rfl rfl (by omega) (by simp only [List.length_cons,List.length_nil];omega)).to (Zks (by omega))) rfl ?_
 refine pur 2 rfl (sqt 5 rfl (pur 2 rfl (sp rfl (PE.shrN (m:=0) (n:=k) rfl rfl (by omega)) rfl (sp rfl (PE.andN (m:=0>>>k) (n:=1) rfl rfl rfl (by rw [Nat.zero_shiftRight];decide) (by decide)) rfl (pur 1 rfl ?_)))))
 refine Z1 rfl ?_ ?_<;>intro hc2
 exact absurd hc2 (by simp)
 refine Z3 (sqr 2 rfl (sp rfl (PE.add rfl rfl (by omega)) rfl (pur 1 rfl ?_)))
 exact Z6 ⟨k+1,by omega⟩ idH
 refine Z9 (Za (Za (Zn (sqt 1 rfl (pur 1 rfl (Z4 ?_))))))
 exact rtA rfl rfl rfl ⟨rfl,rfl,rfl⟩ (fun w h=>h.del b1)
theorem Z6g:apT Tryz.prog 30=some (3,1,8):=by kernel_rfl
theorem Z4x:arN Tryz.prog 217=some (4,1):=by kernel_rfl
theorem Zfy:arN Tryz.prog 218=some (8,4):=by kernel_rfl
theorem Zg2:cal Tryz.prog 127=true:=by kernel_rfl
theorem ZcL:cal Tryz.prog 129=true:=by kernel_rfl
theorem cn3:ZF Tryz.prog 3=some 1:=by kernel_rfl
theorem Za8:Z00 Tryz.prog 220 2=some 12:=by kernel_rfl
theorem Z4M:Z00 Tryz.prog 220 3=some 44:=by kernel_rfl
theorem Zk5:ZM Tryz.prog 220=some [(0,4),(4,8),(12,32),(44,4)]:=by kernel_rfl
theorem Z36:slE Tryz.prog 30=some (3,1):=by kernel_rfl
theorem Zkw:Zw Tryz.prog 220=some (List.replicate 4 (.slice none 0 0)++List.replicate 44 (.int .i64 0)):=by kernel_rfl
theorem zl3:Zw Tryz.prog 3=some ([.int .i64 0]):=by kernel_rfl
def Zl4:List Int:=[0,0,0,0,0,0,0,0,0,0,0,0,0,0,0,0,0,0,0,0,0,0,0,0,0,0,0,0,0,0,0,0,0,0,0,0]
def Zd2:Nat→Int
 | 0=>60
 | 1=>30
 | _=>0
def Z2S (i:Nat):Trn:=trnF.getD i ⟨0,0,0⟩
theorem Zis {i:Nat} (h:i<3):trnF[i]?=some (Z2S i):=by
 obtain rfl | rfl | rfl:i=0∨i=1∨i=2:=by omega
 all_goals rfl
def st1 (k:Nat) (L:List Int):Nat→List Int
 | 0=>L
 | j+1=>(st1 k L j).set (32+k) (na (st1 k L j) (32+k)+Zd2 j*na (shs j) k)
def st2 (k:Nat) (L:List Int):Nat→List Int
 | 0=>L
 | i+1=>(st2 k L i).set (i*4+k) ((Z2S i).n*(shv (Z2S i).t k-shv (Z2S i).f k))
def st0:Nat→List Int
 | 0=>Zl4
 | k+1=>st2 k (st1 k (st0 k) 3) 3
theorem Z5a {k:Nat} {L:List Int} (h:L.length=36):∀ j,(st1 k L j).length=36
 | 0=>h
 | j+1=>by unfold st1;rw [List.length_set];exact Z5a h j
theorem Z75 {k:Nat} {L:List Int} (h:L.length=36):∀ j,(st2 k L j).length=36
 | 0=>h
 | j+1=>by unfold st2;rw [List.length_set];exact Z75 h j
theorem Z74:∀ k,(st0 k).length=36
 | 0=>rfl
 | k+1=>by unfold st0;exact Z75 (Z5a (Z74 k) 3) 3
theorem Zio {k j:Nat} (hk:k<2) (hj:j<3):(0≤na (st1 k (st0 k) j) (32+k)∧na (st1 k (st0 k) j) (32+k)≤10000)∧0≤Zd2 j*na (shs j) k∧Zd2 j*na (shs j) k≤10000 :=
 (by decide:∀ k:Nat,k<2→∀ j:Nat,j<3→(0≤na (st1 k (st0 k) j) (32+k)∧na (st1 k (st0 k) j) (32+k)≤10000)∧0≤Zd2 j*na (shs j) k∧Zd2 j*na (shs j) k≤10000) k hk j hj
theorem Zip {k i:Nat} (hk:k<2) (hi:i<3) : -10000≤(Z2S i).n*(shv (Z2S i).t k-shv (Z2S i).f k)∧(Z2S i).n*(shv (Z2S i).t k-shv (Z2S i).f k)≤10000 :=
 (by decide:∀ k:Nat,k<2→∀ i:Nat,i<3 → -10000≤(Z2S i).n*(shv (Z2S i).t k-shv (Z2S i).f k)∧(Z2S i).n*(shv (Z2S i).t k-shv (Z2S i).f k)≤10000) k hk i hi
def bdl (pa pb pc:Nat) (L:List Int):List Value:=fls pa pb pc++(Zj [0,0,0,0,0,0,0,0]++Zj L)
theorem ZcE {pa pb pc:Nat} {L:List Int} {q i:Nat} (hq:q<L.length) (e:i=12+q):(bdl pa pb pc L)[i]?=some (.int .i64 (na L q)):=by
 subst e
 unfold bdl
 rw [List.getElem?_append_right (by simp [fls];omega),List.getElem?_append_right (by simp [fls,Zj];omega)]
 rw [show 12+q-(fls pa pb pc).length-(Zj [0,0,0,0,0,0,0,0]).length=q by simp [fls,Zj];omega]
 exact Z1b (na_get hq)
theorem ZdC {pa pb pc:Nat} {L:List Int} {q:Nat} {v:Int} (hq:q<L.length):(bdl pa pb pc L).set (12+q) (.int .i64 v)=bdl pa pb pc (L.set q v):=by
 unfold bdl
 rw [List.set_append_right _ _ (by simp [fls];omega),List.set_append_right _ _ (by simp [fls,Zj];omega)]
 rw [show 12+q-(fls pa pb pc).length-(Zj [0,0,0,0,0,0,0,0]).length=q by simp [fls,Zj];omega]
 unfold Zj
 rw [List.map_set]
theorem Z4y (pa pb pc:Nat) (L:List Int):(bdl pa pb pc L).length=12+L.length:=by simp [bdl,fls,Zj];omega
theorem Z3N {l:List Value} {k:Nat} {v:Value} (h:k<l.length):spl l k [v]=l.set k v:=by
 simp only [spl,List.length_singleton,List.append_assoc,List.singleton_append]
 rw [List.set_eq_take_append_cons_drop,if_pos h]
theorem Z8G {pa pb pc:Nat} {L:List Int} {q i:Nat} {v:Int} (hq:q<L.length) (e:i=12+q):spl (bdl pa pb pc L) i [.int .i64 v]=bdl pa pb pc (L.set q v):=by
 subst e
 rw [Z3N (by rw [Z4y];omega),ZdC hq]
def Zd5 (s n:Nat):List Int:=((List.range n).filter fun i=>s.testBit i).map fun (i:Nat)=>(i:Int)
abbrev Z0K (s:Nat):List Int:=Zd5 s 3
theorem Z6Q:∀ s:Nat,s<8→∀ i:Nat,i<4→(Zd5 s i).length≤3∧(s>>>i=0→Zd5 s i=Z0K s):=by decide
theorem ZbU:∀ s:Nat,s<8→∀ i:Nat,i<3→(((s>>>i)&&&1)=1→Zd5 s (i+1)=Zd5 s i++[(i:Int)])∧(((s>>>i)&&&1)≠1→Zd5 s (i+1)=Zd5 s i):=by decide
theorem Zd6:∀ s:Nat,s<8→∀ x∈Z0K s,0≤x∧x≤2:=by decide
theorem sh3:∀ s:Nat,s<8→s>>>3=0:=by decide
set_option maxHeartbeats 1000000 in
theorem Z18 (pa pb pc pd pe pf:Nat) (H:Z7) (R:Z5) [hA:MemRows (some ⟨pa,0,none⟩) 1 (irows [400,300]) R] [hB:MemRows (some ⟨pb,0,none⟩) 2 (Z0i (ZY pd pe pf)) R] [hC:MemRows (some ⟨pc,0,none⟩) 3 (Z0u trnF) R] [hD:MemRows (some ⟨pd,0,none⟩) 1 (irows (shs 0)) R] [hE:MemRows (some ⟨pe,0,none⟩) 1 (irows (shs 1)) R] [hF:MemRows (some ⟨pf,0,none⟩) 1 (irows (shs 2)) R] [hG:MemRows none 2 (Z0R []) R] :
    Fn Tryz.prog 89 [(.agg (fls pa pb pc).toArray),.bool false] H R (fun v H' R'=>∃ bd,v = .tuple #[.pointer (some ⟨bd,0,none⟩),.int .i64 0]∧H'=H∧R'=RowsA (some ⟨bd,0,none⟩) 48 [bdl pa pb pc (st0 2)]::R):=by
 refine Z8 Tryz.func89 rfl Tryz.ntmps89 rfl ?_
 refine sqt 3 rfl (bx rfl rfl rfl (fun b2=>pur 2 rfl (Z0 (sqt 3 rfl (spL rfl rfl (lhA (fls pa pb pc) Z1t rfl rfl rfl) rfl ?_)))))
 refine clV rfl Zg2 rfl rfl (ZG pa pb pc pd pe pf _ _) ?_
 refine pur 1 rfl (sqt 2 rfl (pur 2 rfl ?_))
 refine Z1 rfl ?_ ?_<;>intro hc0
 exact absurd hc0 (by simp)
 refine Z3 (Z0 (sqt 1 rfl (pur 1 rfl ?_)))
 refine Z1 rfl ?_ ?_<;>intro hc1
 exact absurd hc1 (by simp)
 refine Z3 (Z0 ?_)
 refine Zd [0,0,2,7,15,31] (.ld 0 (.ld 1 (.big 2 (.tk 3 (.big 4 (.tk 5 .done)))))) Zu (by kernel_rfl) ?_
 refine ld rfl rfl (lhA (fls pa pb pc) Z1t rfl rfl rfl) rfl (ld rfl rfl (lhA (fls pa pb pc) Z1t rfl rfl rfl) rfl ?_)
 refine clV rfl ZcK rfl rfl (Z8N pa pb pc _ _) ?_
 refine bg (fun w hs=>⟨trivial,(lhA (fls pa pb pc) Z1t rfl rfl rfl) w hs,trivial⟩) ?_
 refine tk rfl (PE.build (out:=[_,_,_,_,_,_,_,_,_,_,_,_,_,_,_,_,_,_,_,_,_,_,_,_,_,_,_,_,_,_,_,_,_,_,_,_,_,_,_,_,_,_,_,_,_,_,_,_]) Zk5 Zkw rfl rfl) rfl (bx rfl rfl rfl (fun b23=>bgT (Zo 1 rfl (Z0 (sqt 4 rfl (sp rfl (PE.fA Z3y rfl) rfl (spL rfl rfl (lh Z8u rfl rfl) rfl (sp rfl (PE.lenSl Z0t rfl) rfl (pur 1 rfl (Z2 ?_))))))))))
 refine Zc (ι:={k:Nat // k≤2}) (fun k=>⟨[(2,.pointer (some ⟨b2,0,none⟩)),(7,.pointer (some ⟨b23,0,none⟩)),(26,.int .i64 2),(27,.int .i64 (k.1:Int))],(b23,cel 220 (bdl pa pb pc (st0 k.1)))::(b2,cel 119 (fls pa pb pc))::H,R⟩) (fun k=>2-k.1) ⟨0,Nat.zero_le _⟩ ?_ (fun k=>?_)
 exact Zi idH
 obtain ⟨k,hk⟩:=k
 dsimp only at hk ⊢
 refine sqt 1 rfl (pur 1 rfl (Z0 ?_))
 refine Z1 rfl ?_ ?_<;>intro hc2<;>try simp only [cS] at hc2
 have hk2:k<2:=by omega
 have hl0:=Z74 k
 refine Z3 (Z0 (Z2 (sqt 2 rfl (pur 2 rfl (Z0 (sqt 4 rfl (sp rfl (PE.fA Z1z rfl) rfl (spL rfl rfl (lh Z62 rfl rfl) rfl (sp rfl (PE.lenSl Z5O rfl) rfl (pur 1 rfl (Z2 ?_)))))))))))
 refine Zc (ι:={j:Nat // j≤3}) (fun j=>⟨[(2,.pointer (some ⟨b2,0,none⟩)),(7,.pointer (some ⟨b23,0,none⟩)),(8,.int .i64 (k:Int)),(26,.int .i64 2),(27,.int .i64 (k:Int)),(31,.slice (some ⟨pb,0,none⟩) 3 3),(32,.int .i64 3),(33,.int .i64 (j.1:Int))],(b23,cel 220 (bdl pa pb pc (st1 k (st0 k) j.1)))::(b2,cel 119 (fls pa pb pc))::H,R⟩) (fun j=>3-j.1) ⟨0,Nat.zero_le _⟩ ?_ (fun j=>?_)
 exact Zi idH
 obtain ⟨j,hj⟩:=j
 dsimp only at hj ⊢
 refine sqt 1 rfl (pur 1 rfl (Z0 ?_))
 refine Z1 rfl ?_ ?_<;>intro hc3<;>try simp only [cS] at hc3
 have hj3:j<3:=by omega
 obtain ⟨y,hy,hyM⟩:∃ y,(ZY pd pe pf)[j]?=some (Zd2 j,y)∧MemRows (some ⟨y,0,none⟩) 1 (irows (shs j)) R:=by
   obtain rfl | rfl | rfl:j=0∨j=1∨j=2:=by omega
   · exact ⟨pd,rfl,inferInstance⟩
   · exact ⟨pe,rfl,inferInstance⟩
   · exact ⟨pf,rfl,inferInstance⟩
 have hl1:=Z5a (k:=k) hl0 j
 have hbd:=Zio hk2 hj3
 refine Zp (a:=some ⟨pb,0,none⟩) (sz:=2) (rows:=Z0i (ZY pd pe pf)) (by simp [ZY]) (fun ba oa he=>?_)
 obtain ⟨rfl,rfl⟩:pb=ba∧0=oa:=by injection he with he;injection he with h1 h2;exact ⟨h1,h2⟩
 clear he
 refine Z3 (Z0 (Z2 (sqt 4 rfl (sp rfl (PE.indexAddr ZbD rfl rfl (by omega) (by omega)) rfl (spL rfl rfl (lfA Zbd (row:=Z0T (Zd2 j,y)) (by simp [hy]) rfl) rfl (alc rfl Z8r rfl (fun b10=>?_)))))))
 refine sto rfl rfl rfl Zhp rfl rfl rfl rfl ?_
 refine Zd [0,0,1,5,15,31,0,64,0,256,0,1792,3840,8128,16383,1,32769,131071,262143] (tks 0 5 (.ld 5 (.tk 6 (.ld 7 (.tk 8 (.ld 9 (.tk 10 (.tk 11 (.ld 12 (tks 13 5 (.big 18 .done))))))))))) Zu (by kernel_rfl) ?_
 refine Zo 2 rfl (tk rfl (PE.nilCheck rfl) rfl (tk rfl (PE.fA Z4M rfl) rfl (tk rfl (PE.indexArr Z4x rfl rfl (by omega) (by omega)) rfl (ld rfl rfl (lh (v:=.int .i64 (na (st1 k (st0 k) j) (32+k))) sc3 rfl (ZcE (by omega) (by show 0+44+((k:Nat):Int).toNat*1=_;omega))) rfl (tk rfl (PE.fA Z6D rfl) rfl (ld rfl rfl (lh (v:=.int .i64 (Zd2 j)) sc3 rfl rfl) rfl (tk rfl (PE.fA Z3A rfl) rfl (ld rfl rfl (lh (v:=.slice (some ⟨y,0,none⟩) 2 2) Z8u rfl rfl) rfl (Zo 1 rfl (tk rfl (PE.indexAddr Z5G rfl rfl (by omega) (by omega)) rfl (ld rfl rfl (lf0 (x:=.int .i64 (na (shs j) k)) sc3 (Z1W (ZaM j hk2)) rfl) rfl (tk rfl (PE.mul rfl rfl (by omega)) rfl (tk rfl (PE.add rfl rfl (by omega)) rfl (tk rfl (PE.nilCheck rfl) rfl (tk rfl (PE.fA Z4M rfl) rfl ?_)))))))))))))))
 refine tk rfl (PE.indexArr Z4x rfl rfl (by omega) (by omega)) rfl ?_
 refine ZU (l':=bdl pa pb pc (st1 k (st0 k) (j+1))) rfl rfl rfl cn3 rfl rfl rfl (Z8G (L:=st1 k (st0 k) j) (q:=32+k) (by omega) (by show 0+44+((k:Nat):Int).toNat*1=_;omega)) (by rw [Z4y,hl1];show 0+44+((k:Nat):Int).toNat*1+1≤48;omega) ?_
 refine bgT (sqr 2 rfl (sp rfl (PE.add rfl rfl (by omega)) rfl (pur 1 rfl ?_)))
 exact Z6 ⟨j+1,by omega⟩ (fun w h=>h.del b10)
 obtain rfl:j=3:=by omega
 have hl3:=Z5a (k:=k) hl0 3
 refine Z9 (Za (Za (Zn (sqt 4 rfl (sp rfl (PE.fA Z25 rfl) rfl (spL rfl rfl (lh Z6Y rfl rfl) rfl (sp rfl (PE.lenSl Z5P rfl) rfl (pur 1 rfl (Z2 ?_)))))))))
 refine Zc (ι:={i:Nat // i≤3}) (fun i=>⟨[(2,.pointer (some ⟨b2,0,none⟩)),(7,.pointer (some ⟨b23,0,none⟩)),(8,.int .i64 (k:Int)),(26,.int .i64 2),(27,.int .i64 (k:Int)),(57,.slice (some ⟨pc,0,none⟩) 3 3),(58,.int .i64 3),(59,.int .i64 (i.1:Int))],(b23,cel 220 (bdl pa pb pc (st2 k (st1 k (st0 k) 3) i.1)))::(b2,cel 119 (fls pa pb pc))::H,R⟩) (fun i=>3-i.1) ⟨0,Nat.zero_le _⟩ ?_ (fun i=>?_)
 exact Zi idH
 obtain ⟨i,hi⟩:=i
 dsimp only at hi ⊢
 refine sqt 1 rfl (pur 1 rfl (Z0 ?_))
 refine Z1 rfl ?_ ?_<;>intro hc4<;>try simp only [cS] at hc4
 have hi3:i<3:=by omega
 have hx:=Zis hi3
 have hxo:=Z6b (List.mem_of_getElem? hx)
 have hl2:=Z75 (k:=k) hl3 i
 have hbd:=Zip hk2 hi3
 have hb1:=Zdf (Z2S i).t k
 have hb2:=Zdf (Z2S i).f k
 refine Zp (a:=some ⟨pc,0,none⟩) (sz:=3) (rows:=Z0u trnF) (by simp [trnF]) (fun ba oa he=>?_)
 obtain ⟨rfl,rfl⟩:pc=ba∧0=oa:=by injection he with he;injection he with h1 h2;exact ⟨h1,h2⟩
 clear he
 refine Z3 (Z0 (Z2 (sqt 6 rfl (pur 1 rfl (sp rfl (PE.indexAddr Zee rfl rfl (by omega) (by omega)) rfl (spL rfl rfl (lfA Zbe (row:=Z16 (Z2S i)) (by simp [hx]) rfl) rfl (alc rfl Z8s rfl (fun b12=>pur 1 rfl ?_))))))))
 refine sto rfl rfl rfl Zhq rfl rfl rfl rfl ?_
 refine Zd [0,0,0,0,8,0,0,64,0,480,0,0,2048,0,16352,32736,65528,1,131073,393219,1048575,2097151] (tks 0 4 (.ld 4 (.ld 5 (.tk 6 (.ld 7 (.tk 8 (.ld 10 (.tk 11 (.ld 12 (.tk 13 (tks 17 3 (.big 9 (.big 14 (.tk 15 (.tk 16 (.tk 20 (.big 21 .done))))))))))))))))) Zu (by kernel_rfl) ?_
 refine Zo 3 rfl (tk rfl (PE.fA Z6F rfl) rfl (ld rfl rfl (lh (v:=.int .i64 (Z2S i).n) sc3 rfl rfl) rfl (ld rfl rfl (lhA (fls pa pb pc) Z1t rfl rfl rfl) rfl (tk rfl (PE.fA Z6E rfl) rfl (ld rfl rfl (lh (v:=.int .i64 (Z2S i).t) sc3 rfl rfl) rfl (Zo 1 rfl (ld rfl rfl (lhA (fls pa pb pc) Z1t rfl rfl rfl) rfl (tk rfl (PE.fA Z4K rfl) rfl (ld rfl rfl (lh (v:=.int .i64 (Z2S i).f) sc3 rfl rfl) rfl (Zo 1 rfl (tk rfl (PE.nilCheck rfl) rfl (tk rfl (PE.fA Za8 rfl) rfl (tk rfl (PE.indexArr Zfy rfl rfl (by omega) (by omega)) rfl ?_)))))))))))))
 refine clV rfl ZcL rfl rfl (Z9u pa pb pc pd pe pf (Z2S i).t (by omega) k hk2 _ _) ?_
 refine bg (fun w hs=>⟨(lh (v:=.int .i64 (Z2S i).f) sc3 rfl rfl) w hs,(lhA (fls pa pb pc) Z1t rfl rfl rfl) w hs,trivial,trivial,(lh (v:=.int .i64 (Z2S i).n) sc3 rfl rfl) w hs,trivial⟩) ?_
 refine clV rfl ZcL rfl rfl (Z9u pa pb pc pd pe pf (Z2S i).f (by omega) k hk2 _ _) ?_
 refine bg (fun w hs=>⟨trivial,trivial,(lh (v:=.int .i64 (Z2S i).n) sc3 rfl rfl) w hs,trivial⟩) ?_
 refine tk rfl (PE.sub rfl rfl (by omega)) rfl (tk rfl (PE.mul rfl rfl (by omega)) rfl (tk rfl (PE.indexArr Z4x rfl rfl (by omega) (by omega)) rfl ?_))
 refine ZU (l':=bdl pa pb pc (st2 k (st1 k (st0 k) 3) (i+1))) rfl rfl rfl cn3 rfl rfl rfl (Z8G (L:=st2 k (st1 k (st0 k) 3) i) (q:=i*4+k) (by omega) (by show 0+12+((i:Nat):Int).toNat*4+((k:Nat):Int).toNat*1=_;omega)) (by rw [Z4y,hl2];show 0+12+((i:Nat):Int).toNat*4+((k:Nat):Int).toNat*1+1≤48;omega) ?_
 refine bgT (sqr 2 rfl (sp rfl (PE.add rfl rfl (by omega)) rfl (pur 1 rfl ?_)))
 exact Z6 ⟨i+1,by omega⟩ (fun w h=>h.del b12)
 obtain rfl:i=3:=by omega
 refine Z9 (Za (Za (Zn (sqr 2 rfl (sp rfl (PE.add rfl rfl (by omega)) rfl (pur 1 rfl ?_))))))
 exact Z6 ⟨k+1,by omega⟩ idH
 obtain rfl:k=2:=by omega
 refine Z9 (Za (Za (Zn (sqt 3 rfl (pur 3 rfl (Z4 ?_))))))
 exact rtB rfl rfl rfl rfl ⟨b23,rfl,rfl,rfl⟩ (fun w h=>St.rows (b:=b23) (e:=220) (sz:=48) (rows:=[bdl pa pb pc (st0 2)]) (rest:=[]) (by simp only [List.flatten_cons,List.flatten_nil,List.append_nil];exact (h.del b2).pull b23) (by simp [Z4y,Z74]))
theorem Z5w (s:Nat) (hs:s<8) (H:Z7) (R:Z5) :
    Fn Tryz.prog 196 [.int .i64 (s:Nat)] H R (fun v H' R'=>∃ a9 c9,v = .slice a9 (Z0K s).length c9∧H'=H∧R'=RowsA a9 1 (irows (Z0K s))::R):=by
 refine Z8 Tryz.func196 rfl Tryz.ntmps196 rfl ?_
 refine sqt 1 rfl (pur 1 rfl (sqt 1 rfl (pur 1 rfl (Z0 (sqt 1 rfl (pur 1 rfl (Z2 ?_)))))))
 refine Zc (ι:=(x:{x:Nat // x<4})×OSl 3 1 (irows (Zd5 s x.1))) (fun x=>⟨[(0,.int .i64 (s:Nat)),(3,x.2.fs),(4,.int .i64 (x.1.1:Int))],x.2.G++H,R⟩) (fun x=>4-x.1.1) ⟨⟨0,by omega⟩,OSl.nil _ _⟩ ?_ (fun x=>?_)
 exact Zi idH
 obtain ⟨⟨i,hi⟩,o⟩:=x
 dsimp only at hi o ⊢
 have hmf:=Z6Q s hs i hi
 have hsb:s>>>i≤8:=(by decide:∀ s:Nat,s<8→∀ i:Nat,i<4→s>>>i≤8) s hs i hi
 refine Z0 (sqt 4 rfl (pur 2 rfl (sp rfl (PE.shrN (m:=s) (n:=i) rfl rfl (by omega)) rfl (pur 1 rfl ?_))))
 refine Z1 rfl ?_ ?_<;>intro hc0<;>try simp only [cS] at hc0
 have hi3:i<3:=by
   rcases Nat.lt_or_ge i 3 with e | e
   · exact e
   · obtain rfl:i=3:=by omega
     rw [sh3 s hs] at hc0;simp at hc0
 have hst:=ZbU s hs i hi3
 refine Z3 (Z0 (Z2 (sqt 5 rfl (pur 2 rfl (sp rfl (PE.shrN (m:=s) (n:=i) rfl rfl (by omega)) rfl (sp rfl (PE.andN (m:=s>>>i) (n:=1) rfl rfl rfl (by omega) (by decide)) rfl (pur 1 rfl ?_)))))))
 refine Z1 rfl ?_ ?_<;>intro hc1<;>try simp only [cS] at hc1
 generalize hz:(s>>>i)&&&1=z at hc1 hst
 refine sqr 5 rfl (pur 2 rfl ?_)
 refine bsl (out:=[_]) rfl Z36 zl3 rfl rfl rfl rfl rfl rfl (fun b18=>?_)
 refine apO (o) rfl Z6g rfl rfl (Z0l (row:=[.int .i64 (i:Int)]) rfl) rfl rfl ((by simp only [irows,List.length_map,List.length_singleton];omega)) rfl (fun o19=>?_)
 refine pur 1 rfl (sqr 3 rfl (pur 1 rfl (sp rfl (PE.add rfl rfl (by omega)) rfl (pur 1 rfl ?_))))
 exact Z6 ⟨⟨i+1,by omega⟩,o19.cast (by rw [hst.1 (by omega)];simp [irows])⟩ (fun w h=>h.del b18)
 generalize hz:(s>>>i)&&&1=z at hc1 hst
 refine Z3 (sqr 3 rfl (pur 1 rfl (sp rfl (PE.add rfl rfl (by omega)) rfl (pur 1 rfl ?_))))
 exact Z6 ⟨⟨i+1,by omega⟩,o.cast (by rw [hst.2 (by omega)])⟩ idH
 generalize hz:s>>>i=z at hc0 hmf
 have hme:=hmf.2 (by simp at hc0;omega)
 refine Z9 (Za (Za (Zn (sqt 2 rfl (pur 2 rfl (Z4 ?_))))))
 obtain ⟨a9,c9,hfe,hff⟩:=OSl.freeze (o.cast (rows':=irows (Z0K s)) (by rw [hme]))
 rw [List.length_map] at hfe
 exact rtA rfl rfl rfl ⟨a9,c9,hfe,rfl,rfl⟩ (fun w h=>hff h)
theorem Zdw:Z1r Tryz.prog 217=some 4:=by kernel_rfl
theorem ZiU:arN Tryz.prog 215=some (8,1):=by kernel_rfl
theorem Zg3:cal Tryz.prog 131=true:=by kernel_rfl
theorem Zgj:cal Tryz.prog 163=true:=by kernel_rfl
theorem Zgk:cal Tryz.prog 164=true:=by kernel_rfl
theorem Zgl:cal Tryz.prog 165=true:=by kernel_rfl
theorem ZcQ:cal Tryz.prog 196=true:=by kernel_rfl
theorem ZgD:cal Tryz.prog 197=true:=by kernel_rfl
theorem Zjz:cal Tryz.prog 89=true:=by kernel_rfl
theorem ZjA:cal Tryz.prog 90=true:=by kernel_rfl
theorem ZjB:cal Tryz.prog 91=true:=by kernel_rfl
theorem ZjJ:ZF Tryz.prog 119=some 4:=by kernel_rfl
theorem Ze6:ZF Tryz.prog 217=some 4:=by kernel_rfl
theorem Zeq:Z00 Tryz.prog 220 0=some 0:=by kernel_rfl
theorem Zer:Z00 Tryz.prog 220 1=some 4:=by kernel_rfl
theorem Zk1:ZM Tryz.prog 119=some [(0,1),(1,1),(2,1),(3,1)]:=by kernel_rfl
theorem ZeM:ZM Tryz.prog 178=some [(0,1),(1,1)]:=by kernel_rfl
theorem ZeN:ZM Tryz.prog 180=some [(0,1),(1,1),(2,1)]:=by kernel_rfl
theorem Zch:Z0j Tryz.prog 172=true:=by kernel_rfl
theorem Zki:slE Tryz.prog 115=some (178,2):=by kernel_rfl
theorem Zkj:slE Tryz.prog 116=some (180,3):=by kernel_rfl
theorem Ziw:Zw Tryz.prog 119=some ([.slice none 0 0,.slice none 0 0,.slice none 0 0,.slice none 0 0]):=by kernel_rfl
theorem Zfo:Zw Tryz.prog 217=some ([.int .i64 0,.int .i64 0,.int .i64 0,.int .i64 0]):=by kernel_rfl
def Z5J:List Int:=[-80,80,0,0,-60,60,0,0,160,0,0,0,0,0,0,0,0,0,0,0,0,0,0,0,0,0,0,0,0,0,0,0,300,60,0,0]
theorem ZhQ:st0 2=Z5J:=by decide
theorem ZkP {P:Program} {ops:Array Oper} {n:Nat} {L:Zk} {D:List Deferred} {H:Z7} {R:Z5} {K:Act→World→Prop} {i d:Nat} {ty:TypeId} {pos:String} {af:Array Edge} {l:Nat} {c:Operand} {xs:List Operand} {vs:List Value} {ts:Array TypeId} {Q:Value→Z7→Z5→Prop} {j t:Nat} {b:Bool} {oj:Oper}
   (ho:ops[i]?=some ⟨some d,.call { callee:=.value c,args:=xs.toArray,argTypes:=ts },ty,pos,af,some (j,b)⟩) (hj:ops[j]?=some oj) (ht:oj.dst=some t) (hb:lk L t=some (.bool b)) (hcv:ev L c=some (yv l)) (hd:Nat.blt d n=true) (hx:evs L xs=some vs)
   (hc:Yd P l vs H R Q) (h:∀ v H' R',Q v H' R'→Sy n ((d,v)::L) D H' R' K):Sy n L D H R (stp P none ops i K):=fun a w ha hD hs=>by
 obtain ⟨f,tm,asg,bo,h1,h2⟩:=hc w hs
 have hw:Region.wanted ⟨some d,.call { callee:=.value c,args:=xs.toArray,argTypes:=ts },ty,pos,af,some (j,b)⟩ (yielded ops a.tmps)=true:=by simp [Region.wanted,ZS ha hj ht hb]
 unfold stp
 rw [ho]
 simp only [hw,if_true,Oper.wpIn,Z1G,Z0h (Z35 ha.reads hcv hx h1) (by simp),Oper.uponIn]
 refine ⟨fun _ _=>Z2y _ _,by simp [Z3c],RoundIn.mono h2 fun e w' he=>?_⟩
 obtain ⟨v,H',R',q,rfl,hs'⟩:=he
 exact h v H' R' q _ _ (ha.put (by simpa using hd) v) hD hs'
theorem Zbi {pa pb pc:Nat} {L:List Int} {q i:Nat} (hq:q<8) (e:i=4+q):(bdl pa pb pc L)[i]?=some (.int .i64 0):=by
 subst e
 obtain rfl | rfl | rfl | rfl | rfl | rfl | rfl | rfl:q=0∨q=1∨q=2∨q=3∨q=4∨q=5∨q=6∨q=7:=by omega
 all_goals rfl
theorem Z8F {pa pb pc:Nat}:(bdl pa pb pc Z5J).drop (0+44)=Zj [300,60,0,0]++[]:=rfl
def ld1 (m:Nat) (F:List Int):Nat→List Int
 | 0=>F
 | k+1=>(ld1 m F k).set k (na (ld1 m F k) k+na Z5J (m*4+k))
def ld0 (s:Nat):Nat→List Int
 | 0=>[300,60,0,0]
 | i+1=>ld1 (na (Z0K s) i).toNat (ld0 s i) 4
theorem Z6N {m:Nat} {F:List Int} (h:F.length=4):∀ k,(ld1 m F k).length=4
 | 0=>h
 | k+1=>by unfold ld1;rw [List.length_set];exact Z6N h k
theorem Z4S (s:Nat):∀ i,(ld0 s i).length=4
 | 0=>rfl
 | i+1=>by unfold ld0;exact Z6N (Z4S s i) 4
theorem ZjZ {s i k:Nat} (hs:s<8) (hi:i<3) (hk:k<4):(-10000≤na (ld1 (na (Z0K s) i).toNat (ld0 s i) k) k∧na (ld1 (na (Z0K s) i).toNat (ld0 s i) k) k≤10000) ∧ -10000≤na Z5J ((na (Z0K s) i).toNat*4+k)∧na Z5J ((na (Z0K s) i).toNat*4+k)≤10000 :=
 (by decide:∀ s:Nat,s<8→∀ i:Nat,i<3→∀ k:Nat,k<4→(-10000≤na (ld1 (na (Z0K s) i).toNat (ld0 s i) k) k∧na (ld1 (na (Z0K s) i).toNat (ld0 s i) k) k≤10000) ∧ -10000≤na Z5J ((na (Z0K s) i).toNat*4+k)∧na Z5J ((na (Z0K s) i).toNat*4+k)≤10000) s hs i hi k hk
def ldF (s:Nat):List Int:=ld0 s (Z0K s).length
theorem ZbM {l:List Int} {i k:Nat} {v:Int} (hk:k<l.length) (e:i=k):spl (Zj l) i [.int .i64 v]=Zj (l.set k v):=by
 subst e
 rw [Z3N (by rw [Zb];exact hk)]
 unfold Zj
 rw [List.map_set]
theorem ZaN {l vs:List Value} (h:l.length=vs.length):spl l 0 vs=vs:=by unfold spl;rw [List.take_zero,List.nil_append,List.drop_eq_nil_of_le (by omega),List.append_nil]
def hv:Nat→Nat×Int
 | 0=>(0,300)
 | s+1=>bif decide ((hv s).2<na (ldF s) 0) then (s,na (ldF s) 0) else hv s
theorem ZhU:hv 8=(4,460):=by decide
theorem St.noR {sz:Nat} {H:Z7} {R:Z5} {w:World} (h:St H R w):St H (RowsA none sz []::R) w:=h.also fun w' _ i row hi=>by simp at hi
theorem Z9s (pa pb pc pd pe pf:Nat) (H:Z7) (R:Z5) [hA:MemRows (some ⟨pa,0,none⟩) 1 (irows [400,300]) R] [hB:MemRows (some ⟨pb,0,none⟩) 2 (Z0i (ZY pd pe pf)) R] [hC:MemRows (some ⟨pc,0,none⟩) 3 (Z0u trnF) R] [hD:MemRows (some ⟨pd,0,none⟩) 1 (irows (shs 0)) R] [hE:MemRows (some ⟨pe,0,none⟩) 1 (irows (shs 1)) R] [hF:MemRows (some ⟨pf,0,none⟩) 1 (irows (shs 2)) R] [hG:MemRows none 2 (Z0R []) R]:Fn Tryz.prog 89 [(.agg (fls pa pb pc).toArray),.bool false] H R (fun v H' R'=>∃ xq,v = .tuple #[.pointer (some ⟨xq,0,none⟩),.int .i64 0]∧H'=H∧R'=RowsA (some ⟨xq,0,none⟩) 48 [bdl pa pb pc Z5J]::R):=by
 have h:=Z18 pa pb pc pd pe pf H R
 rwa [ZhQ] at h
theorem Zj2 (pa pb pc xq:Nat) (b2 b3 s:Nat) (x:Int) (hx:0≤x∧x≤2) (hs:s<8) (H:Z7) (R:Z5) [hK:MemRows (some ⟨xq,0,none⟩) 48 [bdl pa pb pc Z5J] R] [hM:Mem1 b2 (cel 172 [.pointer (some ⟨xq,0,none⟩)]) H] [hN:Mem1 b3 (cel 3 [.int .i64 (s:Nat)]) H] :
    FnV Tryz.prog 197 [.int .i64 x,.pointer (some ⟨b2,0,none⟩),.pointer (some ⟨b3,0,none⟩)] H R (.bool true):=by
 refine Z8 Tryz.func197 rfl Tryz.ntmps197 rfl ?_
 refine sqt 1 rfl (pur 1 rfl (Z0 ?_))
 refine Zd [0,0,1,5,15,31,0,127,255,511] (.ld 0 (tks 1 4 (.ld 5 (.ld 6 (tks 7 3 .done))))) Zu (by kernel_rfl) ?_
 refine ld rfl rfl (lh Zch rfl rfl) rfl (Zo 1 rfl (tk rfl (PE.nilCheck rfl) rfl (tk rfl (PE.fA Zer rfl) rfl (tk rfl (PE.indexArr ZiU rfl rfl (by omega) (by omega)) rfl (ld rfl rfl (lfB (sz:=48) (x:=.int .i64 0) sc3 (Zbi (q:=x.toNat) (by omega) (by omega))) rfl (ld rfl rfl (lh sc3 rfl rfl) rfl (tk rfl (PE.andNotN (m:=0) (n:=s) rfl rfl (by decide) (by omega)) rfl (Zo 2 rfl (Z4 ?_)))))))))
 exact rtA rfl rfl rfl ⟨by simp [Z0c],rfl,rfl⟩ drp
theorem ZdW (pa pb pc xq:Nat) (s:Nat) (hs:s<8) (H:Z7) (R:Z5) [hK:MemRows (some ⟨xq,0,none⟩) 48 [bdl pa pb pc Z5J] R] :
    FnV Tryz.prog 164 [.pointer (some ⟨xq,0,none⟩),.int .i64 (s:Nat)] H R (.bool true):=by
 refine Z8 Tryz.func164 rfl Tryz.ntmps164 rfl ?_
 refine sqt 3 rfl (bx rfl rfl rfl (fun b2=>bx rfl rfl rfl (fun b3=>pur 1 rfl (sqt 5 rfl (spL rfl rfl (lh sc3 rfl rfl) rfl ?_)))))
 refine cl rfl ZcQ rfl rfl (Z5w s hs _ _) ?_
 rintro _ _ _ ⟨a9,c9,rfl,rfl,rfl⟩
 refine sp rfl (PE.makeFunc rfl rfl) rfl ?_
 refine cl rfl Z9C rfl rfl (Z0a (Z0K s) a9 c9 197 [] [.pointer (some ⟨b2,0,none⟩),.pointer (some ⟨b3,0,none⟩)] (fun _=>true) ZgD (by have:=Z6Q s hs 3 (by decide);have h9:(Z0K s).length≤3:=this.1;omega) _ _ (fun b4 y hy=>Zj2 pa pb pc xq b2 b3 s y (Zd6 s hs y hy) hs _ _)) ?_
 rintro _ _ R1 ⟨rfl,rfl,hR1⟩
 obtain rfl:=hR1.symm
 clear hR1
 rw [show ((Z0K s).all fun _=>true)=true by simp]
 refine pur 1 rfl (Z4 ?_)
 exact rtA rfl rfl rfl ⟨rfl,rfl,rfl⟩ (fun w h=>St.sub ((h.del b3).del b2))
set_option maxHeartbeats 600000 in
theorem ZfO (pa pb pc xq:Nat) (s:Nat) (hs:s<8) (H:Z7) (R:Z5) [hK:MemRows (some ⟨xq,0,none⟩) 48 [bdl pa pb pc Z5J] R] :
    FnV Tryz.prog 165 [.pointer (some ⟨xq,0,none⟩),.int .i64 (s:Nat)] H R (.agg (Zj (ldF s)).toArray):=by
 refine Z8 Tryz.func165 rfl Tryz.ntmps165 rfl ?_
 refine sqt 1 rfl (alc rfl Zfo rfl (fun b4=>sqt 6 rfl (pur 1 rfl (sp rfl (PE.nilCheck rfl) rfl (sp rfl (PE.fA Z4M rfl) rfl (spL rfl rfl (ZiF (sz:=48) (row:=bdl pa pb pc Z5J) (rest:=[]) (Zj [300,60,0,0]) Zdw Z8F rfl) rfl (alc rfl Zfo rfl (fun b5=>?_))))))))
 refine sto rfl rfl rfl Ze6 rfl rfl rfl rfl ?_
 refine Z0 (sqt 4 rfl (pur 1 rfl ?_))
 refine cl rfl ZcQ rfl rfl (Z5w s hs _ _) ?_
 rintro _ _ _ ⟨a9,c9,rfl,rfl,rfl⟩
 have hm3:(Z0K s).length≤3:=(Z6Q s hs 3 (by decide)).1
 refine sp rfl (PE.lenSl Z0t rfl) rfl (pur 1 rfl (Z2 ?_))
 refine Zc (ι:={i:Nat // i≤(Z0K s).length}) (fun i=>⟨[(0,.pointer (some ⟨xq,0,none⟩)),(4,.pointer (some ⟨b4,0,none⟩)),(5,.pointer (some ⟨b5,0,none⟩)),(14,.slice a9 (Z0K s).length c9),(15,.int .i64 ((Z0K s).length:Nat)),(16,.int .i64 (i.1:Int))],(b5,cel 217 (Zj (ld0 s i.1)))::(b4,cel 217 (Zj [0,0,0,0]))::H,RowsA a9 1 (irows (Z0K s))::R⟩) (fun i=>(Z0K s).length-i.1) ⟨0,Nat.zero_le _⟩ ?_ (fun i=>?_)
 exact Zi idH
 obtain ⟨i,hi⟩:=i
 dsimp only at hi ⊢
 refine sqt 1 rfl (pur 1 rfl (Z0 ?_))
 refine Z1 rfl ?_ ?_<;>intro hc0<;>try simp only [cS] at hc0
 have hi3:i<(Z0K s).length:=by omega
 have hl0:=Z4S s i
 have hx:=na_get hi3
 have hxo:=Zd6 s hs _ (List.mem_of_getElem? hx)
 refine Zp (a:=a9) (sz:=1) (rows:=irows (Z0K s)) (ne0 (by rw [irl];omega)) (fun ba oa he=>?_)
 subst he
 refine Z3 (Z0 (Z2 (sqt 3 rfl (sp rfl (PE.indexAddr Z5G rfl rfl (by omega) (by omega)) rfl (spL rfl rfl (lf0 sc3 (Z1W hx) rfl) rfl (pur 1 rfl (sqt 1 rfl (pur 1 rfl (Z2 ?_)))))))))
 refine Zc (ι:={k:Nat // k≤4}) (fun k=>⟨[(0,.pointer (some ⟨xq,0,none⟩)),(4,.pointer (some ⟨b4,0,none⟩)),(5,.pointer (some ⟨b5,0,none⟩)),(7,.int .i64 (na (Z0K s) i)),(14,.slice (some ⟨ba,oa,none⟩) (Z0K s).length c9),(15,.int .i64 ((Z0K s).length:Nat)),(16,.int .i64 (i:Int)),(20,.int .i64 (k.1:Int))],(b5,cel 217 (Zj (ld1 (na (Z0K s) i).toNat (ld0 s i) k.1)))::(b4,cel 217 (Zj [0,0,0,0]))::H,RowsA (some ⟨ba,oa,none⟩) 1 (irows (Z0K s))::R⟩) (fun k=>4-k.1) ⟨0,Nat.zero_le _⟩ ?_ (fun k=>?_)
 exact Zi idH
 obtain ⟨k,hk⟩:=k
 dsimp only at hk ⊢
 refine sqt 1 rfl (pur 1 rfl (Z0 ?_))
 refine Z1 rfl ?_ ?_<;>intro hc1<;>try simp only [cS] at hc1
 have hk4:k<4:=by omega
 have hl1:=Z6N (m:=(na (Z0K s) i).toNat) hl0 k
 have hbd:=ZjZ hs (show i<3 by omega) hk4
 refine Z3 (Z0 (Z2 (sqt 2 rfl (pur 2 rfl ?_))))
 refine Zd [0,1,3,0,0,0,8,72,216,504,1016,2047,4095,8191] (.tk 0 (.tk 1 (.ld 2 (tks 3 7 (.ld 10 (.tk 11 (.tk 12 (.big 13 .done)))))))) Zu (by kernel_rfl) ?_
 refine Zo 1 rfl (tk rfl (PE.indexArr Z4x rfl rfl (by omega) (by omega)) rfl (ld rfl rfl (lh (v:=.int .i64 (na (ld1 (na (Z0K s) i).toNat (ld0 s i) k) k)) sc3 rfl (Z0O (by omega) (by show 0+((k:Nat):Int).toNat*1=k;omega))) rfl (Zo 3 rfl (tk rfl (PE.nilCheck rfl) rfl (tk rfl (PE.fA Za8 rfl) rfl (tk rfl (PE.indexArr Zfy rfl rfl (by omega) (by omega)) rfl (tk rfl (PE.indexArr Z4x rfl rfl (by omega) (by omega)) rfl (ld rfl rfl (lfB (sz:=48) (x:=.int .i64 (na Z5J ((na (Z0K s) i).toNat*4+k))) sc3 (ZcE (by show _<36;omega) (by show 0+12+(na (Z0K s) i).toNat*4+((k:Nat):Int).toNat*1=_;omega))) rfl (tk rfl (PE.add rfl rfl (by omega)) rfl (tk rfl (PE.indexArr Z4x rfl rfl (by omega) (by omega)) rfl ?_))))))))))
 refine ZU (l':=Zj (ld1 (na (Z0K s) i).toNat (ld0 s i) (k+1))) rfl rfl rfl cn3 rfl rfl rfl (ZbM (l:=ld1 (na (Z0K s) i).toNat (ld0 s i) k) (by omega) (by show 0+((k:Nat):Int).toNat*1=k;omega)) (by rw [Zb,hl1];show 0+((k:Nat):Int).toNat*1+1≤4;omega) ?_
 refine bgT (sqr 2 rfl (sp rfl (PE.add rfl rfl (by omega)) rfl (pur 1 rfl ?_)))
 exact Z6 ⟨k+1,by omega⟩ idH
 obtain rfl:k=4:=by omega
 refine Z9 (Za (Za (Zn (sqr 2 rfl (sp rfl (PE.add rfl rfl (by omega)) rfl (pur 1 rfl ?_))))))
 exact Z6 ⟨i+1,by omega⟩ idH
 obtain rfl:i=(Z0K s).length:=by omega
 have hl0:=Z4S s (Z0K s).length
 refine Z9 (Za (Za (Zn (sqt 2 rfl (spL rfl rfl (lhA (Zj (ldF s)) Zdw rfl (by unfold ldF;simp;rfl) (by rw [Zb];exact hl0)) rfl ?_)))))
 refine ZU (l':=Zj (ldF s)) rfl rfl rfl Ze6 rfl (by show (Zj (ldF s)).length=4;rw [Zb];exact hl0) (Z0f _) (ZaN (by show 4=(Zj (ldF s)).length;rw [Zb];exact hl0.symm)) (by show 0+(Zj (ldF s)).length≤4;rw [Zb,show (ldF s).length=4 from hl0];decide) ?_
 refine Z4 ?_
 exact Zf (vs:=[_]) rfl (.cons (RV.cell rfl (lhA (Zj (ldF s)) Zdw rfl (by unfold ldF;simp;rfl) (by rw [Zb];exact hl0))) .nil) rfl ⟨rfl,rfl,rfl⟩ (fun w h=>St.sub ((h.del b5).del b4))
theorem ZfQ (xq:Nat) (H:Z7) (R:Z5) :
    Fn Tryz.prog 131 [.pointer (some ⟨xq,0,none⟩)] H R (fun v H' R'=>∃ xb,v = .func (.func 163) #[] #[.pointer (some ⟨xb,0,none⟩)]∧H'=H∧R'=RowsA (some ⟨xb,0,none⟩) 1 [[.pointer (some ⟨xq,0,none⟩)]]::R):=by
 refine Z8 Tryz.func131 rfl Tryz.ntmps131 rfl ?_
 refine sqt 2 rfl (bx rfl rfl rfl (fun b1=>pur 1 rfl (sqt 2 rfl (sp rfl (PE.makeFunc rfl rfl) rfl (pur 1 rfl (Z4 ?_))))))
 refine Sy.heap (fun w h=>St.rows (sz:=1) (rows:=[[.pointer (some ⟨xq,0,none⟩)]]) (rest:=[]) (h.pull b1) (by simp)) ?_
 exact rtA rfl rfl rfl ⟨b1,rfl,rfl,rfl⟩ idH
set_option maxHeartbeats 400000 in
theorem ZdS (pa pb pc xq:Nat) (xb lp:Nat) (I:Nat→Z7→Z5→Prop) (hI:∀ k H R,I k H R→RowsA (some ⟨xb,0,none⟩) 1 [[.pointer (some ⟨xq,0,none⟩)]]∈R∧RowsA (some ⟨xq,0,none⟩) 48 [bdl pa pb pc Z5J]∈R)
    (hy:∀ s H R,s<8→I s H R→Yd Tryz.prog lp [.int .i64 (s:Int),(.agg (Zj (ldF s)).toArray)] H R (fun v H' R'=>v = .bool true∧I (s+1) H' R')) (H:Z7) (R:Z5) (h0:I 0 H R) :
    Fn Tryz.prog 163 [yv lp,.pointer (some ⟨xb,0,none⟩)] H R (fun _ H' R'=>I 8 H' R'):=by
 haveI:MemRows (some ⟨xb,0,none⟩) 1 [[.pointer (some ⟨xq,0,none⟩)]] R:=⟨(hI _ _ _ h0).1⟩
 haveI:MemRows (some ⟨xq,0,none⟩) 48 [bdl pa pb pc Z5J] R:=⟨(hI _ _ _ h0).2⟩
 refine Z8 Tryz.func163 rfl Tryz.ntmps163 rfl ?_
 refine sqt 8 rfl (spL rfl rfl (lfB (sz:=1) Zch rfl) rfl (sp rfl (PE.nilCheck rfl) rfl (sp rfl (PE.fA Zeq rfl) rfl (sp rfl (PE.fA Z25 rfl) rfl (spL rfl rfl (lfB (sz:=48) Z6Y rfl) rfl (sp rfl (PE.lenSl Z5P rfl) rfl ?_))))))
 refine sp rfl ((PE.shlN (m:=1) (n:=3) rfl rfl rfl (by decide) (by decide)).to (show Value.int .i64 ((1*2 ^ 3:Nat):Int) = .int .i64 8 from rfl)) rfl ?_
 refine pur 1 rfl (Z2 ?_)
 refine Zc (ι:={x:Nat×Z7×Z5 // x.1≤8∧I x.1 x.2.1 x.2.2}) (fun x=>⟨[(0,yv lp),(1,.pointer (some ⟨xb,0,none⟩)),(10,.int .i64 8),(11,.int .i64 (x.1.1:Int))],x.1.2.1,x.1.2.2⟩) (fun x=>8-x.1.1) ⟨(0,H,R),Nat.zero_le _,h0⟩ ?_ (fun x=>?_)
 exact Zi idH
 obtain ⟨⟨s,H0,Q0⟩,hj,hI0⟩:=x
 dsimp only at hj hI0 ⊢
 haveI:MemRows (some ⟨xb,0,none⟩) 1 [[.pointer (some ⟨xq,0,none⟩)]] Q0:=⟨(hI _ _ _ hI0).1⟩
 haveI:MemRows (some ⟨xq,0,none⟩) 48 [bdl pa pb pc Z5J] Q0:=⟨(hI _ _ _ hI0).2⟩
 refine sqt 1 rfl (pur 1 rfl (Z0 ?_))
 refine Z1 rfl ?_ ?_<;>intro hc0<;>try simp only [cS] at hc0
 have hs:s<8:=by omega
 have hyy:=hy _ _ _ hs hI0
 refine Z3 (Z0 (Z2 (sqt 2 rfl (pur 2 rfl (sqt 12 rfl (spL rfl rfl (lfB (sz:=1) Zch rfl) rfl (pur 1 rfl ?_)))))))
 refine clV rfl Zgk rfl rfl (ZdW pa pb pc xq s hs _ _) ?_
 refine pur 1 rfl ?_
 refine Zr 17 rfl ?_ ?_<;>intro g17
 refine pur 2 rfl (Z0L rfl rfl rfl rfl rfl (lfB (sz:=1) Zch rfl) rfl (pur 1 rfl ?_))
 refine Z4F rfl rfl rfl rfl Zgl rfl rfl (ZfO pa pb pc xq s hs _ _) ?_
 refine ZkP rfl rfl rfl rfl rfl rfl rfl (hyy) ?_
 rintro v H3 R3 ⟨rfl,hI3⟩
 refine pur 2 rfl ?_
 refine ZE rfl ?_
 refine Z3 (sqr 2 rfl (sp rfl (PE.add rfl rfl (by omega)) rfl (pur 1 rfl ?_)))
 exact Z6 ⟨(s+1,H3,R3),by dsimp only;omega,hI3⟩ idH
 exact absurd g17 (by simp)
 obtain rfl:s=8:=by omega
 refine Z9 (Za (Za (Zn ?_)))
 exact Z0W (vs:=[]) rfl .nil rfl hI0 idH
set_option maxHeartbeats 600000 in
theorem Z7X (pa pb pc xq:Nat) (H:Z7) (R:Z5) [hK:MemRows (some ⟨xq,0,none⟩) 48 [bdl pa pb pc Z5J] R] :
    FnV Tryz.prog 91 [.pointer (some ⟨xq,0,none⟩),.int .i64 0] H R (.tuple #[.int .i64 4,.int .i64 460]):=by
 refine Z1V Tryz.func91 rfl Tryz.ntmps91 rfl ?_
 refine sqt 3 rfl (bx rfl rfl rfl (fun b3=>pur 2 rfl (Z0 ?_)))
 refine Z2u (ι:=Nat×Nat) (fun y=>⟨[(0,.pointer (some ⟨xq,0,none⟩)),(3,.pointer (some ⟨b3,0,none⟩)),(6,.pointer (some ⟨y.1,0,none⟩)),(7,.pointer (some ⟨y.2,0,none⟩))],(y.1,cel 3 [.int .i64 ((hv 0).1:Nat)])::(y.2,cel 3 [.int .i64 (hv 0).2])::(b3,cel 3 [.int .i64 0])::H,R⟩) ?_ ?_
 refine Zd [0,0,1,5,15,31,0,0,192,511] (.tk 0 (.ld 1 (tks 2 3 (.ld 5 (.any (.alt 6 (.big 7 (.big 8 (.big 9 .done))) (.alt 7 (.big 6 (.big 8 (.big 9 .done))) .stop))))))) Zu (by kernel_rfl) ?_
 refine Zo 1 rfl (ld rfl rfl (lh sc3 rfl rfl) rfl (tk rfl (PE.nilCheck rfl) rfl (tk rfl (PE.fA Z4M rfl) rfl (tk rfl (PE.indexArr Z4x rfl rfl (by omega) (by omega)) rfl (ld rfl rfl (lfB (sz:=48) (x:=.int .i64 300) sc3 rfl) rfl ?_)))))
 refine Zm ?_ ?_
 refine alc rfl zl3 rfl (fun b6=>?_)
 refine bg (fun w hs=>⟨(lfB (sz:=48) (x:=.int .i64 300) sc3 rfl) w hs,(lh sc3 rfl rfl) w hs,trivial⟩) ?_
 refine alc rfl zl3 rfl (fun b7=>?_)
 refine bg (fun w hs=>⟨(lfB (sz:=48) (x:=.int .i64 300) sc3 rfl) w hs,(lh sc3 rfl rfl) w hs,trivial⟩) ?_
 refine sto rfl rfl rfl cn3 rfl rfl rfl rfl ?_
 refine bg (fun w hs=>⟨(lfB (sz:=48) (x:=.int .i64 300) sc3 rfl) w hs,(lh sc3 rfl rfl) w hs,trivial⟩) ?_
 refine sto rfl rfl rfl cn3 rfl rfl rfl rfl ?_
 refine bgT ?_
 exact Zh (b6,b7) (fun w h=>(h.pull b7).pull b6)
 refine Zm ?_ ?_
 refine alc rfl zl3 rfl (fun b7=>?_)
 refine bg (fun w hs=>⟨(lfB (sz:=48) (x:=.int .i64 300) sc3 rfl) w hs,(lh sc3 rfl rfl) w hs,trivial⟩) ?_
 refine alc rfl zl3 rfl (fun b6=>?_)
 refine bg (fun w hs=>⟨(lfB (sz:=48) (x:=.int .i64 300) sc3 rfl) w hs,(lh sc3 rfl rfl) w hs,trivial⟩) ?_
 refine sto rfl rfl rfl cn3 rfl rfl rfl rfl ?_
 refine bg (fun w hs=>⟨(lfB (sz:=48) (x:=.int .i64 300) sc3 rfl) w hs,(lh sc3 rfl rfl) w hs,trivial⟩) ?_
 refine sto rfl rfl rfl cn3 rfl rfl rfl rfl ?_
 refine bgT ?_
 exact Zh (b6,b7) (fun w h=>(h.pull b7).pull b6)
 exact Zx
 ·
  rintro ⟨b6,b7⟩
  dsimp only
  refine Z0 (sqt 2 rfl (pur 1 rfl ?_))
  refine cl rfl Zg3 rfl rfl (ZfQ xq _ _) ?_
  rintro _ _ _ ⟨xb,rfl,rfl,rfl⟩
  refine Z2 ?_
  refine Z0q rfl Zgj (fun c0 bl0 bd0 hcp0 hca0 hcb0 hck0=>?_)
  refine ⟨fun st pend T R'=>st = .ready∧pend=none∧T=(bd0,.deferred (some []))::(b6,cel 3 [.int .i64 ((hv (8)).1:Nat)])::(b7,cel 3 [.int .i64 (hv (8)).2])::(b3,cel 3 [.int .i64 0])::H∧R'=RowsA (some ⟨xb,0,none⟩) 1 [[.pointer (some ⟨xq,0,none⟩)]]::R,
    Fn.mono (ZdS pa pb pc xq xb bl0 (fun s H' R'=>H'=(bl0,lob c0 .ready none)::(bd0,.deferred (some []))::(b6,cel 3 [.int .i64 ((hv (s)).1:Nat)])::(b7,cel 3 [.int .i64 (hv (s)).2])::(b3,cel 3 [.int .i64 0])::H∧R'=RowsA (some ⟨xb,0,none⟩) 1 [[.pointer (some ⟨xq,0,none⟩)]]::R)
      (fun s H' R' h9=>by obtain ⟨_,rfl⟩:=h9;exact ⟨by simp,List.mem_cons_of_mem _ hK.mem⟩)
      (fun s H' R' hs h9=>?_) _ _ ⟨rfl,rfl⟩) (fun v H' R' h9=>?_),?_⟩
  rotate_left
  · obtain ⟨rfl,rfl⟩:=h9
    exact ⟨.ready,none,_,by simp,.refl _,rfl,rfl,rfl,rfl⟩
  rotate_left
  obtain ⟨rfl,rfl⟩:=h9
  have hlf:(ldF s).length=4:=Z4S s _
  refine Z38 hcp0 hca0 hcb0 hck0 rfl rfl ?_
  refine sqt 1 rfl (pur 1 rfl (sqr 2 rfl (alc rfl Zfo rfl (fun b9=>?_))))
  refine ZU (l':=Zj (ldF s)) rfl rfl rfl Ze6 rfl (by show (Zj (ldF s)).length=4;rw [Zb];exact hlf) (Z0f _) (ZaN (by show _=(Zj (ldF s)).length;rw [Zb];exact hlf.symm)) (by show 0+(Zj (ldF s)).length≤4;rw [Zb,hlf];decide) ?_
  refine ZA ?_
  refine Z2 (Z0 ?_)
  refine Zd [0,1,3,0,15] (.ld 0 (.tk 1 (.ld 2 (.ld 3 (.tk 4 .done))))) Zu (by kernel_rfl) ?_
  refine ld rfl rfl (lh sc3 rfl rfl) rfl (tk rfl (PE.indexArr Z4x rfl rfl (by omega) (by omega)) rfl (ld rfl rfl (lh (v:=.int .i64 (na (ldF s) 0)) sc3 rfl (Z0O (by omega) rfl)) rfl (ld rfl rfl (lh sc3 rfl rfl) rfl (Zo 1 rfl ?_))))
  refine Z1 rfl ?_ ?_<;>intro hc0<;>try simp only [cS] at hc0
  have hst:hv (s+1)=(s,na (ldF s) 0):=by
    show (bif decide ((hv s).2<na (ldF s) 0) then _ else _)=_
    rw [dT (by omega)];rfl
  refine Zd [0,0,2,6,1,31] (.tk 0 (.ld 1 (.tk 2 (.ld 3 (.big 4 (.big 5 .done)))))) Zu (by kernel_rfl) ?_
  refine Zo 1 rfl (ld rfl rfl (lh sc3 rfl rfl) rfl (tk rfl (PE.indexArr Z4x rfl rfl (by omega) (by omega)) rfl (ld rfl rfl (lh (v:=.int .i64 (na (ldF s) 0)) sc3 rfl (Z0O (by omega) rfl)) rfl ?_)))
  refine sto rfl rfl rfl cn3 rfl rfl rfl rfl ?_
  refine bg (fun w hs=>⟨(lh (v:=.int .i64 (na (ldF s) 0)) sc3 rfl (Z0O (by omega) rfl)) w hs,(lh sc3 rfl rfl) w hs,trivial⟩) ?_
  refine sto rfl rfl rfl cn3 rfl rfl rfl rfl ?_
  refine bgT ?_
  exact Ze ⟨rfl,rfl,rfl⟩ (fun _ h9=>by rw [hst];exact h9.del b9)
  have hst:hv (s+1)=hv s:=by
    show (bif decide ((hv s).2<na (ldF s) 0) then _ else _)=_
    rw [dF (by omega)];rfl
  refine Z3 ?_
  exact Ze ⟨rfl,rfl,rfl⟩ (fun _ h9=>by rw [hst];exact h9.del b9)
  rintro _ _ _ _ ⟨rfl,rfl,rfl,rfl⟩
  rw [ZhU]
  refine Z44 ?_
  refine Z0 ?_
  refine Zd [0,0,1,7] (.ld 0 (.ld 1 (.tk 2 (.tk 3 .done)))) Zu (by kernel_rfl) ?_
  refine ld rfl rfl (lh sc3 rfl rfl) rfl (ld rfl rfl (lh sc3 rfl rfl) rfl (Zo 2 rfl (Z4 ?_)))
  exact ZR [bd0] (H:=H) (fun w h=>((h.del b7).del b6).del b3) rfl (.cons (RV.tmp rfl) (.cons (RV.tmp rfl) .nil)) rfl ⟨rfl,rfl,rfl⟩ (fun w h=>h.ftail)
theorem c_MostT (pa pb pc pd pe pf:Nat) (H:Z7) (R:Z5) [hA:MemRows (some ⟨pa,0,none⟩) 1 (irows [400,300]) R] [hB:MemRows (some ⟨pb,0,none⟩) 2 (Z0i (ZY pd pe pf)) R] [hC:MemRows (some ⟨pc,0,none⟩) 3 (Z0u trnF) R] [hD:MemRows (some ⟨pd,0,none⟩) 1 (irows (shs 0)) R] [hE:MemRows (some ⟨pe,0,none⟩) 1 (irows (shs 1)) R] [hF:MemRows (some ⟨pf,0,none⟩) 1 (irows (shs 2)) R] [hG:MemRows none 2 (Z0R []) R] :
    FnV Tryz.prog 45 [(.agg (fls pa pb pc).toArray),.int .i64 0] H R (.tuple #[.int .i64 460,.int .i64 0]):=by
 refine Z8 Tryz.func45 rfl Tryz.ntmps45 rfl ?_
 refine sqt 3 rfl (bx rfl rfl rfl (fun b2=>pur 2 rfl (Z0 ?_)))
 refine Zd [0,0,0,6,14,31,63,127,127,255,1023] (.ld 0 (.ld 1 (.tk 2 (.big 3 (.tk 4 (.big 5 (tks 6 5 .done))))))) Zu (by kernel_rfl) ?_
 refine ld rfl rfl (lhA (fls pa pb pc) Z1t rfl rfl rfl) rfl (ld rfl rfl (lhA (fls pa pb pc) Z1t rfl rfl rfl) rfl (Zo 1 rfl ?_))
 refine clV rfl ZjA rfl rfl (ZiW pa pb pc 0 (by decide) _ _) ?_
 refine bg (fun w hs=>⟨trivial,(lhA (fls pa pb pc) Z1t rfl rfl rfl) w hs,trivial⟩) ?_
 refine Zo 1 rfl ?_
 refine cl rfl Zjz rfl rfl (Z9s pa pb pc pd pe pf _ _) ?_
 rintro _ _ _ ⟨xq,rfl,rfl,rfl⟩
 refine bgT (Zo 5 rfl (Z0 (sqt 2 rfl (pur 2 rfl ?_))))
 refine Z1 rfl ?_ ?_<;>intro hc0
 exact absurd hc0 (by simp)
 refine Z3 (sqt 8 rfl (pur 2 rfl ?_))
 refine clV rfl ZjB rfl rfl (Z7X pa pb pc xq _ _) ?_
 refine pur 5 rfl (sqt 3 rfl (pur 3 rfl (Z4 ?_)))
 exact rtB rfl rfl rfl rfl ⟨rfl,rfl,rfl⟩ (fun w h=>(h.del b2).ftail)
set_option maxHeartbeats 400000 in
theorem c_Two (H:Z7) (R:Z5) :
    Fn Tryz.prog 46 [.slice none 0 0] H R (fun v H' R'=>∃ pa pb pc pd pe pf,v=(.agg (fls pa pb pc).toArray)∧H'=H∧R'=RowsA none 2 (Z0R [])::RowsA (some ⟨pf,0,none⟩) 1 (irows (shs 2))::RowsA (some ⟨pe,0,none⟩) 1 (irows (shs 1))::RowsA (some ⟨pd,0,none⟩) 1 (irows (shs 0))::RowsA (some ⟨pc,0,none⟩) 3 (Z0u trnF)::RowsA (some ⟨pb,0,none⟩) 2 (Z0i (ZY pd pe pf))::RowsA (some ⟨pa,0,none⟩) 1 (irows [400,300])::R):=by
 refine Z8 Tryz.func46 rfl Tryz.ntmps46 rfl ?_
 refine sqt 1 rfl (alc rfl Ziw rfl (fun b2=>sqt 15 rfl ?_))
 refine bsl (out:=[_,_]) rfl Z36 zl3 rfl rfl rfl rfl rfl rfl (fun b3=>?_)
 refine bsl (out:=[_,_]) rfl Z36 zl3 rfl rfl rfl rfl rfl rfl (fun b4=>?_)
 refine sp rfl (PE.build (out:=[_,_]) ZeM Z8r rfl rfl) rfl ?_
 refine bsl (out:=[_,_]) rfl Z36 zl3 rfl rfl rfl rfl rfl rfl (fun b6=>?_)
 refine sp rfl (PE.build (out:=[_,_]) ZeM Z8r rfl rfl) rfl ?_
 refine bsl (out:=[_,_]) rfl Z36 zl3 rfl rfl rfl rfl rfl rfl (fun b8=>?_)
 refine sp rfl (PE.build (out:=[_,_]) ZeM Z8r rfl rfl) rfl ?_
 refine bsl (out:=[_,_,_,_,_,_]) rfl Zki Z8r rfl rfl rfl rfl rfl rfl (fun b10=>?_)
 refine sp rfl (PE.build (out:=[_,_,_]) ZeN Z8s rfl rfl) rfl (sp rfl (PE.build (out:=[_,_,_]) ZeN Z8s rfl rfl) rfl (sp rfl (PE.build (out:=[_,_,_]) ZeN Z8s rfl rfl) rfl ?_))
 refine bsl (out:=[_,_,_,_,_,_,_,_,_]) rfl Zkj Z8s rfl rfl rfl rfl rfl rfl (fun b14=>?_)
 refine pur 1 rfl (sp rfl (PE.build (out:=[_,_,_,_]) Zk1 Ziw rfl rfl) rfl ?_)
 refine sto rfl rfl rfl ZjJ rfl rfl rfl rfl ?_
 refine Z4 ?_
 refine Sy.heap (fun w h=>St.noR (sz:=2) (St.rows (b:=b8) (sz:=1) (rows:=irows (shs 2)) (rest:=[]) ((St.rows (b:=b6) (sz:=1) (rows:=irows (shs 1)) (rest:=[]) ((St.rows (b:=b4) (sz:=1) (rows:=irows (shs 0)) (rest:=[]) ((St.rows (b:=b14) (sz:=3) (rows:=Z0u trnF) (rest:=[]) ((St.rows (b:=b10) (sz:=2) (rows:=Z0i (ZY b4 b6 b8)) (rest:=[]) ((St.rows (b:=b3) (sz:=1) (rows:=irows [400,300]) (rest:=[]) ((h).pull b3) (by simp [Z0T,Z16,ZY,trnF])).pull b10) (by simp [Z0T,Z16,ZY,trnF])).pull b14) (by simp [Z0T,Z16,ZY,trnF])).pull b4) (by simp [Z0T,Z16,ZY,trnF])).pull b6) (by simp [Z0T,Z16,ZY,trnF])).pull b8) (by simp [Z0T,Z16,ZY,trnF]))) ?_
 exact Zf (vs:=[_]) rfl (.cons (RV.cell rfl (lhA (fls b3 b10 b14) Z1t rfl rfl rfl)) .nil) rfl ⟨b3,b10,b14,b4,b6,b8,rfl,rfl,rfl⟩ (fun w h=>h.del b2)
end Go.Proofs.YthijcgkicjljhaaGreat.Fl
