/- Walks and plain lemmas. -/
import Derived.Test.YtdnmhhohcedjbaaGreatQ09
set_option linter.unusedVariables false
set_option linter.unusedSimpArgs false
set_option maxHeartbeats 2000000
set_option maxRecDepth 20000
namespace Go.Proofs.YtdnmhhohcedjbaaGreat
open Go.RowKit
theorem RT {P:Program}{o:Oper}{cond:Bool}{a:Act}{K:Act→World→Prop}{Q:Exit→Act→World→Prop}{E:Prop}(W:World)(hcond:cond=true)(s x:Operand)(t:TypeId)
 (ho:o.op=.call {callee:=.builtin .append,args:=#[s,x],argTypes:=#[t,t]})
 (base:Nat) (e:TypeId) (i:TypeInfo) (z:Value) (size bytes:Nat) (ht:P.underlying t=some (.slice e)) (hi:P.info? e=some i) (hz:i.zero=some z)
 (hsize:i.size=size) (hby:i.bytes=bytes) (hzs:z.cells.size=size) (hsz:0<size)
 (v:Value) (n:Nat) (xs:List Value) (hs:a.eval s=v) (hown:W.ownsRow base e size v n xs)
 (A2:OA) (m c:Nat) (f:Nat→Value) (hx:a.eval x=.slice A2 m c) (hrd:Rd W A2 (m*size) f) (h1:∀j,(f j).oneCell'=true)
 (h63:n+m≤maxLen) (hbytes:(n+m)*bytes≤140737488355328) (hbase:base≤W.heap.size)
 (h:∀v' w',w'.ownsRow base e size v' (n+m) (xs++(List.range (m*size)).map f)→Fr W w' (fun b=>v.ownBlock=some b)→K (a.put o.dst v') w'):
 if cond=true then Oper.wp P o a W K Q else E:=by
 rw[if_pos hcond]
 rcases A2 with _|ad
 ·have hm:m=0:=by
   rcases Nat.eq_zero_or_pos m with h0|h0
   ·exact h0
   ·obtain⟨g,o',e,_⟩:=hrd (Nat.mul_pos h0 hsz)
    cases e
  subst hm;have hr:=pZ (P:=P) W base t o.type e i size ht hi v n xs hown c;unfold Oper.wp execOp
  simp only[ho,resolve,invoke,builtin,Sem.run_bind,Sem.run_pure,Result.andThen_ok,List.map_toArray,List.map_cons,List.map_nil,hs,hx,hr]
  exact h _ _ (by simpa using hown) (Fr.refl _ _)
 ·refine wp_append_own W s x t ho base e i z size bytes ht hi hz hsize hby hzs hsz v n xs hs hown ad m c ((List.range (m*size)).map f) hx qj (fun j u hu=>?_) (fun u hu=>?_) h63 hbytes hbase ?_
  ·obtain⟨hj,rfl⟩:j<m*size∧f j=u:=by
    by_cases hj:j<m*size
    ·simp[hj]at hu;exact⟨hj,hu⟩
    ·rw[List.getElem?_eq_none (by simpa using hj)]at hu;cases hu
   obtain⟨g,o',e,_,hr⟩:=hrd qo;injection e with e;subst e;rw[Addr.add_lit];exact hr j hj
  ·obtain⟨j,_,rfl⟩:=List.mem_map.1 hu
   exact h1 j
  ·intro v' w' h2 h3 _
   exact h v' w' h2 ⟨h3.os,h3.tape,h3.output,h3.size,fun b hb hne=>h3.block b hb (fun e=>hne e.symm)⟩
def gA (s:aI)(b x:Int)(m:Nat):aI:=if b=1 then{s with f:=fun q=>if q=x.toNat then m else s.f q}else{s with k:=fun q=>if q=x.toNat then m else s.k q}
theorem iB (s:aI)(b x:Int)(m:Nat):(gA s b x m).W=s.W:=by unfold gA;split<;>rfl
theorem o8 (s:aI)(b x:Int)(m:Nat):(gA s b x m).rk=s.rk:=by unfold gA;split<;>rfl
theorem GY (s:aI)(b x:Int)(m:Nat):(gA s b x m).n=s.n:=by unfold gA;split<;>rfl
section
variable {tg:Nat→Nat}{a:bC}{s:aI}{D:Nat}{w:World}
theorem Mem.put (h:Mem tg a s w){b x:Int}{v:Value}{m:Nat}(hx:0≤x)(hx1:x<s.W)(hv:bE w v m)(hf:∀q,v.ownBlock=some q→tg q=0){w':World}(hw':∃w1,Below w.heap.size w w1∧w'=w1.setCell ⟨bO a b,x.toNat,none⟩ v):
 ∃gU a',a'.g=a.g∧Mem gU a' (gA s b x m) w'∧Fr w w' (eZ tg)∧∀q,gU q≠0→tg q≠0∨v.ownBlock=some q:=by
 obtain⟨w1,hb,rfl⟩:=hw';have h1:=h.below hb;have hv1:bE w1 v m:=hv.blk fun q hq=>hb.block q (hv.lt q hq);have ht:∀(c q:Nat),retag tg v c q≠0→tg q≠0∨v.ownBlock=some q:=fun c q hq=>by
  unfold retag at hq
  split at hq
  ·exact .inr ‹_›
  ·exact .inl hq
 have hfr:Fr w (w1.setCell ⟨bO a b,x.toNat,none⟩ v) (eZ tg):=(Fr.of_below hb _).set (by
  unfold eZ bO;show tg (if b=1 then a.gf else a.gk)≠0
  split
  ·rw[h.tf];omega
  ·rw[h.tk];omega) v
 by_cases hb1:b=1
 ·subst hb1
  exact⟨_,{a with F:=fun q=>if q=x.toNat then v else a.F q},rfl,h1.abB (h1.rest (8+2*x.toNat) fun _ _ _=>rfl) ql qo hv1 fun q hq=>.inl (hf q hq),hfr,ht _⟩
 ·have e1:bO a b=a.gk:=if_neg hb1
  have e2:gA s b x m={s with k:=fun q=>if q=x.toNat then m else s.k q}:=if_neg hb1;rw[e1]at hfr ⊢;rw[e2];exact⟨_,{a with K:=fun q=>if q=x.toNat then v else a.K q},rfl,h1.abA (h1.rest (9+2*x.toNat) fun _ _ _=>rfl) ql qo hv1 fun q hq=>.inl (hf q hq),hfr,ht _⟩
end
theorem Fr.next {w w1 w2:World}{F F2:Nat→Prop}(h:Fr w w1 F)(h2:Fr w1 w2 F2)(hF:∀b,F2 b→F b∨w.heap.size≤b):Fr w w2 F:=
 ⟨h2.os.trans h.os,h2.tape.trans h.tape,h2.output.trans h.output,Nat.le_trans h.size h2.size,fun b hb hn=>(h2.block b (Nat.lt_of_lt_of_le hb h.size) fun h'=>(hF b h').elim hn (fun _=>by omega)).trans (h.block b hb hn)⟩
theorem VY {w:World}{B B':Nat}{e:TypeId}{size n:Nat}{v:Value}{xs:List Value}(ho:w.ownsRow B e size v n xs)(h:∀b,v.ownBlock=some b→B'≤b):w.ownsRow B' e size v n xs:=by
 obtain⟨hl,hn|⟨g,cap,cur,rfl,hb,hr⟩⟩:=ho
 ·exact⟨hl,.inl hn⟩
 ·exact⟨hl,.inr ⟨g,cap,cur,rfl,h g rfl,hr⟩⟩
structure At (wb:World)(dY:Nat→Nat)(g:Nat)(s:aI)(w:World)(tg:Nat→Nat)(a:bC):Prop where
 g:a.g=g
 m:Mem tg a s w
 f:Fr wb w (eZ dY)
 t:∀q,tg q≠0→dY q≠0∨wb.heap.size≤q
section
variable {wb:World}{dY tg:Nat→Nat}{a:bC}{s:aI}{w w':World}{g:Nat}
theorem At.start (h:Mem tg a s w):At w tg a.g s w tg a:=⟨rfl,h,Fr.refl _ _,fun _ hq=>.inl hq⟩
theorem At.moved (h:At wb dY g s w tg a):Moved wb dY g s w:=⟨tg,a,h.g,h.m,h.f,h.t⟩
theorem At.below (h:At wb dY g s w tg a)(hb:Below w.heap.size w w'):At wb dY g s w' tg a:=⟨h.g,h.m.below hb,h.f.eL (hb.mono h.f.size),h.t⟩
theorem At.fr (h:At wb dY g s w tg a)(hf:Fr w w' (eZ tg)):Fr wb w' (eZ dY):=h.f.next hf h.t
theorem At.next {s':aI}(h:At wb dY g s w tg a)(hm:Moved w tg g s' w'):∃gU a',At wb dY g s' w' gU a'∧Fr w w' (eZ tg)∧∀q,gU q≠0→tg q≠0∨w.heap.size≤q:=by
 obtain⟨gU,a',hg,hm',hf,ht⟩:=hm;refine⟨gU,a',⟨hg,hm',h.fr hf,fun q hq=>?_⟩,hf,ht⟩
 rcases ht q hq with h1|h1
 ·exact h.t q h1
 ·exact .inr (Nat.le_trans h.f.size h1)
theorem At.free (h:At wb dY g s w tg a){b:Nat}(hb:dY b=0)(hlt:b<wb.heap.size):tg b=0:=Decidable.byContradiction fun hn=>by
 rcases h.t b hn with h1|h1
 ·exact h1 hb
 ·omega
theorem At.op (h:At wb dY g s w tg a){bo o:Nat}{k d fb fa tb ta c r:Int}(ho:gI bo o k d fb fa tb ta c r wb)(hb:dY bo=0):gI bo o k d fb fa tb ta c r w∧tg bo=0:=
 ⟨(dA bo o k d fb fa tb ta c r).fr ho h.f fun b hF hn=>by subst hF;exact hn hb,h.free hb (World.block_lt_of_cell? wb _ ho.c0)⟩
theorem At.UW {v:Value}(h:At wb dY g s w tg a)(hf:∀q,v.ownBlock=some q→w.heap.size≤q∨tg q=0)(hv:∀q,v.ownBlock=some q→q<w.heap.size)(hnew:∀q,v.ownBlock=some q→wb.heap.size≤q):At wb dY g s w (retag tg v 7) a:=
 ⟨h.g,h.m.UW (fun q hq=>(hf q hq).elim (fun h1=>absurd (hv q hq) qo) .inl) hv,h.f,fun q hq=>by
  unfold retag at hq
  split at hq
  ·exact .inr (hnew q ‹_›)
  ·exact h.t q hq⟩
theorem At.put (h:At wb dY g s w tg a){b x:Int}{v:Value}{m:Nat}(hx:0≤x)(hx1:x<s.W)(hv:bE w v m)(hf:∀q,v.ownBlock=some q→tg q=0∧wb.heap.size≤q)(hw':∃w1,Below w.heap.size w w1∧w'=w1.setCell ⟨bO a b,x.toNat,none⟩ v):
 ∃gU a',At wb dY g (gA s b x m) w' gU a':=by
 obtain⟨gU,a',hg,hm,hfr,ht⟩:=h.m.put hx hx1 hv (fun q hq=>(hf q hq).1) hw';refine⟨gU,a',hg.trans h.g,hm,h.fr hfr,fun q hq=>?_⟩
 rcases ht q hq with h1|h1
 ·exact h.t q h1
 ·exact .inr (hf q h1).2
end
section
variable {tg:Nat→Nat}{a:bC}{s:aI}{D:Nat}{w:World}
def vZ (w:World)(tg:Nat→Nat)(g:Nat)(code:Int)(s':aI)(e:Ending)(w':World):Prop:=e=.returned (.int .i64 code)∧Fr w w' (eZ tg)∧(code=0→Moved w tg g s' w')
def eG (s:aI)(fb fa tb ta:Int):Int:=if aL fb fa s.rk=aL tb ta s.rk then(if aM s fb fa=0 then 7 else if 4<aM s fb fa+aM s tb ta then 5 else 0)else 8
def aY (s:aI)(fb fa tb ta:Int):aI:=gA (gA s tb ta (aM s fb fa+aM s tb ta)) fb fa 0
theorem Mem.lU (H:Mem tg a s w){b x:Int}(hx:0≤x)(hx1:x<s.W):bE w (kO a b x) (aM s b x):=by
 unfold kO aM
 split
 ·exact H.lf _ qo
 ·exact H.lk _ qo
theorem bT (hs:bW s D){b x:Int}(hx:0≤x)(hx1:x<s.W):aM s b x≤4:=by
 unfold aM
 split
 ·exact hs.fb _ qo
 ·exact hs.kb _ qo
theorem KJ (bo o:Nat)(k d fb fa tb ta c r:Int)(H:Mem tg a s w)(hs:bW s D)(ho:gI bo o k d fb fa tb ta c r w)(bK:tg bo=0)(ha0:0≤fa)(ha1:fa<s.W)(fC:0≤ta)(i9:ta<s.W):
 Calls Tryz.prog 86 #[.pointer (some ⟨a.g,0,none⟩),.pointer (some ⟨bo,o,none⟩)] w (vZ w tg a.g (eG s fb fa tb ta) (aY s fb fa tb ta)):=by
 obtain⟨i0,hi,iz,is,ib⟩:=info_parts yL;have hw2:=hs.w2;have hr1:=hs.r1;have hr2:=hs.r2;obtain⟨nf,hnf⟩:=qx (aM s fb fa);obtain⟨nt,hnt⟩:=qx (aM s tb ta);have fW:nf≤4:=by rw[hnf];exact bT hs ha0 ha1
 have vk:nt≤4:=by rw[hnt];exact bT hs fC i9
 have hlf:bE w (kO a fb fa) nf:=by rw[hnf];exact H.lU ha0 ha1
 have hlt:bE w (kO a tb ta) nt:=by rw[hnt];exact H.lU fC i9
 obtain⟨Af,cf,hvf⟩:=hlf.form;obtain⟨Au,cu,IB⟩:=hlt.form;have jV:=qh hvf;have PL:=qh IB;rw[hvf]at hlf;rw[IB]at hlt;have rC:=qh hlf;have dC:=qh hlt;have HH:=qh H;have HO:=qh ho;have o2:=ho.c2;have o3:=ho.c3;have o4:=ho.c4;have o5:=ho.c5;have m1:w.cell? ⟨a.g,1,none⟩=some (.int .i64 s.rk):=H.m.cell 1;have hgo:=World.block_lt_of_cell? w _ o2;have hgm:=World.block_lt_of_cell? w _ m1;have mN:=qh hgo;have GH:=qh hgm;have bZ:=qh m1;have iQ:=qh hnf;have TQ:=qh hnt;clear hvf IB hlf hlt H ho hnf hnt
 go_enter Tryz.func86,Tryz.ntmps86
 go_wp2_with fail
 refine(pA fb fa w HH.o ha0 ha1).mono ?_;rintro e w1 ⟨rfl,hb1⟩;rw[jV.o];have HB1:=qh hb1;have k4:=((aA HB1.o).1 bo (o+4) mN.o).trans o4;have k5:=((aA HB1.o).1 bo (o+4+1) mN.o).trans o5;clear hb1 o4 o5 m1 o2 o3 hgo hgm
 go_wp2_with fail
 refine(pA tb ta w1 (HH.o.below HB1.o) fC i9).mono ?_;rintro e w2 ⟨rfl,hb2⟩;rw[PL.o];have HB2:Hq (Below w.heap.size w w2):=HB1.st hb2;have o2:=((aA HB2.o).1 bo (o+2) mN.o).trans HO.o.c2;have o3:=((aA HB2.o).1 bo (o+2+1) mN.o).trans HO.o.c3;have o4:=((aA HB2.o).1 bo (o+4) mN.o).trans HO.o.c4;have o5:=((aA HB2.o).1 bo (o+4+1) mN.o).trans HO.o.c5;have m1:=((aA HB2.o).1 a.g 1 GH.o).trans bZ.o;clear hb2 k4 k5
 go_wp2_with fail
 obtain⟨x1,hx1⟩:=qx (aL fb fa s.rk);obtain⟨x2,hx2⟩:=qx (aL tb ta s.rk);have dN:=qh hx1;have eI:=qh hx2;clear hx1 hx2;have O4:=qh o4;have O5:=qh o5;have O2:=qh o2;have O3:=qh o3;have M1:=qh m1;have HG2:=qh (Nat.lt_of_lt_of_le mN.o HB2.o.size);have dW:=qh (Nat.lt_of_lt_of_le GH.o HB2.o.size)
 go_region_held3 (fun w'=>w'.cell? ⟨bo,o+2,none⟩=some (.int .i64 fb)∧w'.cell? ⟨bo,o+2+1,none⟩=some (.int .i64 fa)∧w'.cell? ⟨bo,o+4,none⟩=some (.int .i64 tb)∧w'.cell? ⟨bo,o+4+1,none⟩=some (.int .i64 ta)∧w'.cell? ⟨a.g,1,none⟩=some (.int .i64 s.rk)) (go_keep)
  (first
   |(go_at_call_of 115 fa;refine(sO fb fa s.rk w2.drew ha0 qo hr1 hr2).mono ?_;rintro e w3 ⟨he,hb3⟩;obtain rfl:e=.returned (.int .i64 x1):=he.trans (by rw[dN.o]);have HB3:Hq (Below w2.heap.size w2 w3):=qh (((Below.refl w2.heap.size w2).drew).trans hb3);have IA:=((aA HB3.o).1 bo (o+2) HG2.o).trans O2.out;have I9:=((aA HB3.o).1 bo (o+2+1) HG2.o).trans O3.out;have Kt:=((aA HB3.o).1 bo (o+4) HG2.o).trans O4.out;have Kr:=((aA HB3.o).1 bo (o+4+1) HG2.o).trans O5.out;have Kw:=((aA HB3.o).1 a.g 1 dW.o).trans M1.out;clear hb3 he)
   |(go_at_call_of 115 ta;refine(sO tb ta s.rk w3 fC qo hr1 hr2).mono ?_;rintro e w4 ⟨he,hb4⟩;obtain rfl:e=.returned (.int .i64 x2):=he.trans (by rw[eI.o]);have aR:Hq (Below w2.heap.size w2 w4):=HB3.st hb4;have Yc:=((aA aR.o).1 bo (o+2) HG2.o).trans O2.out;have Yb:=((aA aR.o).1 bo (o+2+1) HG2.o).trans O3.out;have ky4:=((aA aR.o).1 bo (o+4) HG2.o).trans O4.out;have ky5:=((aA aR.o).1 bo (o+4+1) HG2.o).trans O5.out;have ky1:=((aA aR.o).1 a.g 1 dW.o).trans M1.out;clear hb4 he IA I9 Kt Kr Kw))
 rename_i hHeld
 clear hHeld o2 o3 o4 o5 m1 ky1;have rD:Hq (Below w.heap.size w w4):=qh (HB2.o.trans (aR.o.mono HB2.o.size));have mQ:=qh (show eG s fb fa tb ta=if x1=x2 then(if nf=0 then 7 else if 4<nf+nt then 5 else 0)else 8 by rw[dN.o,eI.o,iQ.o,TQ.o];rfl);clear dN eI
 by_cases Yi:x1=x2
 ·subst Yi
  by_cases h0:nf=0
  ·subst h0
   go_wp2_with fail
   go_ret
   exact⟨by rw[mQ.o];simp,Fr.of_below rD.o _,fun h=>by rw[mQ.o]at h;simp at h⟩
  ·have h0':((nf:Int)==0)=false:=by simp;omega
   by_cases h4:4<nf+nt
   ·have HC:=qh (show eG s fb fa tb ta=5 by rw[mQ.o];simp[h0,h4])
    go_wp2_with fail
    go_ret
    exact⟨by rw[HC.o];rfl,Fr.of_below rD.o _,fun h=>by rw[HC.o]at h;omega⟩
   ·have HC:=qh (show eG s fb fa tb ta=0 by rw[mQ.o];simp[h0,h4])
    have ae2:=rD
    by_cases htb:tb=2
    ·subst htb
     go_wp2_with fail
     go_region_held3 (fun w'=>w'.cell? ⟨bo,o+4,none⟩=some (.int .i64 2)∧w'.cell? ⟨bo,o+4+1,none⟩=some (.int .i64 ta)) (go_keep)
      (first
       |(go_at_call 83;refine(iO _ nf w4.drew (rC.o.blk fun q hq=>ae2.o.block q (rC.o.lt q hq)) qo).mono ?_;rintro e w5 ⟨vo,rfl,hlo,hnew,hb5⟩;obtain⟨Ao,co,rfl⟩:=hlo.form;have aZ:Hq (Below w.heap.size w w5):=qh (rD.o.trans (((Below.refl w4.heap.size w4).drew.trans hb5).mono rD.o.size));have Kt:=((aA aZ.o).1 bo (o+4) mN.o).trans HO.o.c4;have Kr:=((aA aZ.o).1 bo (o+4+1) mN.o).trans HO.o.c5;obtain⟨xs,hxs⟩:=hlo;have G9:=qh (VY hxs (B':=w.heap.size) fun q hq=>Nat.le_trans rD.o.size (hnew q hq));obtain⟨A9,c9,ys,Ma,hrd⟩:=(dC.o.blk fun q hq=>aZ.o.block q (dC.o.lt q hq)).rd;injection Ma with e1 e2 e3;subst e1 e3;have iJ:=qh hrd;clear hxs hnew hb5 hrd e2)
       |(refine RT w5 (by rfl) (.tmp 59) (.tmp 60) _ (by rfl) w.heap.size 2 i0 _ 1 8 Tryz.underlying34 hi iz is ib rfl qo (.slice Ao nf co) nf (ints xs) (by rfl) G9.o Au nt cu (fun j=>.int .i64 (ys.getD j 0)) (by rfl) (by rw[Nat.mul_one];exact iJ.o) (fun j=>rfl) qm qo aZ.o.size ?_;intro v6 w6 hown6 IF;obtain⟨A6,c6,rfl⟩:=aF hown6;have bG:Hq (Below w.heap.size w w6):=qh (aZ.o.trans (IF.own G9.o aZ.o.size));rw[Nat.mul_one,yK,←aT]at hown6;have E5:Hq (bE w6 (.slice A6 (nf+nt) c6) (nf+nt)):=qh ⟨_,eF hown6 (Nat.zero_le _)⟩;have PR:=qh (JP hown6);have kz4:=((aA bG.o).1 bo (o+4) mN.o).trans HO.o.c4;have kz5:=((aA bG.o).1 bo (o+4+1) mN.o).trans HO.o.c5;clear hown6 IF Kt Kr)
       |(go_at_call 89;refine(lV 2 ta _ w6 (HH.o.below bG.o) fC i9 ⟨_,_,_,rfl⟩).mono ?_;rintro e w8 ⟨rfl,hset⟩;obtain⟨mU,a1,zV⟩:=((At.start HH.o).below bG.o).put (m:=nf+nt) fC i9 E5.o (fun q hq=>⟨Decidable.byContradiction fun hn=>by have:=HH.o.lt q hn;have:=PR.o q hq;omega,PR.o q hq⟩) hset;have HAT:=qh zV;have kv4:=(HAT.o.op HO.o bK).1.c4;have kv5:=(HAT.o.op HO.o bK).1.c5;clear hset zV kz4 kz5))
     rename_i hHeld
     clear hHeld Yc Yb ky4 ky5 kv4 kv5;have k2:=(HAT.o.op HO.o bK).1.c2;have k3:=(HAT.o.op HO.o bK).1.c3
     go_wp2_with fail
     have wO:Below w8.heap.size w8 (w8.alloc (.cells #[] 2)):=qb;have sQ:=lV fb fa (.slice (some ⟨w8.heap.size,0,none⟩) 0 0) _ (HAT.o.below wO).m ha0 (by rw[iB];exact ha1) ⟨_,_,_,rfl⟩;rw[HAT.o.g]at sQ;refine sQ.mono ?_;rintro e w9 ⟨rfl,gP⟩;obtain⟨xY,a2,gF⟩:=(HAT.o.below wO).put (m:=0) ha0 (by rw[iB];exact ha1) ⟨[],World.ownsRow_made w8 #[] 0 (Nat.zero_le _) qm rfl⟩ (fun q hq=>by
      injection hq with hq;subst hq;exact⟨Decidable.byContradiction fun hn=>Nat.lt_irrefl _ (HAT.o.m.lt _ hn),HAT.o.f.size⟩) gP
     have HA2:=qh gF;clear gF gP sQ wO k2 k3
     go_wp2_with fail
     go_ret
     exact⟨by rw[HC.o];rfl,HA2.o.f,fun _=>⟨xY,a2,by have h:=HA2.o;unfold aY;rw[←iQ.o,←TQ.o];exact⟨h.g,h.m,h.f,h.t⟩⟩⟩
    ·have htb':(tb==2)=false:=by simpa using htb
     go_wp2_with fail
     go_region_held3 (fun w'=>w'.cell? ⟨bo,o+4,none⟩=some (.int .i64 tb)∧w'.cell? ⟨bo,o+4+1,none⟩=some (.int .i64 ta)) (go_keep)
      (first
       |(go_at_call 83;refine(iO _ nt w4.drew (dC.o.blk fun q hq=>ae2.o.block q (dC.o.lt q hq)) qo).mono ?_;rintro e w5 ⟨vo,rfl,hlo,hnew,hb5⟩;obtain⟨Ao,co,rfl⟩:=hlo.form;have aZ:Hq (Below w.heap.size w w5):=qh (rD.o.trans (((Below.refl w4.heap.size w4).drew.trans hb5).mono rD.o.size));have Kt:=((aA aZ.o).1 bo (o+4) mN.o).trans HO.o.c4;have Kr:=((aA aZ.o).1 bo (o+4+1) mN.o).trans HO.o.c5;obtain⟨xs,hxs⟩:=hlo;have G9:=qh (VY hxs (B':=w.heap.size) fun q hq=>Nat.le_trans rD.o.size (hnew q hq));obtain⟨A9,c9,ys,Ma,hrd⟩:=(rC.o.blk fun q hq=>aZ.o.block q (rC.o.lt q hq)).rd;injection Ma with e1 e2 e3;subst e1 e3;have iJ:=qh hrd;clear hxs hnew hb5 hrd e2)
       |(refine RT w5 (by rfl) (.tmp 69) (.tmp 70) _ (by rfl) w.heap.size 2 i0 _ 1 8 Tryz.underlying34 hi iz is ib rfl qo (.slice Ao nt co) nt (ints xs) (by rfl) G9.o Af nf cf (fun j=>.int .i64 (ys.getD j 0)) (by rfl) (by rw[Nat.mul_one];exact iJ.o) (fun j=>rfl) qm qo aZ.o.size ?_;intro v6 w6 hown6 IF;obtain⟨A6,c6,rfl⟩:=aF hown6;have bG:Hq (Below w.heap.size w w6):=qh (aZ.o.trans (IF.own G9.o aZ.o.size));rw[Nat.mul_one,yK,←aT]at hown6;have E5:Hq (bE w6 (.slice A6 (nt+nf) c6) (nt+nf)):=qh ⟨_,eF hown6 (Nat.zero_le _)⟩;have PR:=qh (JP hown6);have kz4:=((aA bG.o).1 bo (o+4) mN.o).trans HO.o.c4;have kz5:=((aA bG.o).1 bo (o+4+1) mN.o).trans HO.o.c5;clear hown6 IF Kt Kr)
       |(go_at_call 89;refine(lV tb ta _ w6 (HH.o.below bG.o) fC i9 ⟨_,_,_,rfl⟩).mono ?_;rintro e w8 ⟨rfl,hset⟩;obtain⟨mU,a1,zV⟩:=((At.start HH.o).below bG.o).put (m:=nt+nf) fC i9 E5.o (fun q hq=>⟨Decidable.byContradiction fun hn=>by have:=HH.o.lt q hn;have:=PR.o q hq;omega,PR.o q hq⟩) hset;have HAT:=qh zV;have kv4:=(HAT.o.op HO.o bK).1.c4;have kv5:=(HAT.o.op HO.o bK).1.c5;clear hset zV kz4 kz5))
     rename_i hHeld
     clear hHeld Yc Yb ky4 ky5 kv4 kv5;have k2:=(HAT.o.op HO.o bK).1.c2;have k3:=(HAT.o.op HO.o bK).1.c3
     go_wp2_with fail
     have wO:Below w8.heap.size w8 (w8.alloc (.cells #[] 2)):=qb;have sQ:=lV fb fa (.slice (some ⟨w8.heap.size,0,none⟩) 0 0) _ (HAT.o.below wO).m ha0 (by rw[iB];exact ha1) ⟨_,_,_,rfl⟩;rw[HAT.o.g]at sQ;refine sQ.mono ?_;rintro e w9 ⟨rfl,gP⟩;obtain⟨xY,a2,gF⟩:=(HAT.o.below wO).put (m:=0) ha0 (by rw[iB];exact ha1) ⟨[],World.ownsRow_made w8 #[] 0 (Nat.zero_le _) qm rfl⟩ (fun q hq=>by
      injection hq with hq;subst hq;exact⟨Decidable.byContradiction fun hn=>Nat.lt_irrefl _ (HAT.o.m.lt _ hn),HAT.o.f.size⟩) gP
     have HA2:=qh gF;clear gF gP sQ wO k2 k3
     go_wp2_with fail
     go_ret
     exact⟨by rw[HC.o];rfl,HA2.o.f,fun _=>⟨xY,a2,by have h:=HA2.o;unfold aY;rw[←iQ.o,←TQ.o,Nat.add_comm nf nt];exact⟨h.g,h.m,h.f,h.t⟩⟩⟩
 ·have hxx':(x1==x2)=false:=by simpa using Yi
  go_wp2_with fail
  go_ret
  exact⟨by rw[mQ.o,if_neg Yi];rfl,Fr.of_below rD.o _,fun h=>by rw[mQ.o,if_neg Yi]at h;omega⟩
end
end Go.Proofs.YtdnmhhohcedjbaaGreat
