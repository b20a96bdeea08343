/- Walks and plain lemmas. -/
import Derived.Test.YtimlpmbabbbcaaaGreatP08
set_option linter.unusedVariables false
set_option linter.unusedSimpArgs false
set_option maxHeartbeats 2000000
set_option maxRecDepth 20000
namespace Go.Proofs.YtimlpmbabbbcaaaGreat
open Go.RowKit
theorem S6 {P:Program}{o:Oper}{cond:Bool}{a:Act}{K:Act→World→Prop}{Q:Exit→Act→World→Prop}{E:Prop}(W:World)(hcond:cond=true)(s x:Operand)(t:TypeId)
 (ho:o.op=.call {callee:=.builtin .append,args:=#[s,x],argTypes:=#[t,t]})
 (base:Nat) (e:TypeId) (i:TypeInfo) (z:Value) (size bytes:Nat) (ht:P.underlying t=some (.slice e)) (hi:P.info? e=some i) (hz:i.zero=some z)
 (hsize:i.size=size) (hby:i.bytes=bytes) (hzs:z.cells.size=size) (hsz:0<size)
 (v:Value) (n:Nat) (xs:List Value) (hs:a.eval s=v) (hown:W.ownsRow base e size v n xs)
 (A2:OA) (m c:Nat) (f:Nat→Value) (hx:a.eval x=.slice A2 m c) (hrd:Rd W A2 (m*size) f) (h1:∀j,(f j).oneCell'=true)
 (h63:n+m≤maxLen) (hbytes:(n+m)*bytes≤140737488355328) (hbase:base≤W.heap.size)
 (h:∀v' w',w'.ownsRow base e size v' (n+m) (xs++(List.range (m*size)).map f)→Fr W w' (fun b=>v.ownBlock=some b)→K (a.put o.dst v') w'):
 if cond=true then Oper.wp P o a W K Q else E:=by
 rw[if_pos hcond]
 rcases A2 with _|ad
 ·have hm:m=0:=by
   rcases Nat.eq_zero_or_pos m with h0|h0
   ·exact h0
   ·obtain⟨g,o',e,_⟩:=hrd (Nat.mul_pos h0 hsz)
    cases e
  subst hm;have hr:=nY (P:=P) W base t o.type e i size ht hi v n xs hown c;unfold Oper.wp execOp
  simp only[ho,resolve,invoke,builtin,Sem.run_bind,Sem.run_pure,Result.andThen_ok,List.map_toArray,List.map_cons,List.map_nil,hs,hx,hr]
  exact h _ _ (by simpa using hown) (Fr.refl _ _)
 ·refine wp_append_own W s x t ho base e i z size bytes ht hi hz hsize hby hzs hsz v n xs hs hown ad m c ((List.range (m*size)).map f) hx qj (fun j u hu=>?_) (fun u hu=>?_) h63 hbytes hbase ?_
  ·obtain⟨hj,rfl⟩:j<m*size∧f j=u:=by
    by_cases hj:j<m*size
    ·simp[hj]at hu;exact⟨hj,hu⟩
    ·rw[List.getElem?_eq_none (by simpa using hj)]at hu;cases hu
   obtain⟨g,o',e,_,hr⟩:=hrd qo;injection e with e;subst e;rw[Addr.add_lit];exact hr j hj
  ·obtain⟨j,_,rfl⟩:=List.mem_map.1 hu
   exact h1 j
  ·intro v' w' h2 h3 _
   exact h v' w' h2 ⟨h3.os,h3.tape,h3.output,h3.size,fun b hb hne=>h3.block b hb (fun e=>hne e.symm)⟩
def bB (s:aP)(b x:Int)(m:Nat):aP:=if b=1 then{s with f:=fun q=>if q=x.toNat then m else s.f q}else{s with k:=fun q=>if q=x.toNat then m else s.k q}
theorem j3 (s:aP)(b x:Int)(m:Nat):(bB s b x m).W=s.W:=by unfold bB;split<;>rfl
theorem pF (s:aP)(b x:Int)(m:Nat):(bB s b x m).rk=s.rk:=by unfold bB;split<;>rfl
theorem IX (s:aP)(b x:Int)(m:Nat):(bB s b x m).n=s.n:=by unfold bB;split<;>rfl
section
variable {tg:Nat→Nat}{a:bV}{s:aP}{D:Nat}{w:World}
theorem Mem.put (h:Mem tg a s w){b x:Int}{v:Value}{m:Nat}(hx:0≤x)(hx1:x<s.W)(hv:bR w v m)(hf:∀q,v.ownBlock=some q→tg q=0){w':World}(hw':∃w1,Below w.heap.size w w1∧w'=w1.setCell ⟨cA a b,x.toNat,none⟩ v):
 ∃eZ a',a'.g=a.g∧Mem eZ a' (bB s b x m) w'∧Fr w w' (fZ tg)∧∀q,eZ q≠0→tg q≠0∨v.ownBlock=some q:=by
 obtain⟨w1,hb,rfl⟩:=hw';have h1:=h.below hb;have hv1:bR w1 v m:=hv.blk fun q hq=>hb.block q (hv.lt q hq);have ht:∀(c q:Nat),retag tg v c q≠0→tg q≠0∨v.ownBlock=some q:=fun c q hq=>by
  unfold retag at hq
  split at hq
  ·exact .inr ‹_›
  ·exact .inl hq
 have hfr:Fr w (w1.setCell ⟨cA a b,x.toNat,none⟩ v) (fZ tg):=(Fr.of_below hb _).set (by
  unfold fZ cA;show tg (if b=1 then a.gf else a.gk)≠0
  split
  ·rw[h.tf];omega
  ·rw[h.tk];omega) v
 by_cases hb1:b=1
 ·subst hb1
  exact⟨_,{a with F:=fun q=>if q=x.toNat then v else a.F q},rfl,h1.aai (h1.rest (8+2*x.toNat) fun _ _ _=>rfl) ql qo hv1 fun q hq=>.inl (hf q hq),hfr,ht _⟩
 ·have e1:cA a b=a.gk:=if_neg hb1
  have e2:bB s b x m={s with k:=fun q=>if q=x.toNat then m else s.k q}:=if_neg hb1;rw[e1]at hfr ⊢;rw[e2];exact⟨_,{a with K:=fun q=>if q=x.toNat then v else a.K q},rfl,h1.aah (h1.rest (9+2*x.toNat) fun _ _ _=>rfl) ql qo hv1 fun q hq=>.inl (hf q hq),hfr,ht _⟩
end
theorem Fr.next {w w1 w2:World}{F F2:Nat→Prop}(h:Fr w w1 F)(h2:Fr w1 w2 F2)(hF:∀b,F2 b→F b∨w.heap.size≤b):Fr w w2 F:=
 ⟨h2.os.trans h.os,h2.tape.trans h.tape,h2.output.trans h.output,Nat.le_trans h.size h2.size,fun b hb hn=>(h2.block b (Nat.lt_of_lt_of_le hb h.size) fun h'=>(hF b h').elim hn (fun _=>by omega)).trans (h.block b hb hn)⟩
theorem VR {w:World}{B B':Nat}{e:TypeId}{size n:Nat}{v:Value}{xs:List Value}(ho:w.ownsRow B e size v n xs)(h:∀b,v.ownBlock=some b→B'≤b):w.ownsRow B' e size v n xs:=by
 obtain⟨hl,hn|⟨g,cap,cur,rfl,hb,hr⟩⟩:=ho
 ·exact⟨hl,.inl hn⟩
 ·exact⟨hl,.inr ⟨g,cap,cur,rfl,h g rfl,hr⟩⟩
structure At (wb:World)(eP:Nat→Nat)(g:Nat)(s:aP)(w:World)(tg:Nat→Nat)(a:bV):Prop where
 g:a.g=g
 m:Mem tg a s w
 f:Fr wb w (fZ eP)
 t:∀q,tg q≠0→eP q≠0∨wb.heap.size≤q
section
variable {wb:World}{eP tg:Nat→Nat}{a:bV}{s:aP}{w w':World}{g:Nat}
theorem At.start (h:Mem tg a s w):At w tg a.g s w tg a:=⟨rfl,h,Fr.refl _ _,fun _ hq=>.inl hq⟩
theorem At.moved (h:At wb eP g s w tg a):Moved wb eP g s w:=⟨tg,a,h.g,h.m,h.f,h.t⟩
theorem At.below (h:At wb eP g s w tg a)(hb:Below w.heap.size w w'):At wb eP g s w' tg a:=⟨h.g,h.m.below hb,h.f.fM (hb.mono h.f.size),h.t⟩
theorem At.fr (h:At wb eP g s w tg a)(hf:Fr w w' (fZ tg)):Fr wb w' (fZ eP):=h.f.next hf h.t
theorem At.next {s':aP}(h:At wb eP g s w tg a)(hm:Moved w tg g s' w'):∃eZ a',At wb eP g s' w' eZ a'∧Fr w w' (fZ tg)∧∀q,eZ q≠0→tg q≠0∨w.heap.size≤q:=by
 obtain⟨eZ,a',hg,hm',hf,ht⟩:=hm;refine⟨eZ,a',⟨hg,hm',h.fr hf,fun q hq=>?_⟩,hf,ht⟩
 rcases ht q hq with h1|h1
 ·exact h.t q h1
 ·exact .inr (Nat.le_trans h.f.size h1)
theorem At.free (h:At wb eP g s w tg a){b:Nat}(hb:eP b=0)(hlt:b<wb.heap.size):tg b=0:=Decidable.byContradiction fun hn=>by
 rcases h.t b hn with h1|h1
 ·exact h1 hb
 ·omega
theorem At.op (h:At wb eP g s w tg a){bo o:Nat}{k d fb fa tb ta c r:Int}(ho:kO bo o k d fb fa tb ta c r wb)(hb:eP bo=0):kO bo o k d fb fa tb ta c r w∧tg bo=0:=
 ⟨(gN bo o k d fb fa tb ta c r).fr ho h.f fun b hF hn=>by subst hF;exact hn hb,h.free hb (World.block_lt_of_cell? wb _ ho.c0)⟩
theorem At.UZ {v:Value}(h:At wb eP g s w tg a)(hf:∀q,v.ownBlock=some q→w.heap.size≤q∨tg q=0)(hv:∀q,v.ownBlock=some q→q<w.heap.size)(hnew:∀q,v.ownBlock=some q→wb.heap.size≤q):At wb eP g s w (retag tg v 7) a:=
 ⟨h.g,h.m.UZ (fun q hq=>(hf q hq).elim (fun h1=>absurd (hv q hq) qo) .inl) hv,h.f,fun q hq=>by
  unfold retag at hq
  split at hq
  ·exact .inr (hnew q ‹_›)
  ·exact h.t q hq⟩
theorem At.put (h:At wb eP g s w tg a){b x:Int}{v:Value}{m:Nat}(hx:0≤x)(hx1:x<s.W)(hv:bR w v m)(hf:∀q,v.ownBlock=some q→tg q=0∧wb.heap.size≤q)(hw':∃w1,Below w.heap.size w w1∧w'=w1.setCell ⟨cA a b,x.toNat,none⟩ v):
 ∃eZ a',At wb eP g (bB s b x m) w' eZ a':=by
 obtain⟨eZ,a',hg,hm,hfr,ht⟩:=h.m.put hx hx1 hv (fun q hq=>(hf q hq).1) hw';refine⟨eZ,a',hg.trans h.g,hm,h.fr hfr,fun q hq=>?_⟩
 rcases ht q hq with h1|h1
 ·exact h.t q h1
 ·exact .inr (hf q h1).2
end
section
variable {tg:Nat→Nat}{a:bV}{s:aP}{D:Nat}{w:World}
def xL (w:World)(tg:Nat→Nat)(g:Nat)(code:Int)(s':aP)(e:Ending)(w':World):Prop:=e=.returned (.int .i64 code)∧Fr w w' (fZ tg)∧(code=0→Moved w tg g s' w')
def fO (s:aP)(fb fa tb ta:Int):Int:=if aO fb fa s.rk=aO tb ta s.rk then(if aU s fb fa=0 then 7 else if 4<aU s fb fa+aU s tb ta then 5 else 0)else 8
def bO (s:aP)(fb fa tb ta:Int):aP:=bB (bB s tb ta (aU s fb fa+aU s tb ta)) fb fa 0
theorem Mem.nP (H:Mem tg a s w){b x:Int}(hx:0≤x)(hx1:x<s.W):bR w (lR a b x) (aU s b x):=by
 unfold lR aU
 split
 ·exact H.lf _ qo
 ·exact H.lk _ qo
theorem cY (hs:d8 s D){b x:Int}(hx:0≤x)(hx1:x<s.W):aU s b x≤4:=by
 unfold aU
 split
 ·exact hs.fb _ qo
 ·exact hs.kb _ qo
theorem LX (bo o:Nat)(k d fb fa tb ta c r:Int)(H:Mem tg a s w)(hs:d8 s D)(ho:kO bo o k d fb fa tb ta c r w)(cQ:tg bo=0)(ha0:0≤fa)(ha1:fa<s.W)(gB:0≤ta)(iY:ta<s.W):
 Calls Tryz.prog 140 #[.pointer (some ⟨a.g,0,none⟩),.pointer (some ⟨bo,o,none⟩)] w (xL w tg a.g (fO s fb fa tb ta) (bO s fb fa tb ta)):=by
 obtain⟨i0,hi,iz,is,ib⟩:=info_parts zR;have hw2:=hs.w2;have hr1:=hs.r1;have hr2:=hs.r2;obtain⟨nf,hnf⟩:=qx (aU s fb fa);obtain⟨nt,hnt⟩:=qx (aU s tb ta);have lT:nf≤4:=by rw[hnf];exact cY hs ha0 ha1
 have su:nt≤4:=by rw[hnt];exact cY hs gB iY
 have hlf:bR w (lR a fb fa) nf:=by rw[hnf];exact H.nP ha0 ha1
 have hlt:bR w (lR a tb ta) nt:=by rw[hnt];exact H.nP gB iY
 obtain⟨Af,cf,hvf⟩:=hlf.form;obtain⟨Au,cu,JJ⟩:=hlt.form;have lF:=qh hvf;have Q6:=qh JJ;rw[hvf]at hlf;rw[JJ]at hlt;have rR:=qh hlf;have iO:=qh hlt;have HH:=qh H;have HO:=qh ho;have o2:=ho.c2;have o3:=ho.c3;have o4:=ho.c4;have o5:=ho.c5;have m1:w.cell? ⟨a.g,1,none⟩=some (.int .i64 s.rk):=H.m.cell 1;have hgo:=World.block_lt_of_cell? w _ o2;have hgm:=World.block_lt_of_cell? w _ m1;have vP:=qh hgo;have Xl:=qh hgm;have fD:=qh m1;have jS:=qh hnf;have TN:=qh hnt;clear hvf JJ hlf hlt H ho hnf hnt
 go_enter Tryz.func140,Tryz.ntmps140
 go_wp2_with fail
 refine(xX fb fa w HH.o ha0 ha1).mono ?_;rintro e w1 ⟨rfl,hb1⟩;rw[lF.o];have HB1:=qh hb1;have k4:=((aC HB1.o).1 bo (o+4) vP.o).trans o4;have k5:=((aC HB1.o).1 bo (o+4+1) vP.o).trans o5;clear hb1 o4 o5 m1 o2 o3 hgo hgm
 go_wp2_with fail
 refine(xX tb ta w1 (HH.o.below HB1.o) gB iY).mono ?_;rintro e w2 ⟨rfl,hb2⟩;rw[Q6.o];have HB2:Hq (Below w.heap.size w w2):=HB1.st hb2;have o2:=((aC HB2.o).1 bo (o+2) vP.o).trans HO.o.c2;have o3:=((aC HB2.o).1 bo (o+2+1) vP.o).trans HO.o.c3;have o4:=((aC HB2.o).1 bo (o+4) vP.o).trans HO.o.c4;have o5:=((aC HB2.o).1 bo (o+4+1) vP.o).trans HO.o.c5;have m1:=((aC HB2.o).1 a.g 1 Xl.o).trans fD.o;clear hb2 k4 k5
 go_wp2_with fail
 obtain⟨x1,hx1⟩:=qx (aO fb fa s.rk);obtain⟨x2,hx2⟩:=qx (aO tb ta s.rk);have jE:=qh hx1;have dP:=qh hx2;clear hx1 hx2;have O4:=qh o4;have O5:=qh o5;have O2:=qh o2;have O3:=qh o3;have M1:=qh m1;have HG2:=qh (Nat.lt_of_lt_of_le vP.o HB2.o.size);have dA:=qh (Nat.lt_of_lt_of_le Xl.o HB2.o.size)
 go_region_held3 (fun w'=>w'.cell? ⟨bo,o+2,none⟩=some (.int .i64 fb)∧w'.cell? ⟨bo,o+2+1,none⟩=some (.int .i64 fa)∧w'.cell? ⟨bo,o+4,none⟩=some (.int .i64 tb)∧w'.cell? ⟨bo,o+4+1,none⟩=some (.int .i64 ta)∧w'.cell? ⟨a.g,1,none⟩=some (.int .i64 s.rk)) (go_keep)
  (first
   |(go_at_call_of 136 fa;refine(tV fb fa s.rk w2.drew ha0 qo hr1 hr2).mono ?_;rintro e w3 ⟨he,hb3⟩;obtain rfl:e=.returned (.int .i64 x1):=he.trans (by rw[jE.o]);have HB3:Hq (Below w2.heap.size w2 w3):=qh (((Below.refl w2.heap.size w2).drew).trans hb3);have BD:=((aC HB3.o).1 bo (o+2) HG2.o).trans O2.out;have EJ:=((aC HB3.o).1 bo (o+2+1) HG2.o).trans O3.out;have WK:=((aC HB3.o).1 bo (o+4) HG2.o).trans O4.out;have Iz:=((aC HB3.o).1 bo (o+4+1) HG2.o).trans O5.out;have Jd:=((aC HB3.o).1 a.g 1 dA.o).trans M1.out;clear hb3 he)
   |(go_at_call_of 136 ta;refine(tV tb ta s.rk w3 gB qo hr1 hr2).mono ?_;rintro e w4 ⟨he,hb4⟩;obtain rfl:e=.returned (.int .i64 x2):=he.trans (by rw[dP.o]);have aW:Hq (Below w2.heap.size w2 w4):=HB3.st hb4;have Vq:=((aC aW.o).1 bo (o+2) HG2.o).trans O2.out;have Vp:=((aC aW.o).1 bo (o+2+1) HG2.o).trans O3.out;have ky4:=((aC aW.o).1 bo (o+4) HG2.o).trans O4.out;have ky5:=((aC aW.o).1 bo (o+4+1) HG2.o).trans O5.out;have ky1:=((aC aW.o).1 a.g 1 dA.o).trans M1.out;clear hb4 he BD EJ WK Iz Jd))
 rename_i hHeld
 clear hHeld o2 o3 o4 o5 m1 ky1;have lP:Hq (Below w.heap.size w w4):=qh (HB2.o.trans (aW.o.mono HB2.o.size));have pQ:=qh (show fO s fb fa tb ta=if x1=x2 then(if nf=0 then 7 else if 4<nf+nt then 5 else 0)else 8 by rw[jE.o,dP.o,jS.o,TN.o];rfl);clear jE dP
 by_cases Vu:x1=x2
 ·subst Vu
  by_cases h0:nf=0
  ·subst h0
   go_wp2_with fail
   go_ret
   exact⟨by rw[pQ.o];simp,Fr.of_below lP.o _,fun h=>by rw[pQ.o]at h;simp at h⟩
  ·have h0':((nf:Int)==0)=false:=by simp;omega
   by_cases h4:4<nf+nt
   ·have HC:=qh (show fO s fb fa tb ta=5 by rw[pQ.o];simp[h0,h4])
    go_wp2_with fail
    go_ret
    exact⟨by rw[HC.o];rfl,Fr.of_below lP.o _,fun h=>by rw[HC.o]at h;omega⟩
   ·have HC:=qh (show fO s fb fa tb ta=0 by rw[pQ.o];simp[h0,h4])
    have adk:=lP
    by_cases htb:tb=2
    ·subst htb
     go_wp2_with fail
     go_region_held3 (fun w'=>w'.cell? ⟨bo,o+4,none⟩=some (.int .i64 2)∧w'.cell? ⟨bo,o+4+1,none⟩=some (.int .i64 ta)) (go_keep)
      (first
       |(go_at_call 132;refine(zP _ nf w4.drew (rR.o.blk fun q hq=>adk.o.block q (rR.o.lt q hq)) qo).mono ?_;rintro e w5 ⟨vo,rfl,hlo,hnew,hb5⟩;obtain⟨Ao,co,rfl⟩:=hlo.form;have bG:Hq (Below w.heap.size w w5):=qh (lP.o.trans (((Below.refl w4.heap.size w4).drew.trans hb5).mono lP.o.size));have WK:=((aC bG.o).1 bo (o+4) vP.o).trans HO.o.c4;have Iz:=((aC bG.o).1 bo (o+4+1) vP.o).trans HO.o.c5;obtain⟨xs,hxs⟩:=hlo;have C6:=qh (VR hxs (B':=w.heap.size) fun q hq=>Nat.le_trans lP.o.size (hnew q hq));obtain⟨A9,c9,ys,Jy,hrd⟩:=(iO.o.blk fun q hq=>bG.o.block q (iO.o.lt q hq)).rd;injection Jy with e1 e2 e3;subst e1 e3;have hJ:=qh hrd;clear hxs hnew hb5 hrd e2)
       |(refine S6 w5 (by rfl) (.tmp 59) (.tmp 60) _ (by rfl) w.heap.size 2 i0 _ 1 8 Tryz.underlying61 hi iz is ib rfl qo (.slice Ao nf co) nf (ints xs) (by rfl) C6.o Au nt cu (fun j=>.int .i64 (ys.getD j 0)) (by rfl) (by rw[Nat.mul_one];exact hJ.o) (fun j=>rfl) qm qo bG.o.size ?_;intro v6 w6 hown6 JQ;obtain⟨A6,c6,rfl⟩:=aE hown6;have bE:Hq (Below w.heap.size w w6):=qh (bG.o.trans (JQ.own C6.o bG.o.size));rw[Nat.mul_one,zQ,←aL]at hown6;have F3:Hq (bR w6 (.slice A6 (nf+nt) c6) (nf+nt)):=qh ⟨_,eU hown6 (Nat.zero_le _)⟩;have QD:=qh (KU hown6);have kz4:=((aC bE.o).1 bo (o+4) vP.o).trans HO.o.c4;have kz5:=((aC bE.o).1 bo (o+4+1) vP.o).trans HO.o.c5;clear hown6 JQ WK Iz)
       |(go_at_call 142;refine(mI 2 ta _ w6 (HH.o.below bE.o) gB iY ⟨_,_,_,rfl⟩).mono ?_;rintro e w8 ⟨rfl,hset⟩;obtain⟨AU,a1,BP⟩:=((At.start HH.o).below bE.o).put (m:=nf+nt) gB iY F3.o (fun q hq=>⟨Decidable.byContradiction fun hn=>by have:=HH.o.lt q hn;have:=QD.o q hq;omega,QD.o q hq⟩) hset;have HAT:=qh BP;have kv4:=(HAT.o.op HO.o cQ).1.c4;have kv5:=(HAT.o.op HO.o cQ).1.c5;clear hset BP kz4 kz5))
     rename_i hHeld
     clear hHeld Vq Vp ky4 ky5 kv4 kv5;have k2:=(HAT.o.op HO.o cQ).1.c2;have k3:=(HAT.o.op HO.o cQ).1.c3
     go_wp2_with fail
     have oH:Below w8.heap.size w8 (w8.alloc (.cells #[] 2)):=qb;have tX:=mI fb fa (.slice (some ⟨w8.heap.size,0,none⟩) 0 0) _ (HAT.o.below oH).m ha0 (by rw[j3];exact ha1) ⟨_,_,_,rfl⟩;rw[HAT.o.g]at tX;refine tX.mono ?_;rintro e w9 ⟨rfl,iJ⟩;obtain⟨xM,a2,fI⟩:=(HAT.o.below oH).put (m:=0) ha0 (by rw[j3];exact ha1) ⟨[],World.ownsRow_made w8 #[] 0 (Nat.zero_le _) qm rfl⟩ (fun q hq=>by
      injection hq with hq;subst hq;exact⟨Decidable.byContradiction fun hn=>Nat.lt_irrefl _ (HAT.o.m.lt _ hn),HAT.o.f.size⟩) iJ
     have HA2:=qh fI;clear fI iJ tX oH k2 k3
     go_wp2_with fail
     go_ret
     exact⟨by rw[HC.o];rfl,HA2.o.f,fun _=>⟨xM,a2,by have h:=HA2.o;unfold bO;rw[←jS.o,←TN.o];exact⟨h.g,h.m,h.f,h.t⟩⟩⟩
    ·have htb':(tb==2)=false:=by simpa using htb
     go_wp2_with fail
     go_region_held3 (fun w'=>w'.cell? ⟨bo,o+4,none⟩=some (.int .i64 tb)∧w'.cell? ⟨bo,o+4+1,none⟩=some (.int .i64 ta)) (go_keep)
      (first
       |(go_at_call 132;refine(zP _ nt w4.drew (iO.o.blk fun q hq=>adk.o.block q (iO.o.lt q hq)) qo).mono ?_;rintro e w5 ⟨vo,rfl,hlo,hnew,hb5⟩;obtain⟨Ao,co,rfl⟩:=hlo.form;have bG:Hq (Below w.heap.size w w5):=qh (lP.o.trans (((Below.refl w4.heap.size w4).drew.trans hb5).mono lP.o.size));have WK:=((aC bG.o).1 bo (o+4) vP.o).trans HO.o.c4;have Iz:=((aC bG.o).1 bo (o+4+1) vP.o).trans HO.o.c5;obtain⟨xs,hxs⟩:=hlo;have C6:=qh (VR hxs (B':=w.heap.size) fun q hq=>Nat.le_trans lP.o.size (hnew q hq));obtain⟨A9,c9,ys,Jy,hrd⟩:=(rR.o.blk fun q hq=>bG.o.block q (rR.o.lt q hq)).rd;injection Jy with e1 e2 e3;subst e1 e3;have hJ:=qh hrd;clear hxs hnew hb5 hrd e2)
       |(refine S6 w5 (by rfl) (.tmp 69) (.tmp 70) _ (by rfl) w.heap.size 2 i0 _ 1 8 Tryz.underlying61 hi iz is ib rfl qo (.slice Ao nt co) nt (ints xs) (by rfl) C6.o Af nf cf (fun j=>.int .i64 (ys.getD j 0)) (by rfl) (by rw[Nat.mul_one];exact hJ.o) (fun j=>rfl) qm qo bG.o.size ?_;intro v6 w6 hown6 JQ;obtain⟨A6,c6,rfl⟩:=aE hown6;have bE:Hq (Below w.heap.size w w6):=qh (bG.o.trans (JQ.own C6.o bG.o.size));rw[Nat.mul_one,zQ,←aL]at hown6;have F3:Hq (bR w6 (.slice A6 (nt+nf) c6) (nt+nf)):=qh ⟨_,eU hown6 (Nat.zero_le _)⟩;have QD:=qh (KU hown6);have kz4:=((aC bE.o).1 bo (o+4) vP.o).trans HO.o.c4;have kz5:=((aC bE.o).1 bo (o+4+1) vP.o).trans HO.o.c5;clear hown6 JQ WK Iz)
       |(go_at_call 142;refine(mI tb ta _ w6 (HH.o.below bE.o) gB iY ⟨_,_,_,rfl⟩).mono ?_;rintro e w8 ⟨rfl,hset⟩;obtain⟨AU,a1,BP⟩:=((At.start HH.o).below bE.o).put (m:=nt+nf) gB iY F3.o (fun q hq=>⟨Decidable.byContradiction fun hn=>by have:=HH.o.lt q hn;have:=QD.o q hq;omega,QD.o q hq⟩) hset;have HAT:=qh BP;have kv4:=(HAT.o.op HO.o cQ).1.c4;have kv5:=(HAT.o.op HO.o cQ).1.c5;clear hset BP kz4 kz5))
     rename_i hHeld
     clear hHeld Vq Vp ky4 ky5 kv4 kv5;have k2:=(HAT.o.op HO.o cQ).1.c2;have k3:=(HAT.o.op HO.o cQ).1.c3
     go_wp2_with fail
     have oH:Below w8.heap.size w8 (w8.alloc (.cells #[] 2)):=qb;have tX:=mI fb fa (.slice (some ⟨w8.heap.size,0,none⟩) 0 0) _ (HAT.o.below oH).m ha0 (by rw[j3];exact ha1) ⟨_,_,_,rfl⟩;rw[HAT.o.g]at tX;refine tX.mono ?_;rintro e w9 ⟨rfl,iJ⟩;obtain⟨xM,a2,fI⟩:=(HAT.o.below oH).put (m:=0) ha0 (by rw[j3];exact ha1) ⟨[],World.ownsRow_made w8 #[] 0 (Nat.zero_le _) qm rfl⟩ (fun q hq=>by
      injection hq with hq;subst hq;exact⟨Decidable.byContradiction fun hn=>Nat.lt_irrefl _ (HAT.o.m.lt _ hn),HAT.o.f.size⟩) iJ
     have HA2:=qh fI;clear fI iJ tX oH k2 k3
     go_wp2_with fail
     go_ret
     exact⟨by rw[HC.o];rfl,HA2.o.f,fun _=>⟨xM,a2,by have h:=HA2.o;unfold bO;rw[←jS.o,←TN.o,Nat.add_comm nf nt];exact⟨h.g,h.m,h.f,h.t⟩⟩⟩
 ·have hxx':(x1==x2)=false:=by simpa using Vu
  go_wp2_with fail
  go_ret
  exact⟨by rw[pQ.o,if_neg Vu];rfl,Fr.of_below lP.o _,fun h=>by rw[pQ.o,if_neg Vu]at h;omega⟩
end
end Go.Proofs.YtimlpmbabbbcaaaGreat
