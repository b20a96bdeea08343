/- Walks and plain lemmas. -/
import Derived.Test.YtimlpmbabbbcaaaGreatP22
set_option linter.unusedVariables false
set_option linter.unusedSimpArgs false
set_option maxHeartbeats 4000000
set_option maxRecDepth 20000
namespace Go.Proofs.YtimlpmbabbbcaaaGreat
open Go.RowKit
theorem OI {P:Program}{o:Oper}{cond:Bool}{a:Act}{K:Act→World→Prop}{Q:Exit→Act→World→Prop}{E:Prop}(W:World)(hcond:cond=true)(s x:Operand)(t:TypeId)
 (ho:o.op=.call {callee:=.builtin .append,args:=#[s,x],argTypes:=#[t,t]})
 (base:Nat) (e:TypeId) (i:TypeInfo) (z:Value) (size bytes:Nat) (ht:P.underlying t=some (.slice e)) (hi:P.info? e=some i) (hz:i.zero=some z)
 (hsize:i.size=size) (hby:i.bytes=bytes) (hzs:z.cells.size=size) (hsz:0<size)
 (v:Value) (n:Nat) (xs:List Value) (hs:a.eval s=v) (hown:W.ownsRow base e size v n xs)
 (g2 o2 m c:Nat) (f:Nat→Value) (hx:a.eval x=.slice (some ⟨g2,o2,none⟩) m c) (hrd:d7 W g2 o2 (m*size) f) (h1:∀j,(f j).oneCell'=true)
 (h63:n+m≤maxLen) (hbytes:(n+m)*bytes≤140737488355328) (hbase:base≤W.heap.size)
 (h:∀v' w',w'.ownsRow base e size v' (n+m) (xs++(List.range (m*size)).map f)→Fr W w' (fun b=>v.ownBlock=some b)→(v'.ownBlock=v.ownBlock∨v'.ownBlock=some W.heap.size)→K (a.put o.dst v') w'):
 if cond=true then Oper.wp P o a W K Q else E:=by
 rw[if_pos hcond];obtain⟨v',w',hr,h2,h3,_,h5⟩:=run_append_own_at (P:=P) W base t o.type e i z size bytes ht hi hz hsize hby hzs hsz v n xs hown ⟨g2,o2,none⟩ m c ((List.range (m*size)).map f) qj (by
  intro j u hu;obtain⟨hj,rfl⟩:j<m*size∧f j=u:=by
   by_cases hj:j<m*size
   ·simp[hj]at hu;exact⟨hj,hu⟩
   ·rw[List.getElem?_eq_none (by simpa using hj)]at hu;cases hu
  rw[Addr.add_lit];exact hrd j hj) (fun u hu=>by obtain⟨j,_,rfl⟩:=List.mem_map.1 hu;exact h1 j) h63 hbytes hbase
 unfold Oper.wp execOp
 simp only[ho,resolve,invoke,builtin,Sem.run_bind,Sem.run_pure,Result.andThen_ok,List.map_toArray,List.map_cons,List.map_nil,hs,hx,hr]
 exact h v' w' h2 ⟨h3.os,h3.tape,h3.output,h3.size,fun b hb hne=>h3.block b hb (fun e=>hne e.symm)⟩ h5
theorem At.adB {tg:Nat→Nat}{a:bV}{s:aP}{w w0 wb:World}{eP:Nat→Nat}{g:Nat}(h:At wb eP g s w0 tg a)(r0:zX tg a s 6 w)(hfr:Fr w0 w (fZ tg)){v:Value}{m:Nat}(hv:z8 w v m)(hf:Free tg v 6)(hnew:∀q,v.ownBlock=some q→eP q≠0∨wb.heap.size≤q):
 At wb eP g {s with d:=m} (w.setCell ⟨a.g,6,none⟩ v) (retag tg v 6) {a with D:=v}:=
 ⟨h.g,h.m.Bv r0 hfr.size hv hf,h.fr (hfr.set (p:=⟨a.g,6,none⟩) (by unfold fZ;rw[h.m.tm];omega) v),fun q hq=>by
  unfold retag at hq
  split at hq
  ·exact hnew q ‹_›
  ·exact h.t q hq⟩
theorem At.reD {tg:Nat→Nat}{a:bV}{s:aP}{w w0 wb:World}{eP:Nat→Nat}{g:Nat}(h:At wb eP g s w0 tg a)(hf:Fr w0 w (fun b=>a.D.ownBlock=some b))(hd:z8 w a.D s.d):At wb eP g s w tg a:=by
 have r:=h.m.rest (w':=w) 6 fun b hb h6=>hf.block b (h.m.lt b hb) fun e=>h6 (h.m.tD b e);exact⟨h.g,⟨r.m qo,(r.f qo).1,(r.f qo).2,(r.k qo).1,(r.k qo).2,(r.cr qo).1,(r.cr qo).2,fun i hi=>r.lf i hi qo,fun i hi=>r.lk i hi qo,r.l qo qo,hd,h.m.tm,h.m.tf,h.m.tk,h.m.tc,h.m.tL,h.m.tD,h.m.tF,h.m.tK,fun b hb=>Nat.lt_of_lt_of_le (h.m.lt b hb) hf.size⟩,
  h.fr (hf.mono fun b hb=>by unfold fZ;rw[h.m.tD b hb];omega),h.t⟩
section
variable {tg:Nat→Nat}{a:bV}{s:aP}{D:Nat}{w:World}
theorem Kv {d fb fa tb ta c r:Int}{j:Nat}(H:Mem tg a s w)(hs:d8 s D)(hD:D≤1000000)(hp:gZ s.W 6 d fb fa tb ta c r j)(hb:nZ 6 fb tb)(hf:rY 6 fb):Calls Tryz.prog 66 #[.pointer (some ⟨a.g,0,none⟩),.agg #[.int .i64 6,.int .i64 d,.int .i64 fb,.int .i64 fa,.int .i64 tb,.int .i64 ta,.int .i64 c,.int .i64 r]] w (MN w tg a.g (bJ s 6 d fb fa tb ta j) (eM s 6 d fb fa tb ta r j)):=by
 have hg:Below w.heap.size w (w.alloc (.cells #[.int .i64 6,.int .i64 d,.int .i64 fb,.int .i64 fa,.int .i64 tb,.int .i64 ta,.int .i64 c,.int .i64 r] 51)):=qb;have HG:=qh hg;have lI:=qh (At.start (H.below hg));have dG:=lU w 6 d fb fa tb ta c r;have dE:=qh dG;have iN:Hq (tg w.heap.size=0):=qh (Decidable.byContradiction fun hn=>Nat.lt_irrefl _ (H.lt _ hn));have hoc:=kU (H.below hg) hs hp hb hf;obtain⟨code,hcode⟩:=qx (bJ s 6 d fb fa tb ta j);rw[←hcode]at hoc ⊢;obtain⟨s9,iJ⟩:=qx (eM s 6 d fb fa tb ta r j);rw[←iJ];have HC:=qh hcode;have vZ:=qh iJ;have lZ:=qh hoc;have HS:=qh hs;have HP:=qh hp;have HB:=qh hb;have HF:=qh hf;have hlA:∃AL cL,a.L=.slice AL s.n cL:=lI.o.L;have zL:=qh hlA;clear H hs hp hb hf hg hoc hcode iJ dG hlA
 go_enter Tryz.func66,Tryz.ntmps66
 go_wp2_with fail
 refine lZ.o.mono ?_;rintro e w1 ⟨rfl,hb1⟩
 by_cases hc0:code=0
 ·subst hc0
  have HA1:=qh (lI.o.below hb1);have aT:=qh (HA1.o.op dE.o iN.o).1;clear hb1 lZ;obtain⟨i0,hi,iz,is,ib⟩:=info_parts zR;have j7:=HF.o qo;have ha0:=HP.o.f0;have ha1:=HP.o.f1;have hdb:=HS.o.db;have o0:=aT.o.c0;have o2:=aT.o.c2;have o3:=aT.o.c3;have HST:Hq (s9=bB {s with d:=s.d+aU s fb fa} fb fa 0):=qh (by rw[vZ.o];rfl);obtain⟨nf,hnf⟩:=qx (aU s fb fa);have lT:nf≤4:=by rw[hnf];exact cY HS.o ha0 ha1
  have hnz:nf≠0:=by
   have h:=HC.o;unfold bJ at h;rw[if_neg qo,if_neg qo,if_neg qo,if_pos rfl,←hnf]at h;intro h0;rw[if_pos h0]at h;omega
  have hlf:=HA1.o.m.nP (b:=fb) ha0 ha1;rw[←hnf]at hlf;obtain⟨Af,cf,hvf⟩:=hlf.form;have lF:=qh hvf;have jS:=qh hnf;rw[hvf]at hlf;obtain⟨FF,hrf⟩:=hlf.rdf;obtain⟨gl,ol,rfl,hgl,hrr⟩:=hrf qo;have HRR:=qh hrr;have HGL:=qh hgl;obtain⟨qd,sw,Vy⟩:=HA1.o.m.d;obtain⟨AD,cD,PG⟩:=Vy.form;rw[PG]at Vy;have HAD:=qh PG;have acN:=qh Vy;have Xb:Hq (∀q,(Value.slice AD qd cD).ownBlock=some q→tg q=6):=qh (by rw[←PG];exact HA1.o.m.tD);have m6:w1.cell? ⟨a.g,6,none⟩=some (.slice AD qd cD):=(HA1.o.m.m.cell 6).trans (by rw[←PG];rfl);have LG:=qh (World.block_lt_of_cell? w1 _ m6);have M6:=qh m6;have vI:=qh HA1.o.m.tm;clear hlf hvf hnf hrf hrr hgl Vy PG
  go_wp2_with fail
  go_region_law (first
   |(go_simp;go_at_call 102;(with_reducible refine(dJ fb fa (HA1.o.below ((Below.refl w1.heap.size w1).drew)).m j7 ha0 ha1).mono ?_);rintro e w2 ⟨rfl,hb2⟩;have HB2:Hq (Below w1.heap.size w1 w2):=qh (((Below.refl w1.heap.size w1).drew).trans hb2);have kc:=(HA1.o.below HB2.o).m.eL (b:=fb) ha0 ha1;rw[lF.o]at kc;have kd:=((aC HB2.o).1 a.g 6 LG.out).trans M6.out;have agF:=qh (acN.o.blk fun q hq=>HB2.o.block q (acN.o.lt q hq));obtain⟨xs,hxs⟩:=agF.o;have C6:=qh hxs;clear hb2 hxs)
   |(refine OI w2 (by rfl) (.tmp 62) (.tmp 68) _ (by rfl) 0 2 i0 _ 1 8 Tryz.underlying61 hi iz is ib rfl qo (.slice AD qd cD) qd (ints xs) (by rfl) C6.o gl ol nf cf (fun j=>.int .i64 (FF j)) (by rfl) (by rw[Nat.mul_one];exact HRR.o.below HGL.o HB2.o) (fun j=>rfl) qm qo (Nat.zero_le _) ?_;intro v5 w5 hown5 j9 l0;obtain⟨A5,c5,rfl⟩:=aE hown5;have q8:¬(Value.slice AD qd cD).ownBlock=some a.g:=(fun e=>by have h1:=Xb.o _ e;have h2:=vI.o;omega);have dM:a.g<w2.heap.size:=Nat.lt_of_lt_of_le LG.out HB2.o.size;have k6:=(j9.cells dM q8 6).trans kd;have f6:w5.frozen? ⟨a.g,6,none⟩=false:=(World.frozen?_of_block (w:=w2) (a:=⟨a.g,6,none⟩) (j9.block a.g dM q8)).trans ((HA1.o.below HB2.o).m.m.frozen 6);have ad4:=qh hown5;have ZJ:=qh j9;have agW:=qh l0;clear hown5 j9 l0 q8 dM))
  all_goals
   have HA2:=qh (HA1.o.below HB2.o);have nC:Hq (∀q,(Value.slice A5 (qd+nf) c5).ownBlock=some q→tg q=6∨(tg q=0∧w2.heap.size≤q)):=qh fun q hq=>by
    rcases agW.o with h|h
    ·exact .inl (Xb.o q (h.symm.trans hq))
    ·rw[hq]at h
     have h':q=w2.heap.size:=Option.some.inj h;exact .inr ⟨Decidable.byContradiction fun hn=>by have:=HA2.o.m.lt q hn;omega,by omega⟩
   have IA:Hq (bR w5 (.slice A5 (qd+nf) c5) (qd+nf)):=qh ⟨xs++(List.range nf).map FF,by have h:=ad4.o;rw[Nat.mul_one]at h;rw[aL];simpa [ints,Function.comp_def]using h⟩;have ID:=qh (HA2.o.adB (w:=w5) (v:=.slice A5 (qd+nf) c5) (m:=s.d+nf) (HA2.o.m.rest 6 fun b hb h6=>ZJ.o.block b (HA2.o.m.lt b hb) fun e=>h6 (Xb.o b e)) (ZJ.o.mono fun b hb=>by unfold fZ;rw[Xb.o b hb];omega) ⟨qd+nf,by omega,IA.o⟩ (fun q hq=>by rcases nC.o q hq with h|h;exact .inr h;exact .inl h.1) (fun q hq=>by rcases nC.o q hq with h|h;exact .inl qo;exact .inr (Nat.le_trans HA2.o.f.size h.2)));have F3:Hq (bR (w5.setCell ⟨a.g,6,none⟩ (.slice A5 (qd+nf) c5)) (.slice A5 (qd+nf) c5) (qd+nf)):=qh (IA.o.blk fun q hq=>bI _ _ _ _ (by
    intro e;have h2:=vI.o;have h3:=HA2.o.m.lt a.g qo;rw[←show q=a.g from e]at h2 h3
    rcases nC.o q hq with h|h<;>omega))
   clear kc kd m6 o0 o2 o3
   go_wp2_with fail
   refine(Pe _ (qd+nf) F3.o qo).mono ?_;rintro e w7 ⟨rfl,hl7,JR⟩;have CO:=qh (ID.o.reD JR ⟨qd+nf,by show qd+nf≤s.d+nf;omega,hl7⟩);have pC:=qh (CO.o.op dE.o iN.o).1;have z0:=pC.o.c0;have z2:=pC.o.c2;have z3:=pC.o.c3;clear hl7 JR k6 f6
   go_wp2_with fail
   have hon:=dJ fb fa CO.o.m j7 ha0 ha1;rw[show cA ({a with D:=.slice A5 (qd+nf) c5}:bV) fb=cA a fb from rfl]at hon;refine hon.mono ?_;rintro e w8 ⟨rfl,gY⟩;clear hon;have kA:=qh (CO.o.below gY);have k8:=kA.o.m.eL (b:=fb) ha0 ha1;replace k8:w8.cell? ⟨cA a fb,fa.toNat,none⟩=some (lR a fb fa):=k8;rw[lF.o]at k8;have f8:w8.frozen? ⟨cA a fb,fa.toNat,none⟩=false:=kA.o.m.NP (b:=fb) ha0 ha1;have IC:=qh (kA.o.N2 (b:=fb) ha0 ha1 (bR.nil w8) (fun q hq=>by cases hq) (fun q hq=>by cases hq));have CF:=qh (IC.o.op dE.o iN.o).1;have x0:(w8.setCell ⟨cA a fb,fa.toNat,none⟩ (.slice none 0 0)).cell? ⟨w.heap.size,0,none⟩=some (.int .i64 6):=CF.o.c0;clear gY z0 z2 z3
   go_wp2_with (go_at_call 101;refine(bA _ _ qo qo).mono ?_;rintro e w' ⟨rfl,rfl⟩)
   go_ret
   exact⟨rfl,fun h=>absurd rfl h,fun _=>Moved.of_below HG.o (by rw[HST.o,←jS.o];exact IC.o.moved)⟩
 ·have hc1:(code==0)=false:=by simpa using hc0
  have pR:=qh hc0;have HB1:=HG.st hb1;clear hb1 hc0
  go_wp2_with fail
  go_ret
  exact⟨rfl,fun _=>HB1.o,fun h=>absurd h pR.o⟩
end
end Go.Proofs.YtimlpmbabbbcaaaGreat
