/- Walks and plain lemmas. -/
import Derived.Test.YtimlpmbabbbcaaaGreatP07
import Derived.Test.YtimlpmbabbbcaaaGreatP06
set_option linter.unusedVariables false
set_option linter.unusedSimpArgs false
set_option maxHeartbeats 4000000
set_option maxRecDepth 20000
namespace Go.Proofs.YtimlpmbabbbcaaaGreat
open Go.RowKit
theorem Vs:(Tryz.prog.info? 191).map (fun i=>(i.zero,i.size,i.bytes))=some (some (.agg #[.int .i64 0,.int .i64 0,.int .i64 0,.int .i64 0,.int .i64 0,.slice none 0 0]),6,64):=by kernel_rfl
theorem zO {P:Program}{o:Oper}{cond:Bool}{a:Act}{K:Act→World→Prop}{Q:Exit→Act→World→Prop}{E:Prop}(W:World)(hcond:cond=true)(s x:Operand)(t:TypeId)
 (ho:o.op=.call {callee:=.builtin .append,args:=#[s,x],argTypes:=#[t,t]})
 (base:Nat) (e:TypeId) (i:TypeInfo) (z:Value) (size bytes:Nat) (ht:P.underlying t=some (.slice e)) (hi:P.info? e=some i) (hz:i.zero=some z)
 (hsize:i.size=size) (hby:i.bytes=bytes) (hzs:z.cells.size=size) (hsz:0<size)
 (v:Value) (n:Nat) (xs:List Value) (hs:a.eval s=v) (hown:W.ownsRow base e size v n xs)
 (te:TypeId) (m c:Nat) (news:List Value) (hx:a.eval x=.slice (some ⟨W.heap.size,0,none⟩) m c) (hl:news.length=m*size) (h1:∀u∈news,u.oneCell'=true)
 (h63:n+m≤maxLen) (hbytes:(n+m)*bytes≤140737488355328) (hbase:base≤W.heap.size)
 (h:∀v' w',w'.ownsRow base e size v' (n+m) (xs++news)→Fr W w' (fun b=>v.ownBlock=some b)→(v'.ownBlock=v.ownBlock∨v'.ownBlock=some (W.heap.size+1))→K (a.put o.dst v') w'):
 if cond=true then Oper.wp P o a (W.alloc (.cells news.toArray te)) K Q else E:=by
 rw[if_pos hcond];have hn:=heap_alloc_new W (.cells news.toArray te);obtain⟨v',w',hr,h2,h3,_,h5⟩:=run_append_own_at (P:=P) (W.alloc (.cells news.toArray te)) base t o.type e i z size bytes ht hi hz hsize hby hzs hsz v n xs (hown.alloc _) ⟨W.heap.size,0,none⟩ m c news hl (by
  intro j u hu;rw[Addr.add_lit,cell_of_row _ _ _ _ _ _ hn]
  simpa using hu) h1 h63 hbytes (by simp;omega)
 unfold Oper.wp execOp
 simp only[ho,resolve,invoke,builtin,Sem.run_bind,Sem.run_pure,Result.andThen_ok,List.map_toArray,List.map_cons,List.map_nil,hs,hx,hr]
 refine h v' w' h2 ⟨h3.os,h3.tape,h3.output,Nat.le_trans qj h3.size,fun b hb hne=>?_⟩ (by simpa using h5);exact(h3.block b (by simp;omega) (fun e=>hne e.symm)).trans (Below.heap_alloc W _ b hb)
section
variable {tg:Nat→Nat}{a:bV}{s:aP}{D:Nat}{w:World}
def adV (w:World)(tg:Nat→Nat)(g:Nat)(s:aP)(e:Ending)(w':World):Prop:=e=.returned (.int .i64 s.n)∧Moved w tg g {s with n:=s.n+1} w'
theorem DW (bo o:Nat)(k d fb fa tb ta c r:Int)(v:Value)(m:Nat)(H:Mem tg a s w)(hn:s.n<300)(ho:kO bo o k d fb fa tb ta c r w)(cQ:tg bo=0)(hv:bR w v m)(hm:m≤1048576):
 Calls Tryz.prog 175 #[.pointer (some ⟨a.g,0,none⟩),.pointer (some ⟨bo,o,none⟩),v] w (adV w tg a.g s):=by
 obtain⟨i0,hi,iz,is,ib⟩:=info_parts Vs;have hL:∃A c,a.L=.slice A s.n c:=by obtain⟨xs,hx,_⟩:=H.l;exact aE hx
 obtain⟨AL,cL,zF⟩:=hL;have m5:w.cell? ⟨a.g,5,none⟩=some (.slice AL s.n cL):=(H.m.cell 5).trans (by rw[←zF];rfl);have f5:w.frozen? ⟨a.g,5,none⟩=false:=H.m.frozen 5;have o0:=ho.c0;have o1:=ho.c1;have o2:=ho.c2;have o3:=ho.c3;have o6:=ho.c6;have HH:=qh H;have HO:=qh ho;have HV:=qh hv;obtain⟨Av,cv,hvf⟩:=hv.form;subst hvf;clear H ho hv
 go_enter Tryz.func175,Tryz.ntmps175
 go_wp2_with fail
 refine aY (S:=fun w'=>w'.cell? ⟨a.g,5,none⟩=some (.slice AL s.n cL)∧w'.cell? ⟨bo,o,none⟩=some (.int .i64 k)∧w'.cell? ⟨bo,o+1,none⟩=some (.int .i64 d)∧w'.cell? ⟨bo,o+2,none⟩=some (.int .i64 fb)∧w'.cell? ⟨bo,o+2+1,none⟩=some (.int .i64 fa)∧w'.cell? ⟨bo,o+6,none⟩=some (.int .i64 c)) _ qj qk qk ⟨m5,o0,o1,o2,o3,o6⟩ (fun hHeld=>?_)
 simp only[List.dropLast,List.getLast_cons_cons,List.getLast_singleton,List.length_cons,List.length_nil]
 refine qt 0 hHeld ?_
 simp only[List.getElem_toArray,List.getElem_cons_zero,Act.put,List.setIfInBounds_toArray,List.set_cons_zero,List.set_cons_succ]
 refine qt 1 hHeld ?_;refine qt 2 hHeld ?_;refine qt 3 hHeld ?_;refine qt 4 hHeld ?_;refine qt 5 hHeld ?_;refine qt 6 hHeld ?_;refine qt 7 hHeld ?_;refine qt 8 hHeld ?_;refine qt 9 hHeld ?_;refine qt 10 hHeld ?_;refine qt 11 hHeld ?_;refine qt 12 hHeld ?_;refine qt 13 hHeld ?_;refine qt 14 hHeld ?_;refine qt 15 hHeld ?_;refine qt 16 hHeld ?_;refine qt 17 hHeld ?_;refine qt 18 hHeld ?_;refine qt 19 hHeld ?_;refine qt 20 hHeld ?_;refine qt 21 hHeld ?_;refine qt 22 hHeld ?_;refine qt 23 hHeld ?_;refine qt 24 hHeld ?_;refine qt 25 hHeld ?_;refine qt 26 hHeld ?_;refine qt 27 hHeld ?_
 simp only[List.getElem_toArray,List.getElem_cons_succ,List.getElem_cons_zero,Act.put,List.setIfInBounds_toArray,List.set_cons_zero,List.set_cons_succ]
 refine wpAnyH_ready (rs:=[28]) qk qj ?_;refine AllReadyH.cons rfl (fun K hK=>?_) AllReadyH.nil
 simp only[List.getElem_toArray,List.getElem_cons_succ,List.getElem_cons_zero]
 go_simp
 refine(zP _ m w.drew (HV.o.blk fun _ _=>rfl) hm).mono ?_;rintro e w1 ⟨vp,rfl,hlp,hnp,hb1⟩;obtain⟨Ap,cp,rfl⟩:=hlp.form;have HB1:Hq (Below w.heap.size w w1):=qh (((Below.refl w.heap.size w).drew).trans hb1);have hg1:=HH.o.m;have OY:=((aC HB1.o).1 a.g 5 (World.block_lt_of_cell? w _ m5)).trans m5;have OX:=((aC HB1.o).1 bo o (World.block_lt_of_cell? w _ o0)).trans o0;have M4:=((aC HB1.o).1 bo (o+1) (World.block_lt_of_cell? w _ o0)).trans o1;have WO:=((aC HB1.o).1 bo (o+2) (World.block_lt_of_cell? w _ o0)).trans o2;have WN:=((aC HB1.o).1 bo (o+2+1) (World.block_lt_of_cell? w _ o0)).trans o3;have WM:=((aC HB1.o).1 bo (o+6) (World.block_lt_of_cell? w _ o0)).trans o6;clear hb1 m5 o0 o1 o2 o3 o6 hg1;refine hK.out _ _ ⟨OY,OX,M4,WO,WN,WM⟩ (fun bT=>?_);clear hK K hHeld;refine qt 29 bT ?_
 simp only[List.getElem_toArray,List.getElem_cons_succ,List.getElem_cons_zero,Act.put,List.setIfInBounds_toArray,List.set_cons_zero,List.set_cons_succ]
 refine wpAnyH_ready (rs:=[30]) qk qj ?_;refine AllReadyH.cons rfl (fun K hK=>?_) AllReadyH.nil
 simp only[List.getElem_toArray,List.getElem_cons_succ,List.getElem_cons_zero]
 go_simp
 refine hK.out _ _ (by go_keep) (fun dK=>?_);clear hK K bT;refine wpAnyH_ready (rs:=[31]) qk qj ?_;refine AllReadyH.cons rfl (fun K hK=>?_) AllReadyH.nil
 simp only[List.getElem_toArray,List.getElem_cons_succ,List.getElem_cons_zero]
 have H0:=HH.o.below HB1.o;have abb:Free tg (.slice Ap m cp) 7:=fun b hb=>.inl (Decidable.byContradiction fun hne=>by have h1:=HH.o.lt b hne;have h2:w.heap.size≤b:=hnp b hb;omega);obtain⟨p8,oS⟩:=qx (retag tg (.slice Ap m cp) 7);have H1:Mem p8 a s w1:=oS▸H0.UZ abb hlp.lt;have htp:fE p8 (.slice Ap m cp) 7:=oS▸pV _ _;have abk:p8 bo=0:=by
  rw[oS];unfold retag;rw[if_neg (fun e=>by have h1:bo<w.heap.size:=World.block_lt_of_cell? w _ HO.o.c0;have h2:w.heap.size≤bo:=hnp bo e;omega),cQ]
 have ht0:∀b,p8 b≠0→tg b≠0∨w.heap.size≤b:=fun b hb=>by
  rw[oS]at hb;unfold retag at hb
  split at hb
  ·exact .inr (hnp b ‹_›)
  ·exact .inl hb
 obtain⟨xs,hxs,hps⟩:=H1.l;rw[zF]at hxs;refine zO w1 (by rfl) (.tmp 11) (.tmp 37) _ (by rfl) 0 191 i0 _ 6 64 Tryz.underlying91 hi iz is ib rfl qo (.slice AL s.n cL) s.n xs (by rfl) hxs _ 1 1 [.int .i64 k,.int .i64 c,.int .i64 fb,.int .i64 fa,.int .i64 d,.slice Ap m cp] (by rfl) rfl (by simp[Value.oneCell']) qm qo (Nat.zero_le _) ?_;intro v2 w2 hown2 hfr2 fI;obtain⟨A2,c2,rfl⟩:=aE hown2;have gG:∀b,(Value.slice AL s.n cL).ownBlock=some b→p8 b=5:=fun b hb=>H1.tL b (by rw[zF];exact hb);have Qs:∀b,(Value.slice AL s.n cL).ownBlock=some b→tg b=5:=fun b hb=>H0.tL b (by rw[zF];exact hb);have hgn:¬(Value.slice AL s.n cL).ownBlock=some a.g:=fun e=>by have:=gG _ e;rw[H1.tm]at this;omega
 have hon:¬(Value.slice AL s.n cL).ownBlock=some bo:=fun e=>by have:=gG _ e;rw[abk]at this;omega
 have dM:=World.block_lt_of_cell? w1 _ OY;have hlo:=World.block_lt_of_cell? w1 _ OX;have Qf:=(hfr2.cells dM hgn 5).trans OY;have aaR:=(hfr2.cells hlo hon o).trans OX;have aaQ:=(hfr2.cells hlo hon (o+1)).trans M4;have aaP:=(hfr2.cells hlo hon (o+2)).trans WO;have aaO:=(hfr2.cells hlo hon (o+2+1)).trans WN;have aaN:=(hfr2.cells hlo hon (o+6)).trans WM;have afo:w2.frozen? ⟨a.g,5,none⟩=false:=(World.frozen?_of_block (w:=w1) (a:=⟨a.g,5,none⟩) (hfr2.block a.g dM hgn)).trans (H1.m.frozen 5);refine hK.out _ _ ⟨Qf,aaR,aaQ,aaP,aaO,aaN⟩ (fun bF=>?_);clear hK K dK;have r0:=H1.rest (w':=w2) 5 fun b hb h5=>hfr2.block b (H1.lt b hb) fun e=>h5 (gG b e);have hfree:Free p8 (.slice A2 (s.n+1) c2) 5:=fun b hb=>by
  rcases fI with h|h
  ·exact .inr (gG b (h.symm.trans hb))
  ·refine .inl (Decidable.byContradiction fun hne=>?_)
   have h1:=H1.lt b hne;rw[hb]at h;injection h with h;omega
 have HM:=qh (H1.Bu r0 hfr2.size (o8.more hown2 hxs.1 hps (T4 _ _ _ _ _ _) (by rfl) hm hlp htp fun b hb=>hfr2.block b (H1.lt b qo) fun e=>by have:=gG b e;omega) hfree);have HF:=qh (((Fr.of_below HB1.o (fZ tg)).trans (hfr2.mono fun b hb=>by unfold fZ;rw[Qs b hb];omega)).set (p:=⟨a.g,5,none⟩) (by unfold fZ;rw[H0.tm];omega) (.slice A2 (s.n+1) c2));have HT:=qh (show∀b,retag p8 (.slice A2 (s.n+1) c2) 5 b≠0→tg b≠0∨w.heap.size≤b from fun b hb=>by
  unfold retag at hb
  split at hb
  ·rcases fI with h|h
   ·exact .inl (by rw[Qs b (h.symm.trans ‹_›)];omega)
   ·refine .inr ?_
    rename_i h2
    rw[h2]at h;injection h with h;have:=HB1.o.size;omega
  ·exact ht0 b hb)
 clear gG Qs H0 abb htp abk ht0 hps hnp hlp oS hgn hon dM hlo OY OX M4 WO WN WM r0 hfree hfr2 hown2 fI H1 hxs;refine qt 32 bF ?_;refine qt 33 bF ?_
 simp only[List.getElem_toArray,List.getElem_cons_succ,List.getElem_cons_zero,Act.put,List.setIfInBounds_toArray,List.set_cons_zero,List.set_cons_succ]
 refine wpAnyH_done qk ?_ _;refine bZ.of ?_
 go_simp
 have k3:=World.cell?_setCell_same w2 ⟨a.g,5,none⟩ (.slice A2 (s.n+1) c2) Qf;clear bF Qf aaR aaQ aaP aaO aaN afo
 go_wp2_with fail
 go_ret
 exact⟨qg,_,{a with L:=.slice A2 (s.n+1) c2},rfl,HM.o,HF.o,HT.o⟩
end
end Go.Proofs.YtimlpmbabbbcaaaGreat
