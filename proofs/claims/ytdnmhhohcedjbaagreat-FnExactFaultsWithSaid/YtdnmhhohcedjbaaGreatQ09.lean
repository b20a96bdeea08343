/- Walks and plain lemmas. -/
import Derived.Test.YtdnmhhohcedjbaaGreatQ08
import Derived.Test.YtdnmhhohcedjbaaGreatQ07
set_option linter.unusedVariables false
set_option linter.unusedSimpArgs false
set_option maxHeartbeats 4000000
set_option maxRecDepth 20000
namespace Go.Proofs.YtdnmhhohcedjbaaGreat
open Go.RowKit
theorem Dz:(Tryz.prog.info? 126).map (fun i=>(i.zero,i.size,i.bytes))=some (some (.agg #[.int .i64 0,.int .i64 0,.int .i64 0,.int .i64 0,.int .i64 0,.slice none 0 0]),6,64):=by kernel_rfl
theorem pU {P:Program}{o:Oper}{cond:Bool}{a:Act}{K:Act→World→Prop}{Q:Exit→Act→World→Prop}{E:Prop}(W:World)(hcond:cond=true)(s x:Operand)(t:TypeId)
 (ho:o.op=.call {callee:=.builtin .append,args:=#[s,x],argTypes:=#[t,t]})
 (base:Nat) (e:TypeId) (i:TypeInfo) (z:Value) (size bytes:Nat) (ht:P.underlying t=some (.slice e)) (hi:P.info? e=some i) (hz:i.zero=some z)
 (hsize:i.size=size) (hby:i.bytes=bytes) (hzs:z.cells.size=size) (hsz:0<size)
 (v:Value) (n:Nat) (xs:List Value) (hs:a.eval s=v) (hown:W.ownsRow base e size v n xs)
 (te:TypeId) (m c:Nat) (news:List Value) (hx:a.eval x=.slice (some ⟨W.heap.size,0,none⟩) m c) (hl:news.length=m*size) (h1:∀u∈news,u.oneCell'=true)
 (h63:n+m≤maxLen) (hbytes:(n+m)*bytes≤140737488355328) (hbase:base≤W.heap.size)
 (h:∀v' w',w'.ownsRow base e size v' (n+m) (xs++news)→Fr W w' (fun b=>v.ownBlock=some b)→(v'.ownBlock=v.ownBlock∨v'.ownBlock=some (W.heap.size+1))→K (a.put o.dst v') w'):
 if cond=true then Oper.wp P o a (W.alloc (.cells news.toArray te)) K Q else E:=by
 rw[if_pos hcond];have hn:=heap_alloc_new W (.cells news.toArray te);obtain⟨v',w',hr,h2,h3,_,h5⟩:=run_append_own_at (P:=P) (W.alloc (.cells news.toArray te)) base t o.type e i z size bytes ht hi hz hsize hby hzs hsz v n xs (hown.alloc _) ⟨W.heap.size,0,none⟩ m c news hl (by
  intro j u hu;rw[Addr.add_lit,cell_of_row _ _ _ _ _ _ hn]
  simpa using hu) h1 h63 hbytes (by simp;omega)
 unfold Oper.wp execOp
 simp only[ho,resolve,invoke,builtin,Sem.run_bind,Sem.run_pure,Result.andThen_ok,List.map_toArray,List.map_cons,List.map_nil,hs,hx,hr]
 refine h v' w' h2 ⟨h3.os,h3.tape,h3.output,Nat.le_trans qj h3.size,fun b hb hne=>?_⟩ (by simpa using h5);exact(h3.block b (by simp;omega) (fun e=>hne e.symm)).trans (Below.heap_alloc W _ b hb)
section
variable {tg:Nat→Nat}{a:bC}{s:aI}{D:Nat}{w:World}
def afO (w:World)(tg:Nat→Nat)(g:Nat)(s:aI)(e:Ending)(w':World):Prop:=e=.returned (.int .i64 s.n)∧Moved w tg g {s with n:=s.n+1} w'
theorem CV (bo o:Nat)(k d fb fa tb ta c r:Int)(v:Value)(m:Nat)(H:Mem tg a s w)(hn:s.n<300)(ho:gI bo o k d fb fa tb ta c r w)(bK:tg bo=0)(hv:bE w v m)(hm:m≤1048576):
 Calls Tryz.prog 114 #[.pointer (some ⟨a.g,0,none⟩),.pointer (some ⟨bo,o,none⟩),v] w (afO w tg a.g s):=by
 obtain⟨i0,hi,iz,is,ib⟩:=info_parts Dz;have hL:∃A c,a.L=.slice A s.n c:=by obtain⟨xs,hx,_⟩:=H.l;exact aF hx
 obtain⟨AL,cL,iG⟩:=hL;have m5:w.cell? ⟨a.g,5,none⟩=some (.slice AL s.n cL):=(H.m.cell 5).trans (by rw[←iG];rfl);have f5:w.frozen? ⟨a.g,5,none⟩=false:=H.m.frozen 5;have o0:=ho.c0;have o1:=ho.c1;have o2:=ho.c2;have o3:=ho.c3;have o6:=ho.c6;have HH:=qh H;have HO:=qh ho;have HV:=qh hv;obtain⟨Av,cv,hvf⟩:=hv.form;subst hvf;clear H ho hv
 go_enter Tryz.func114,Tryz.ntmps114
 go_wp2_with fail
 refine cN (S:=fun w'=>w'.cell? ⟨a.g,5,none⟩=some (.slice AL s.n cL)∧w'.cell? ⟨bo,o,none⟩=some (.int .i64 k)∧w'.cell? ⟨bo,o+1,none⟩=some (.int .i64 d)∧w'.cell? ⟨bo,o+2,none⟩=some (.int .i64 fb)∧w'.cell? ⟨bo,o+2+1,none⟩=some (.int .i64 fa)∧w'.cell? ⟨bo,o+6,none⟩=some (.int .i64 c)) _ qj qk qk ⟨m5,o0,o1,o2,o3,o6⟩ (fun hHeld=>?_)
 simp only[List.dropLast,List.getLast_cons_cons,List.getLast_singleton,List.length_cons,List.length_nil]
 refine qt 0 hHeld ?_
 simp only[List.getElem_toArray,List.getElem_cons_zero,Act.put,List.setIfInBounds_toArray,List.set_cons_zero,List.set_cons_succ]
 refine qt 1 hHeld ?_;refine qt 2 hHeld ?_;refine qt 3 hHeld ?_;refine qt 4 hHeld ?_;refine qt 5 hHeld ?_;refine qt 6 hHeld ?_;refine qt 7 hHeld ?_;refine qt 8 hHeld ?_;refine qt 9 hHeld ?_;refine qt 10 hHeld ?_;refine qt 11 hHeld ?_;refine qt 12 hHeld ?_;refine qt 13 hHeld ?_;refine qt 14 hHeld ?_;refine qt 15 hHeld ?_;refine qt 16 hHeld ?_;refine qt 17 hHeld ?_;refine qt 18 hHeld ?_;refine qt 19 hHeld ?_;refine qt 20 hHeld ?_;refine qt 21 hHeld ?_;refine qt 22 hHeld ?_;refine qt 23 hHeld ?_;refine qt 24 hHeld ?_;refine qt 25 hHeld ?_;refine qt 26 hHeld ?_;refine qt 27 hHeld ?_
 simp only[List.getElem_toArray,List.getElem_cons_succ,List.getElem_cons_zero,Act.put,List.setIfInBounds_toArray,List.set_cons_zero,List.set_cons_succ]
 refine wpAnyH_ready (rs:=[28]) qk qj ?_;refine AllReadyH.cons rfl (fun K hK=>?_) AllReadyH.nil
 simp only[List.getElem_toArray,List.getElem_cons_succ,List.getElem_cons_zero]
 go_simp
 refine(iO _ m w.drew (HV.o.blk fun _ _=>rfl) hm).mono ?_;rintro e w1 ⟨vp,rfl,hlp,hnp,hb1⟩;obtain⟨Ap,cp,rfl⟩:=hlp.form;have HB1:Hq (Below w.heap.size w w1):=qh (((Below.refl w.heap.size w).drew).trans hb1);have hg1:=HH.o.m;have O9:=((aA HB1.o).1 a.g 5 (World.block_lt_of_cell? w _ m5)).trans m5;have O7:=((aA HB1.o).1 bo o (World.block_lt_of_cell? w _ o0)).trans o0;have KL:=((aA HB1.o).1 bo (o+1) (World.block_lt_of_cell? w _ o0)).trans o1;have WM:=((aA HB1.o).1 bo (o+2) (World.block_lt_of_cell? w _ o0)).trans o2;have WL:=((aA HB1.o).1 bo (o+2+1) (World.block_lt_of_cell? w _ o0)).trans o3;have WK:=((aA HB1.o).1 bo (o+6) (World.block_lt_of_cell? w _ o0)).trans o6;clear hb1 m5 o0 o1 o2 o3 o6 hg1;refine hK.out _ _ ⟨O9,O7,KL,WM,WL,WK⟩ (fun jL=>?_);clear hK K hHeld;refine qt 29 jL ?_
 simp only[List.getElem_toArray,List.getElem_cons_succ,List.getElem_cons_zero,Act.put,List.setIfInBounds_toArray,List.set_cons_zero,List.set_cons_succ]
 refine wpAnyH_ready (rs:=[30]) qk qj ?_;refine AllReadyH.cons rfl (fun K hK=>?_) AllReadyH.nil
 simp only[List.getElem_toArray,List.getElem_cons_succ,List.getElem_cons_zero]
 go_simp
 refine hK.out _ _ (by go_keep) (fun fY=>?_);clear hK K jL;refine wpAnyH_ready (rs:=[31]) qk qj ?_;refine AllReadyH.cons rfl (fun K hK=>?_) AllReadyH.nil
 simp only[List.getElem_toArray,List.getElem_cons_succ,List.getElem_cons_zero]
 have H0:=HH.o.below HB1.o;have IE:Free tg (.slice Ap m cp) 7:=fun b hb=>.inl (Decidable.byContradiction fun hne=>by have h1:=HH.o.lt b hne;have h2:w.heap.size≤b:=hnp b hb;omega);obtain⟨iM,vB⟩:=qx (retag tg (.slice Ap m cp) 7);have H1:Mem iM a s w1:=vB▸H0.UW IE hlp.lt;have htp:eD iM (.slice Ap m cp) 7:=vB▸oX _ _;have adf:iM bo=0:=by
  rw[vB];unfold retag;rw[if_neg (fun e=>by have h1:bo<w.heap.size:=World.block_lt_of_cell? w _ HO.o.c0;have h2:w.heap.size≤bo:=hnp bo e;omega),bK]
 have ht0:∀b,iM b≠0→tg b≠0∨w.heap.size≤b:=fun b hb=>by
  rw[vB]at hb;unfold retag at hb
  split at hb
  ·exact .inr (hnp b ‹_›)
  ·exact .inl hb
 obtain⟨xs,hxs,hps⟩:=H1.l;rw[iG]at hxs;refine pU w1 (by rfl) (.tmp 11) (.tmp 37) _ (by rfl) 0 126 i0 _ 6 64 Tryz.underlying56 hi iz is ib rfl qo (.slice AL s.n cL) s.n xs (by rfl) hxs _ 1 1 [.int .i64 k,.int .i64 c,.int .i64 fb,.int .i64 fa,.int .i64 d,.slice Ap m cp] (by rfl) rfl (by simp[Value.oneCell']) qm qo (Nat.zero_le _) ?_;intro v2 w2 hown2 hfr2 gF;obtain⟨A2,c2,rfl⟩:=aF hown2;have C5:∀b,(Value.slice AL s.n cL).ownBlock=some b→iM b=5:=fun b hb=>H1.tL b (by rw[iG];exact hb);have Si:∀b,(Value.slice AL s.n cL).ownBlock=some b→tg b=5:=fun b hb=>H0.tL b (by rw[iG];exact hb);have hgn:¬(Value.slice AL s.n cL).ownBlock=some a.g:=fun e=>by have:=C5 _ e;rw[H1.tm]at this;omega
 have hon:¬(Value.slice AL s.n cL).ownBlock=some bo:=fun e=>by have:=C5 _ e;rw[adf]at this;omega
 have kP:=World.block_lt_of_cell? w1 _ O9;have hlo:=World.block_lt_of_cell? w1 _ O7;have Rw:=(hfr2.cells kP hgn 5).trans O9;have acI:=(hfr2.cells hlo hon o).trans O7;have acH:=(hfr2.cells hlo hon (o+1)).trans KL;have acG:=(hfr2.cells hlo hon (o+2)).trans WM;have acF:=(hfr2.cells hlo hon (o+2+1)).trans WL;have acE:=(hfr2.cells hlo hon (o+6)).trans WK;have ahx:w2.frozen? ⟨a.g,5,none⟩=false:=(World.frozen?_of_block (w:=w1) (a:=⟨a.g,5,none⟩) (hfr2.block a.g kP hgn)).trans (H1.m.frozen 5);refine hK.out _ _ ⟨Rw,acI,acH,acG,acF,acE⟩ (fun bU=>?_);clear hK K fY;have r0:=H1.rest (w':=w2) 5 fun b hb h5=>hfr2.block b (H1.lt b hb) fun e=>h5 (C5 b e);have hfree:Free iM (.slice A2 (s.n+1) c2) 5:=fun b hb=>by
  rcases gF with h|h
  ·exact .inr (C5 b (h.symm.trans hb))
  ·refine .inl (Decidable.byContradiction fun hne=>?_)
   have h1:=H1.lt b hne;rw[hb]at h;injection h with h;omega
 have HM:=qh (H1.Bv r0 hfr2.size (lP.more hown2 hxs.1 hps (IK _ _ _ _ _ _) (by rfl) hm hlp htp fun b hb=>hfr2.block b (H1.lt b qo) fun e=>by have:=C5 b e;omega) hfree);have HF:=qh (((Fr.of_below HB1.o (eZ tg)).trans (hfr2.mono fun b hb=>by unfold eZ;rw[Si b hb];omega)).set (p:=⟨a.g,5,none⟩) (by unfold eZ;rw[H0.tm];omega) (.slice A2 (s.n+1) c2));have HT:=qh (show∀b,retag iM (.slice A2 (s.n+1) c2) 5 b≠0→tg b≠0∨w.heap.size≤b from fun b hb=>by
  unfold retag at hb
  split at hb
  ·rcases gF with h|h
   ·exact .inl (by rw[Si b (h.symm.trans ‹_›)];omega)
   ·refine .inr ?_
    rename_i h2
    rw[h2]at h;injection h with h;have:=HB1.o.size;omega
  ·exact ht0 b hb)
 clear C5 Si H0 IE htp adf ht0 hps hnp hlp vB hgn hon kP hlo O9 O7 KL WM WL WK r0 hfree hfr2 hown2 gF H1 hxs;refine qt 32 bU ?_;refine qt 33 bU ?_
 simp only[List.getElem_toArray,List.getElem_cons_succ,List.getElem_cons_zero,Act.put,List.setIfInBounds_toArray,List.set_cons_zero,List.set_cons_succ]
 refine wpAnyH_done qk ?_ _;refine d8.of ?_
 go_simp
 have k3:=World.cell?_setCell_same w2 ⟨a.g,5,none⟩ (.slice A2 (s.n+1) c2) Rw;clear bU Rw acI acH acG acF acE ahx
 go_wp2_with fail
 go_ret
 exact⟨qg,_,{a with L:=.slice A2 (s.n+1) c2},rfl,HM.o,HF.o,HT.o⟩
end
end Go.Proofs.YtdnmhhohcedjbaaGreat
