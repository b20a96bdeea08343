/- Walks and plain lemmas. -/
import Derived.Test.YtimlpmbabbbcaaaGreatP23
import Derived.Test.YtimlpmbabbbcaaaGreatP24
import Derived.Test.YtimlpmbabbbcaaaGreatP18
import Derived.Test.YtimlpmbabbbcaaaGreatP20
import Derived.Test.YtimlpmbabbbcaaaGreatP19
set_option linter.unusedVariables false
set_option linter.unusedSimpArgs false
set_option maxHeartbeats 8000000
set_option maxRecDepth 20000
namespace Go.Proofs.YtimlpmbabbbcaaaGreat
open Go.RowKit
theorem tJ {P:Program}(W:World){ops:Array Oper}{rest:List Oper}{o:Oper}{a:Act}{Q:Exit→Act→World→Prop}(hgd:o.guard=none)(s x:Operand)(t:TypeId)
 (ho:o.op=.call {callee:=.builtin .append,args:=#[s,x],argTypes:=#[t,t]})
 (base:Nat) (e:TypeId) (i:TypeInfo) (z:Value) (size bytes:Nat) (ht:P.underlying t=some (.slice e)) (hi:P.info? e=some i) (hz:i.zero=some z)
 (hsize:i.size=size) (hby:i.bytes=bytes) (hzs:z.cells.size=size) (hsz:0<size)
 (v:Value) (n:Nat) (xs:List Value) (hs:a.eval s=v) (hown:W.ownsRow base e size v n xs)
 (A2:OA) (m c:Nat) (f:Nat→Value) (hx:a.eval x=.slice A2 m c) (hrd:Rd W A2 (m*size) f) (h1:∀j,(f j).oneCell'=true)
 (h63:n+m≤maxLen) (hbytes:(n+m)*bytes≤140737488355328) (hbase:base≤W.heap.size)
 (h:∀v' w',w'.ownsRow base e size v' (n+m) (xs++(List.range (m*size)).map f)→Fr W w' (fun b=>v.ownBlock=some b)→(v'.ownBlock=v.ownBlock∨v'.ownBlock=some W.heap.size)→wpList P ops Q rest (a.put o.dst v') w'):
 wpList P ops Q (o::rest) a W:=by
 rcases A2 with _|ad
 ·have hm:m=0:=by
   rcases Nat.eq_zero_or_pos m with h0|h0
   ·exact h0
   ·obtain⟨g,o',e,_⟩:=hrd (Nat.mul_pos h0 hsz)
    cases e
  subst hm;refine wpList_plain hgd fun K hK=>?_;have hr:=nY (P:=P) W base t o.type e i size ht hi v n xs hown c;unfold Oper.wp execOp
  simp only[ho,resolve,invoke,builtin,Sem.run_bind,Sem.run_pure,Result.andThen_ok,List.map_toArray,List.map_cons,List.map_nil,hs,hx,hr]
  exact hK _ _ (h _ _ (by simpa using hown) (Fr.refl _ _) (.inl rfl))
 ·refine wpList_append_own_at W hgd s x t ho base e i z size bytes ht hi hz hsize hby hzs hsz v n xs hs hown ad m c ((List.range (m*size)).map f) hx qj (fun j u hu=>?_) (fun u hu=>?_) h63 hbytes hbase ?_
  ·obtain⟨hj,rfl⟩:j<m*size∧f j=u:=by
    by_cases hj:j<m*size
    ·simp[hj]at hu;exact⟨hj,hu⟩
    ·rw[List.getElem?_eq_none (by simpa using hj)]at hu;cases hu
   obtain⟨g,o',e,_,hr⟩:=hrd qo;injection e with e;subst e;rw[Addr.add_lit];exact hr j hj
  ·obtain⟨j,_,rfl⟩:=List.mem_map.1 hu
   exact h1 j
  ·intro v' w' h2 h3 _ h5
   exact h v' w' h2 ⟨h3.os,h3.tape,h3.output,h3.size,fun b hb hne=>h3.block b hb (fun e=>hne e.symm)⟩ h5
section
variable {tg:Nat→Nat}{a:bV}{s:aP}{D:Nat}{w:World}
def tU (s:aP)(j:Nat):Nat:=T.sF s.f ((j:Int)-3) s.W+T.sK s.k s.rk ((j:Int)-3) s.W
theorem Io (s:aP)(hr: -3≤s.rk):tU s 0=0:=by
 unfold tU;rw[T.AA _ qo,T.oJ,T.AA _ qo]
theorem Ip (s:aP)(j:Nat):tU s (j+1)=tU s j+(if 0≤(j:Int)-3∧(j:Int)-3<s.W then s.f ((j:Int)-3).toNat else 0)+(if 0≤(j:Int)-3-s.rk∧(j:Int)-3-s.rk<s.W then s.k ((j:Int)-3-s.rk).toNat else 0):=by
 unfold tU;rw[T.oJ,T.oJ,show((j+1:Nat):Int)-3=(j:Int)-3+1 from by omega,T.qR,show(j:Int)-3+1-s.rk=(j:Int)-3-s.rk+1 from by omega,T.qR];omega
theorem Px (s:aP)(hr:s.rk≤3):tU s (s.W+6)=live s:=by
 unfold tU live;rw[T.Gv _ qo,T.oJ,T.Gv _ qo]
theorem Yt (s:aP)(j:Nat):tU s j≤live s:=Nat.add_le_add (T.UY _ _ _) (T.Vh _ _ _ _)
theorem Mem.wh (H:Mem tg a s w){i:Nat}(hi:i<s.W):∃A c,∃z:Nat→Int,w.cell? ⟨a.gf,i,none⟩=some (.slice A (s.f i) c)∧Rd w A (s.f i) (fun j=>.int .i64 (z j)):=by
 obtain⟨A,c,xs,e,hr⟩:=(H.lf i hi).rd;have h:=H.f i hi;rw[Nat.zero_add,e]at h;exact⟨A,c,_,h,hr⟩
theorem Mem.Mj (H:Mem tg a s w){i:Nat}(hi:i<s.W):∃A c,∃z:Nat→Int,w.cell? ⟨a.gk,i,none⟩=some (.slice A (s.k i) c)∧Rd w A (s.k i) (fun j=>.int .i64 (z j)):=by
 obtain⟨A,c,xs,e,hr⟩:=(H.lk i hi).rd;have h:=H.k i hi;rw[Nat.zero_add,e]at h;exact⟨A,c,_,h,hr⟩
theorem zP27x0 {p:Prop}(h:p:=by
 show s.W+6-(x+1+3).toNat<s.W+6-(x+3).toNat;have h:=HX.o;omega):p:=h
theorem iy (H:Mem tg a s w)(hs:d8 s D):
 Calls Tryz.prog 52 #[.pointer (some ⟨a.g,0,none⟩)] w fun e w'=>(∃A c,e=.returned (.slice A (live s) c))∧Below w.heap.size w w':=by
 obtain⟨i0,hi,iz,is,ib⟩:=info_parts info64;have HM:=qh H;have HS:=qh hs;have hw2:=hs.w2;have hr1:=hs.r1;have hr2:=hs.r2;have ZB:=qh (L4 hs);have HO:=qh (World.ownsRow_made (e:=2) (size:=1) w #[] 0 ql qm rfl);have HB:=qh ((Below.refl w.heap.size w).alloc ql (.cells #[] 2));have HZ:=qh (Io s hr1);have HN:=qh (Ip s);have KM:=qh (Px s hr2);have KE:=qh (Yt s);clear H hs
 go_enter Tryz.func52,Tryz.ntmps52
 go_wp2_with fail
 go_loopw [3,4] (fun v y wr=>∃(j:Nat) (xs:List Value),j≤s.W+6∧y=.int .i64 ((j:Int)-3)∧Hq (wr.ownsRow w.heap.size 2 1 v (tU s j) xs)∧Hq (Below w.heap.size w wr)) (fun _ y _=>s.W+6-(intOf y+3).toNat)
 case atStart=>exact⟨0,[],Nat.zero_le _,qg,qh (by rw[HZ.o];exact HO.o),HB⟩
 case round=>
  clear HO HB;obtain⟨j,xs,hj,rfl,jX,i3⟩:=hrel;have jT:=qh (HM.o.below i3.o);have m0:wr.cell? ⟨a.g,0,none⟩=some (.int .i64 s.W):=jT.o.m.cell 0;obtain⟨x,hx⟩:∃x:Int,x=(j:Int)-3:=⟨_,rfl⟩;have hN:=HN.o j;have hM:=KE.o j;have hM2:=ZB.o;rw[←hx]at hN ⊢;obtain⟨M,hMe⟩:=qx (tU s j);rw[←hMe]at hN hM jX;have Nu:=qh hMe;clear hMe
  by_cases hlt:j<s.W+6
  ·have b1:x<(s.W:Int)+3:=qo
   have m1:wr.cell? ⟨a.g,1,none⟩=some (.int .i64 s.rk):=jT.o.m.cell 1;have m2:wr.cell? ⟨a.g,2,none⟩=some (.slice (some ⟨a.gf,0,none⟩) s.W a.cf):=jT.o.m.cell 2;have m3:wr.cell? ⟨a.g,3,none⟩=some (.slice (some ⟨a.gk,0,none⟩) s.W a.ck):=jT.o.m.cell 3;have s1:IntKind.i64.wrap (x-s.rk)=x-s.rk:=IntWalk.i64_in _ qo;have s3:IntKind.i64.wrap (x+1)=x+1:=IntWalk.i64_in _ qo;have s2:IntKind.i64.wrap ((s.W:Int)-1)=(s.W:Int)-1:=IntWalk.i64_in _ qo;have qL:=qh (fun W:World=>cH x 0 ((s.W:Int)-1) W);have qK:=qh (fun W:World=>cH (x-s.rk) 0 ((s.W:Int)-1) W);have HX:=qh hx
   by_cases hf:0≤x∧x<(s.W:Int)
   ·by_cases hb:0≤x-s.rk∧x-s.rk<(s.W:Int)
    ·rw[if_pos hf,if_pos hb]at hN
     have c1:(0:Int)≤x:=hf.1;have c2:x<(s.W:Int):=hf.2;have hxn:x.toNat<s.W:=qo;obtain⟨Af,cf,zf,kf,hrf⟩:=jT.o.wh hxn;have TK:=qh hrf;have hF:=HS.o.fb x.toNat hxn;obtain⟨F,BQ⟩:=qx (s.f x.toNat);rw[←BQ]at TK hF kf hN;have gX:aJ x 0 ((s.W:Int)-1)=true:=by unfold aJ;simp;omega
     clear hrf BQ;rw[gX]at qL;have d1:(0:Int)≤x-s.rk:=hb.1;have d2:x-s.rk<(s.W:Int):=hb.2;have hyn:(x-s.rk).toNat<s.W:=qo;have hK:=HS.o.kb (x-s.rk).toNat hyn;obtain⟨K,zD⟩:=qx (s.k (x-s.rk).toNat);rw[←zD]at hK hN;have HKE:=qh zD;have hinc:aJ (x-s.rk) 0 ((s.W:Int)-1)=true:=by unfold aJ;simp;omega
     have HYN:=qh hyn;clear zD hyn;rw[hinc]at qK;have tC:=qh hN;clear gX hinc hf hb hN hx
     go_wp2_with fail
     refine(qL.o _).mono ?_;rintro e w2 ⟨rfl,rfl⟩
     go_wp2_with (at_builtin;go_must (refine cO _ rfl (.tmp 23) (.tmp 30) _ rfl w.heap.size 2 i0 _ 1 8 Tryz.underlying61 hi iz is ib rfl qo _ M _ rfl jX.o Af F cf _ rfl (by rw[Nat.mul_one];exact TK.o) (fun j=>rfl) qm qo i3.o.size ?_);intro v' w' hown' hfr;have aI:=qh hown';have HB2:=qh (i3.o.trans (hfr.own jX.o i3.o.size));have x8:=qh (HM.o.below HB2.o);have n0:w'.cell? ⟨a.g,0,none⟩=some (.int .i64 s.W):=x8.o.m.cell 0;have n1:w'.cell? ⟨a.g,1,none⟩=some (.int .i64 s.rk):=x8.o.m.cell 1;have n3:w'.cell? ⟨a.g,3,none⟩=some (.slice (some ⟨a.gk,0,none⟩) s.W a.ck):=x8.o.m.cell 3;obtain⟨Ak,ck,zk,kk,nT⟩:=x8.o.Mj HYN.o;rw[←HKE.o]at kk nT;have zJ:=qh nT;clear nT;clear hown' hfr)
     go_wp2_with fail
     refine(qK.o _).mono ?_;rintro e w3 ⟨rfl,rfl⟩
     go_wp2_with (at_builtin;go_must (refine cO _ rfl (.tmp 45) (.tmp 52) _ rfl w.heap.size 2 i0 _ 1 8 Tryz.underlying61 hi iz is ib rfl qo _ (M+F) _ rfl aI.o Ak K ck _ rfl (by rw[Nat.mul_one];exact zJ.o) (fun j=>rfl) qm qo HB2.o.size ?_);intro v' w' hown' hfr;have cI:=qh hown';have HB3:=qh (HB2.o.trans (hfr.own aI.o HB2.o.size));clear hown' hfr)
     go_roundw
     case rel=>exact⟨j+1,_,by omega,congrArg (Value.int .i64) (by have h:=HX.o;omega),qh (by rw[show tU s (j+1)=M+F+K from by rw[tC.o]];exact cI.o),HB3⟩
     case measure=>
      exact zP27x0
    ·rw[if_pos hf,if_neg hb]at hN
     have c1:(0:Int)≤x:=hf.1;have c2:x<(s.W:Int):=hf.2;have hxn:x.toNat<s.W:=qo;obtain⟨Af,cf,zf,kf,hrf⟩:=jT.o.wh hxn;have TK:=qh hrf;have hF:=HS.o.fb x.toNat hxn;obtain⟨F,BQ⟩:=qx (s.f x.toNat);rw[←BQ]at TK hF kf hN;have gX:aJ x 0 ((s.W:Int)-1)=true:=by unfold aJ;simp;omega
     clear hrf BQ;rw[gX]at qL;have hinc:aJ (x-s.rk) 0 ((s.W:Int)-1)=false:=by unfold aJ;rw[Bool.and_eq_false_iff,decide_eq_false_iff_not,decide_eq_false_iff_not];omega
     rw[hinc]at qK;have tC:=qh hN;clear gX hinc hf hb hN hx
     go_wp2_with fail
     refine(qL.o _).mono ?_;rintro e w2 ⟨rfl,rfl⟩
     go_wp2_with (at_builtin;go_must (refine cO _ rfl (.tmp 23) (.tmp 30) _ rfl w.heap.size 2 i0 _ 1 8 Tryz.underlying61 hi iz is ib rfl qo _ M _ rfl jX.o Af F cf _ rfl (by rw[Nat.mul_one];exact TK.o) (fun j=>rfl) qm qo i3.o.size ?_);intro v' w' hown' hfr;have aI:=qh hown';have HB2:=qh (i3.o.trans (hfr.own jX.o i3.o.size));have x8:=qh (HM.o.below HB2.o);have n0:w'.cell? ⟨a.g,0,none⟩=some (.int .i64 s.W):=x8.o.m.cell 0;have n1:w'.cell? ⟨a.g,1,none⟩=some (.int .i64 s.rk):=x8.o.m.cell 1;clear hown' hfr)
     go_wp2_with fail
     refine(qK.o _).mono ?_;rintro e w3 ⟨rfl,rfl⟩
     go_wp2_with fail
     go_roundw
     case rel=>exact⟨j+1,_,by omega,congrArg (Value.int .i64) (by have h:=HX.o;omega),qh (by rw[show tU s (j+1)=M+F from by rw[tC.o];omega];exact aI.o),HB2⟩
     case measure=>
      exact zP27x0
   ·by_cases hb:0≤x-s.rk∧x-s.rk<(s.W:Int)
    ·rw[if_neg hf,if_pos hb]at hN
     have gX:aJ x 0 ((s.W:Int)-1)=false:=by unfold aJ;rw[Bool.and_eq_false_iff,decide_eq_false_iff_not,decide_eq_false_iff_not];omega
     rw[gX]at qL;have d1:(0:Int)≤x-s.rk:=hb.1;have d2:x-s.rk<(s.W:Int):=hb.2;have hyn:(x-s.rk).toNat<s.W:=qo;obtain⟨Ak,ck,zk,kk,nT⟩:=jT.o.Mj hyn;have zJ:=qh nT;have hK:=HS.o.kb (x-s.rk).toNat hyn;obtain⟨K,zD⟩:=qx (s.k (x-s.rk).toNat);rw[←zD]at zJ hK kk hN;have hinc:aJ (x-s.rk) 0 ((s.W:Int)-1)=true:=by unfold aJ;simp;omega
     clear nT zD;rw[hinc]at qK;have tC:=qh hN;clear gX hinc hf hb hN hx
     go_wp2_with fail
     refine(qL.o _).mono ?_;rintro e w2 ⟨rfl,rfl⟩
     go_wp2_with fail
     refine(qK.o _).mono ?_;rintro e w3 ⟨rfl,rfl⟩
     go_wp2_with (at_builtin;go_must (refine cO _ rfl (.tmp 45) (.tmp 52) _ rfl w.heap.size 2 i0 _ 1 8 Tryz.underlying61 hi iz is ib rfl qo _ M _ rfl jX.o Ak K ck _ rfl (by rw[Nat.mul_one];exact zJ.o) (fun j=>rfl) qm qo i3.o.size ?_);intro v' w' hown' hfr;have cI:=qh hown';have HB3:=qh (i3.o.trans (hfr.own jX.o i3.o.size));clear hown' hfr)
     go_roundw
     case rel=>exact⟨j+1,_,by omega,congrArg (Value.int .i64) (by have h:=HX.o;omega),qh (by rw[show tU s (j+1)=M+K from by rw[tC.o];omega];exact cI.o),HB3⟩
     case measure=>
      exact zP27x0
    ·rw[if_neg hf,if_neg hb]at hN
     have gX:aJ x 0 ((s.W:Int)-1)=false:=by unfold aJ;rw[Bool.and_eq_false_iff,decide_eq_false_iff_not,decide_eq_false_iff_not];omega
     rw[gX]at qL;have hinc:aJ (x-s.rk) 0 ((s.W:Int)-1)=false:=by unfold aJ;rw[Bool.and_eq_false_iff,decide_eq_false_iff_not,decide_eq_false_iff_not];omega
     rw[hinc]at qK;have tC:=qh hN;clear gX hinc hf hb hN hx
     go_wp2_with fail
     refine(qL.o _).mono ?_;rintro e w2 ⟨rfl,rfl⟩
     go_wp2_with fail
     refine(qK.o _).mono ?_;rintro e w3 ⟨rfl,rfl⟩
     go_wp2_with fail
     go_roundw
     case rel=>exact⟨j+1,_,by omega,congrArg (Value.int .i64) (by have h:=HX.o;omega),qh (by rw[show tU s (j+1)=M from by rw[tC.o];omega];exact jX.o),i3⟩
     case measure=>
      exact zP27x0
  ·obtain rfl:j=s.W+6:=qo
   have b1:¬x<(s.W:Int)+3:=qo;obtain⟨A,c,hv⟩:=aE jX.o;have HV:=qh hv;clear hv
   go_wp2_with fail
   go_ret
   exact⟨⟨A,c,by rw[HV.o,Nu.o,KM.o];rfl⟩,i3.o⟩
theorem Ir (bo o:Nat){k d fb fa tb ta c r:Int}{j:Nat}(H:Mem tg a s w)(hs:d8 s D)(hD:D≤1000000)(ho:kO bo o k d fb fa tb ta c r w)(cQ:tg bo=0)(hp:gZ s.W k d fb fa tb ta c r j):
 Calls Tryz.prog 51 #[.pointer (some ⟨a.g,0,none⟩),.pointer (some ⟨bo,o,none⟩)] w (Ad w tg a.g (bJ s k d fb fa tb ta j) (eM s k d fb fa tb ta r j) (jC s k d fb fa c r)):=by
 by_cases h7:k=7
 ·subst h7
  by_cases hr:s.rk≤r
  ·exact iq bo o H hs ho cQ hp hr
  ·exact iw bo o H hs ho cQ hp qo
 ·exact Cn bo o H hs hD ho cQ hp h7
end
end Go.Proofs.YtimlpmbabbbcaaaGreat
namespace Go.Proofs.YtimlpmbabbbcaaaGreat
open Go.RowKit Go.Sort
theorem Db (k d fb fa tb ta c r:Int)(g o:Nat)(w:World)(H:Hq (pJ w g o k d fb fa tb ta c r))(hk:¬k=1∧¬k=2∧¬k=3∧¬k=4∧¬k=5∧¬k=6∧¬k=7∧¬k=8∧¬k=9):
 Calls Tryz.prog 45 #[.pointer (some ⟨g,o,none⟩)] w fun e w'=>e=.returned (.bool false)∧Below w.heap.size w w':=by
 obtain⟨k1,k2,k3,k4,k5,k6,k7,k8,k9⟩:=hk;have h0:=H.o.c0;have hg:=H.o.lt
 go_enter Tryz.func45,Tryz.ntmps45
 go_wp2_with fail
 go_ret
 exact⟨rfl,qz⟩
theorem Iu (k d fb fa tb ta c r:Int)(g o:Nat)(w:World)(H:Hq (pJ w g o k d fb fa tb ta c r)):
 Calls Tryz.prog 45 #[.pointer (some ⟨g,o,none⟩)] w fun e w'=>e=.returned (.bool (bD k d fb fa tb ta c r))∧Below w.heap.size w w':=by
 by_cases h1:k=1
 ·subst h1;exact Da d fb fa tb ta c r g o w H
 by_cases h2:k=2
 ·subst h2;exact Cz d fb fa tb ta c r g o w H
 by_cases h3:k=3
 ·subst h3;exact Cy d fb fa tb ta c r g o w H
 by_cases h4:k=4
 ·subst h4;exact Cw d fb fa tb ta c r g o w H
 by_cases h5:k=5
 ·subst h5;exact Cv d fb fa tb ta c r g o w H
 by_cases h6:k=6
 ·subst h6;exact Cu d fb fa tb ta c r g o w H
 by_cases h7:k=7
 ·subst h7;exact Ct d fb fa tb ta c r g o w H
 by_cases h8:k=8
 ·subst h8;exact Cr d fb fa tb ta c r g o w H
 by_cases h9:k=9
 ·subst h9;exact Cq d fb fa tb ta c r g o w H
 have e0:bD k d fb fa tb ta c r=false:=by simp[bD,h1,h2,h3,h4,h5,h6,h7,h8,h9]
 rw[e0];exact Db k d fb fa tb ta c r g o w H ⟨h1,h2,h3,h4,h5,h6,h7,h8,h9⟩
theorem jd (k d fb fa tb ta c r W:Int)(g o:Nat)(w:World)(H:Hq (pJ w g o k d fb fa tb ta c r)):
 Calls Tryz.prog 46 #[.pointer (some ⟨g,o,none⟩),.int .i64 W] w fun e w'=>e=.returned (.bool (decide (fa<W)&&decide (ta<W)))∧w=w':=by
 have h3:w.cell? ⟨g,o+2+1,none⟩=some (.int .i64 fa):=H.o.c3;have h5:w.cell? ⟨g,o+4+1,none⟩=some (.int .i64 ta):=H.o.c5
 by_cases ha:fa<W
 ·go_enter Tryz.func46,Tryz.ntmps46
  go_wp2_with fail
  all_goals go_ret
  all_goals exact⟨qr (by simp[ha]),rfl⟩
 ·have hd:decide (fa<W)=false:=decide_eq_false ha
  go_enter Tryz.func46,Tryz.ntmps46
  go_wp2_with fail
  all_goals go_ret
  all_goals exact⟨rfl,rfl⟩
theorem Yj {w:World}{ga o n:Nat}{z:Nat→Int}(hr:d7 w ga o (n*8) (fun j=>.int .i64 (z j))){k:Nat}(hk:k<n):
 pJ w ga (o+k*8) (z (k*8)) (z (k*8+1)) (z (k*8+2)) (z (k*8+3)) (z (k*8+4)) (z (k*8+5)) (z (k*8+6)) (z (k*8+7)):=by
 refine⟨hr (k*8) qo,?_,?_,?_,?_,?_,?_,?_⟩
 all_goals
  rw[Nat.add_assoc];exact hr _ qo
theorem SH {W:Int}{z:Nat→Int}{n k:Nat}(hk:k<n)(h:xS W z k=false):kF W z n=false:=by simp[kF,ON hk h]
theorem Co (W:Int)(A:OA)(n q:Nat)(z:Nat→Int)(w:World)(ha:Rd w A (n*8) (fun j=>.int .i64 (z j)))(hn:n≤1048576):
 Calls Tryz.prog 28 #[.int .i64 W,.slice A n q] w fun e w'=>e=.returned (.bool (kF W z n))∧Below w.heap.size w w':=by
 have HA:=qh ha;clear ha
 go_enter Tryz.func28,Tryz.ntmps28
 go_wp2_with fail
 go_loopw [5] (fun i wr=>∃k:Nat,k≤n∧i=.int .i64 k∧Hq (wG W z k=true)∧Below w.heap.size w wr) (fun i _=>n-(intOf i).toNat)
 case atStart=>exact⟨0,Nat.zero_le _,rfl,rfl,Below.refl _ _⟩
 case round=>
  obtain⟨k,hk,rfl,HK,hb⟩:=hrel;have HB:=qh hb
  by_cases hlt:k<n
  ·obtain⟨ga,o,rfl,hga,hr⟩:=HA.o.below hb qo
   have HO:=qh (Yj hr hlt);obtain⟨V,hV⟩:=qx (xS W z k);have HV:=qh hV;have hV':V=L8 (bD (z (k*8)) (z (k*8+1)) (z (k*8+2)) (z (k*8+3)) (z (k*8+4)) (z (k*8+5)) (z (k*8+6)) (z (k*8+7))) (z (k*8+3)) (z (k*8+5)) W:=hV;generalize z (k*8)=x0 at*;generalize z (k*8+1)=x1 at*;generalize z (k*8+2)=x2 at*;generalize z (k*8+3)=x3 at*;generalize z (k*8+4)=x4 at*;generalize z (k*8+5)=x5 at*;generalize z (k*8+6)=x6 at*;generalize z (k*8+7)=x7 at*;have Xa:=qh hV';clear hr hb hV hV'
   go_wp2_with fail
   refine(Iu x0 x1 x2 x3 x4 x5 x6 x7 _ _ _ HO).mono ?_;rintro e w1 ⟨rfl,hb1⟩;have aT:=qh (HO.o.below hb1);have HB1:=HB.st hb1;clear hb1
   cases hop:bD x0 x1 x2 x3 x4 x5 x6 x7
   ·have PC:xS W z k=false:=by rw[←HV.o,Xa.o,hop];rfl
    have HF:=qh PC;clear PC
    go_wp2
    go_ret
    exact⟨by rw[SH hlt HF.o];rfl,HB1.o⟩
   ·have QA:=qh hop
    clear hop
    go_wp2_with fail
    refine(jd x0 x1 x2 x3 x4 x5 x6 x7 W _ _ _ aT).mono ?_;rintro e w2 ⟨rfl,rfl⟩;have PC:xS W z k=(decide (x3<W)&&decide (x5<W)):=by rw[←HV.o,Xa.o,QA.o];rfl
    cases hft:(decide (x3<W)&&decide (x5<W))
    ·rw[hft]at PC
     have HF:=qh PC;clear PC hft
     go_wp2
     go_ret
     exact⟨by rw[SH hlt HF.o];rfl,HB1.o⟩
    ·rw[hft]at PC
     have HF:=qh PC;clear PC hft
     go_wp2
     go_roundw
     case rel=>exact⟨k+1,by omega,qg,by unfold Hq;simp only[wG];rw[HK.o,HF.o];rfl,HB1.o⟩
     case measure=>exact qs
  ·obtain rfl:n=k:=qo
   clear hb
   cases hI:aJ W 1 24
   ·go_wp2_with ((go_at_call 47;refine(cH _ _ _ _).mono ?_;rintro e w' ⟨rfl,rfl⟩))
    all_goals go_ret
    all_goals exact⟨by simp[kF,hI],HB.o⟩
   ·by_cases hl:n≤1500
    ·have hl':(n:Int)≤1500:=qo
     go_wp2_with ((go_at_call 47;refine(cH _ _ _ _).mono ?_;rintro e w' ⟨rfl,rfl⟩))
     all_goals go_ret
     all_goals exact⟨by simp[kF,hI,hl,HK.o],HB.o⟩
    ·have hl':¬(n:Int)≤1500:=qo
     go_wp2_with ((go_at_call 47;refine(cH _ _ _ _).mono ?_;rintro e w' ⟨rfl,rfl⟩))
     all_goals go_ret
     all_goals exact⟨by simp[kF,hl];omega,HB.o⟩
end Go.Proofs.YtimlpmbabbbcaaaGreat
namespace Go.Proofs.YtimlpmbabbbcaaaGreat
open Go.RowKit
def adH (z:Nat→Int)(i:Nat):Nat:=(z (i*8+6)-1).toNat
def adA (s:aP)(z:Nat→Int)(i:Nat):Int:=adz s (z (i*8)) (z (i*8+1)) (z (i*8+2)) (z (i*8+3)) (adH z i)
def Fq (W:Nat)(z:Nat→Int):Nat→Nat→Int
 |0,_=>0
 |i+1,j=>Fq W z i j+(if z (i*8+6)=(j:Int)+1 then adA (fA W z i) z i else 0)
def stk (W:Nat)(z:Nat→Int):Nat→Nat
 |0=>0
 |i+1=>pkS (fA W z (i+1)) (stk W z i) W
def alN (W:Nat)(z:Nat→Int):Nat→Nat
 |0=>0
 |i+1=>max (alN W z i) (pkN (fA W z (i+1)) W)
def afi (a b:Int):Int:=if b<a then a else b
def rks (W:Nat)(z:Nat→Int):Nat→Int
 |0=>0
 |i+1=>if z (i*8)=7 then rks W z i+afi (z (i*8+7)-(fA W z i).rk) ((fA W z i).rk-z (i*8+7))else rks W z i
section
variable {W:Nat}{z:Nat→Int}{n:Nat}
end
structure Runs (w:World)(tg:Nat→Nat)(a:bV)(s:aP)(w':World):Prop where
 m:Mem tg a s w'
 b:Below w.heap.size w w'
 lo:∀q,tg q≠0→w.heap.size≤q
section
variable {w w1 w2:World}{tg:Nat→Nat}{a:bV}{s s':aP}
theorem Runs.below (h:Runs w tg a s w1)(hb:Below w1.heap.size w1 w2):Runs w tg a s w2:=⟨h.m.below hb,h.b.trans (hb.mono h.b.size),h.lo⟩
theorem Runs.fr (h:Runs w tg a s w1)(hf:Fr w1 w2 (fZ tg)):Below w.heap.size w w2:=h.b.trans (hf.below h.b.size fun q hq=>h.lo q hq)
theorem Runs.step (h:Runs w tg a s w1)(hm:Moved w1 tg a.g s' w2):∃eZ a',a'.g=a.g∧Runs w eZ a' s' w2∧∀q,q<w1.heap.size→tg q=0→eZ q=0∧w2.heap[q]?=w1.heap[q]?:=by
 obtain⟨eZ,a',hg,hm',hf,ht⟩:=hm;refine⟨eZ,a',hg,⟨hm',h.fr hf,fun q hq=>?_⟩,fun q hq h0=>⟨Decidable.byContradiction fun hn=>?_,hf.block q hq (fun hn=>hn h0)⟩⟩
 ·rcases ht q hq with h1|h1
  ·exact h.lo q h1
  ·exact Nat.le_trans h.b.size h1
 ·rcases ht q hn with h1|h1
  ·exact h1 h0
  ·omega
theorem Runs.set (h:Runs w tg a s w1){g:Nat}(hg:tg g=0)(hlo:w.heap.size≤g)(o:Nat)(u:Value):Runs w tg a s (w1.setCell ⟨g,o,none⟩ u):=
 ⟨h.m.same (fun b hb=>bI _ _ _ _ (by intro e;rw[show b=g from e]at hb;exact hb hg)) (by rw[jJ];exact Nat.le_refl _),h.b.setCell hlo _,h.lo⟩
theorem ny {ga o n:Nat}{z:Nat→Int}(hr:d7 w ga o (n*8) (fun j=>.int .i64 (z j))){k:Nat}(hk:k<n):
 kO ga (o+k*8) (z (k*8)) (z (k*8+1)) (z (k*8+2)) (z (k*8+3)) (z (k*8+4)) (z (k*8+5)) (z (k*8+6)) (z (k*8+7)) w:=by
 refine⟨hr (k*8) qo,?_,?_,?_,?_,?_,?_,?_⟩
 all_goals
  try rw[Nat.add_assoc]
  try rw[Nat.add_assoc]
  exact hr _ qo
end
abbrev Zw (W:Nat)(z:Nat→Int)(i:Nat):Array Value:=#[.int .i64 (Fq W z i 0),.int .i64 (Fq W z i 1),.int .i64 (Fq W z i 2),.int .i64 (Fq W z i 3)]
def codeOf (W:Int)(z:Nat→Int)(n:Nat):Int:=if kF W z n=true then aff W.toNat z n else 1
def abZ (w:World)(W:Int)(z:Nat→Int)(n:Nat)(e:Ending)(w':World):Prop:=
 (codeOf W z n≠0→e=.returned (.tuple #[.slice none 0 0,.int .i64 0,.int .i64 0,.int .i64 0,.int .i64 (codeOf W z n)])∧Below w.heap.size w w')∧
 (codeOf W z n=0→∃g,e=.returned (.tuple #[.slice (some ⟨g,0,none⟩) 4 4,.int .i64 (stk W.toNat z n:Nat),.int .i64 (alN W.toNat z n:Nat),.int .i64 (rks W.toNat z n),.int .i64 0])∧w.heap.size≤g∧aG w' g 2 (Zw W.toNat z n)∧Below w.heap.size w w')
theorem abZ.no {w w':World}{W:Int}{z:Nat→Int}{n:Nat}{e:Ending}{c:Int}(hc:codeOf W z n=c)(h0:c≠0)(he:e=.returned (.tuple #[.slice none 0 0,.int .i64 0,.int .i64 0,.int .i64 0,.int .i64 c]))(hb:Below w.heap.size w w'):abZ w W z n e w':=
 ⟨fun _=>⟨by rw[he,hc],hb⟩,fun h=>absurd (hc.symm.trans h) h0⟩
def ab1 (v:Value):Prop:=∃(x y:Int) (A B C D E:OA) (a b c d e a' b' c' d' e':Nat),v=.agg #[.int .i64 x,.int .i64 y,.slice A a a',.slice B b b',.slice C c c',.slice D d d',.slice E e e']
def RmP (w:World)(W:Int)(z:Nat→Int)(n:Nat)(e:Ending)(w':World):Prop:=
 ∃(v:Value) (k:Int),ab1 v∧e=.returned (.tuple #[v,.int .i64 k,.int .i64 (codeOf W z n)])∧Below w.heap.size w w'
theorem RmP.of {w w':World}{W:Int}{z:Nat→Int}{n:Nat}{e:Ending}{c:Int}(hc:codeOf W z n=c)(v:Value)(k:Int)(hv:ab1 v)(he:e=.returned (.tuple #[v,.int .i64 k,.int .i64 c]))(hb:Below w.heap.size w w'):RmP w W z n e w':=
 ⟨v,k,hv,by rw[hc];exact he,hb⟩
theorem Mem.sev {tg:Nat→Nat}{a:bV}{s:aP}{w:World}(H:Mem tg a s w):∃AL cL AD qD cD,jP a s=#[.int .i64 s.W,.int .i64 s.rk,.slice (some ⟨a.gf,0,none⟩) s.W a.cf,.slice (some ⟨a.gk,0,none⟩) s.W a.ck,.slice (some ⟨a.gc,0,none⟩) 4 a.cc,.slice AL s.n cL,.slice AD qD cD]:=by
 obtain⟨xs,hx,_⟩:=H.l;obtain⟨AL,cL,hL⟩:=aE hx;obtain⟨q,_,xd,hd⟩:=H.d;obtain⟨AD,cD,hD⟩:=aE hd;exact⟨AL,cL,AD,q,cD,by unfold jP;rw[hL,hD]⟩
theorem aG.s7 {w:World}{g:Nat}{t:TypeId}{c0 c1 c2 c3 c4 c5 c6:Value}(h:aG w g t #[c0,c1,c2,c3,c4,c5,c6])(u0 u1 u2 u3 u4 u5 u6:Value):aG (((((((w.setCell ⟨g,0,none⟩ u0).setCell ⟨g,1,none⟩ u1).setCell ⟨g,2,none⟩ u2).setCell ⟨g,3,none⟩ u3).setCell ⟨g,4,none⟩ u4).setCell ⟨g,5,none⟩ u5).setCell ⟨g,6,none⟩ u6) g t #[u0,u1,u2,u3,u4,u5,u6]:=by
 have h0:aG (w.setCell ⟨g,0,none⟩ u0) g t #[u0,c1,c2,c3,c4,c5,c6]:=h.fH 0 u0;have h1:aG ((w.setCell ⟨g,0,none⟩ u0).setCell ⟨g,1,none⟩ u1) g t #[u0,u1,c2,c3,c4,c5,c6]:=h0.fH 1 u1;have h2:aG (((w.setCell ⟨g,0,none⟩ u0).setCell ⟨g,1,none⟩ u1).setCell ⟨g,2,none⟩ u2) g t #[u0,u1,u2,c3,c4,c5,c6]:=h1.fH 2 u2;have h3:aG ((((w.setCell ⟨g,0,none⟩ u0).setCell ⟨g,1,none⟩ u1).setCell ⟨g,2,none⟩ u2).setCell ⟨g,3,none⟩ u3) g t #[u0,u1,u2,u3,c4,c5,c6]:=h2.fH 3 u3;have h4:aG (((((w.setCell ⟨g,0,none⟩ u0).setCell ⟨g,1,none⟩ u1).setCell ⟨g,2,none⟩ u2).setCell ⟨g,3,none⟩ u3).setCell ⟨g,4,none⟩ u4) g t #[u0,u1,u2,u3,u4,c5,c6]:=h3.fH 4 u4;have h5:aG ((((((w.setCell ⟨g,0,none⟩ u0).setCell ⟨g,1,none⟩ u1).setCell ⟨g,2,none⟩ u2).setCell ⟨g,3,none⟩ u3).setCell ⟨g,4,none⟩ u4).setCell ⟨g,5,none⟩ u5) g t #[u0,u1,u2,u3,u4,u5,c6]:=h4.fH 5 u5;have h6:aG (((((((w.setCell ⟨g,0,none⟩ u0).setCell ⟨g,1,none⟩ u1).setCell ⟨g,2,none⟩ u2).setCell ⟨g,3,none⟩ u3).setCell ⟨g,4,none⟩ u4).setCell ⟨g,5,none⟩ u5).setCell ⟨g,6,none⟩ u6) g t #[u0,u1,u2,u3,u4,u5,u6]:=h5.fH 6 u6;exact h6
def EvC (w:World)(c:Int)(L:List Int)(e:Ending)(w':World):Prop:=∃v N,e=.returned (.tuple #[v,.int .i64 c])∧N≤2000∧w'.ownsRow w.heap.size 116 6 v N (ints L)∧Below w.heap.size w w'
def zA (W:Nat)(z:Nat→Int)(n:Nat):List Int:=if vV W z 0 n=0 then CS W z n else []
theorem EvC.bad {w w':World}{c d:Int}{L:List Int}{e:Ending}(hc:c=d)(hL:L=[])(he:e=.returned (.tuple #[.slice none 0 0,.int .i64 d]))(hb:Below w.heap.size w w'):EvC w c L e w':=⟨_,0,by rw[hc];exact he,by omega,by rw[hL];exact⟨rfl,.inl ⟨rfl,rfl⟩⟩,hb⟩
def yu (W0:World)(G W:Nat)(z:Nat→Int)(i:Nat)(v:Value)(wr:World):Prop:=∃(N:Nat) (tg:Nat→Nat) (a:bV),a.g=G∧Runs W0 tg a (fA W z i) wr∧FJ W z i∧N≤2000∧wr.ownsRow W0.heap.size 116 6 v N (ints (CS W z i))∧∀q,v.ownBlock=some q→tg q=0
theorem zP27x1 {p:Prop}(h:p:=by
 go_wp2_with fail
 go_ret2
 exact EvC.bad j8.o (by unfold zA;rw[if_neg (by rw[j8.o];omega)]) rfl fW.o):p:=h
theorem WI (W:Nat)(A:OA)(n q:Nat)(z:Nat→Int)(w:World)(ha:Rd w A (n*8) (fun j=>.int .i64 (z j)))(h1:1≤W)(h2:W≤24)(hn:n≤1500)(hops:∀i,i<n→xS W z i=true):
 Calls Tryz.prog 30 #[.int .i64 W,.slice A n q] w (EvC w (vV W z 0 n) (zA W z n)):=by
 obtain⟨i0,hi,iz,is,ib⟩:=info_parts dQ;have HA:=qh ha;have oW:=qh hops;have HW:=qh (show 1≤W∧W≤24 from⟨h1,h2⟩);clear ha hops h1 h2
 go_enter Tryz.func30,Tryz.ntmps30
 go_wp2_with fail
 refine(Dc W w HW.o.1 HW.o.2).mono ?_;rintro e w2 ⟨v,rfl,⟨p8,⟨g0,gf,cf,gk,ck,gc,cc,F0,K0,L0,D0⟩,rfl,hlo,nU,⟨⟨AL,nL,cL,hL⟩,⟨AD,nD,cD,hD⟩⟩,hmk⟩,hb2⟩;obtain rfl:L0=_:=hL;obtain rfl:D0=_:=hD;have HB2:Hq (Below w.heap.size w w2):=qh hb2;have hr0:Runs w (tS p8 w2.heap.size) ⟨w2.heap.size,gf,cf,gk,ck,gc,cc,F0,K0,.slice AL nL cL,.slice AD nD cD⟩ (fA W z 0) (w2.alloc (.cells (jP ⟨g0,gf,cf,gk,ck,gc,cc,F0,K0,.slice AL nL cL,.slice AD nD cD⟩ (pX W)) 93)):=⟨hmk _ _ (Decidable.byContradiction fun hn=>Nat.lt_irrefl _ (nU _ hn)) (fun b hb=>Below.heap_alloc _ _ b (nU b hb)) qj (aG.at_ _ _ _ rfl),
  HB2.o.alloc HB2.o.size _,fun q hq=>by
   unfold tS at hq
   split at hq
   ·have:=HB2.o.size;omega
   ·exact hlo q hq⟩
 obtain⟨w3,hw3⟩:=qx (w2.alloc (.cells (jP ⟨g0,gf,cf,gk,ck,gc,cc,F0,K0,.slice AL nL cL,.slice AD nD cD⟩ (pX W)) 93));rw[←hw3]at hr0;have HT0:Hq (yu w w2.heap.size W z 0 (.slice (some ⟨w3.heap.size,0,none⟩) 0 0) (w3.alloc (.cells #[] 116))):=qh ⟨0,_,_,rfl,hr0.below (qb),fun i hi=>absurd hi (Nat.not_lt_zero i),Nat.zero_le _,World.ownsRow_made _ #[] 0 hr0.b.size qm rfl,fun q hq=>by
  injection hq with hq;exact Decidable.byContradiction fun hn=>by
   have h:=hr0.m.lt q hn;have hq:w3.heap.size=q:=hq;omega⟩
 have HW3:=qh hw3;clear hlo nU hmk hb2 hr0 hw3
 simp only[jP,pX]at HW3 ⊢
 go_upto_region 2 with(fail)
 rw[←HW3.o]
 go_wp2_with fail
 go_loopw [7,8] (fun v y wr=>∃i:Nat,i≤n∧y=.int .i64 i∧Hq (yu w w2.heap.size W z i v wr)) (fun _ y _=>n-(intOf y).toNat)
 case atStart=>exact⟨0,Nat.zero_le _,rfl,HT0⟩
 case round=>
  clear HT0;obtain⟨i,hile,rfl,HT⟩:=hrel;obtain⟨N,tg,a,hg,hr,hok,hN,ho,hfree⟩:=HT.o;have HR:=qh hr;have I8:=qh hok;have HO:=qh ho;have vQ:=qh hfree;have HG:=qh hg
  by_cases hlt:i<n
  ·have iO:=qh hlt
   obtain⟨ga,o,rfl,hga,hra⟩:=HA.o qo;have zw:Hq (tg ga=0):=qh (Decidable.byContradiction fun hn=>by have:=HR.o.lo ga hn;omega);have hce:=ny (hra.below hga HR.o.b) hlt;have hp:=R7 HW.o.1 (oW.o i hlt);rw[←V0 W z i]at hp;have hs:=W7 HW.o.1 HW.o.2 i (fun q hq=>oW.o q qo) hok.ok;have hdo:Calls Tryz.prog 51 #[.pointer (some ⟨a.g,0,none⟩),.pointer (some ⟨ga,o+i*8,none⟩)] wr (Ad wr tg a.g (kC (fA W z i) z i) (fA W z (i+1)) (kE (fA W z i) z i)):=Ir ga (o+i*8) HR.o.m hs qo hce zw.o hp;rw[hg]at hdo;obtain⟨C,hC⟩:=qx (kC (fA W z i) z i);rw[←hC]at hdo;have ZM:=qh hdo;have HC:=qh hC;clear hg hr hok ho hfree hce hp hs hdo hC hga hra HT
   go_wp2_with fail
   refine ZM.o.mono ?_;rintro e w4 ⟨lT,hbad,hgood⟩;clear ZM;have oB:=qh lT;have aW:=qh (HR.o.fr lT)
   by_cases hc0:C=0
   ·subst hc0
    obtain⟨v4,n4,AT,a4,rfl,oF,d6,wO,su⟩:=hgood rfl;obtain⟨A4,c4,rfl⟩:=aE d6;have HR4:=qh (rU d6);have qJ:=qh (show(kE (fA W z i) z i).length=n4*6 from by have:=d6.1;simpa [ints]using this);have oY:=qh wO;have bS:=qh (eE HO.o fun b hb=>lT.block b (HO.o.lt b hb).2 fun e=>e (vQ.o b hb));have EA:Hq (∀b,u7.ownBlock=some b→AT b=0):=qh fun b hb=>Decidable.byContradiction fun hn=>by
     rcases wO.t b hn with h|h
     ·exact h (vQ.o b hb)
     ·have:=(HO.o.lt b hb).2
      omega
    have Uf:Hq (∀b,AT b≠0→w.heap.size≤b):=qh fun b hb=>by
     rcases wO.t b hb with h|h
     ·exact HR.o.lo b h
     ·exact Nat.le_trans HR.o.b.size h
    have ags:=qh (Ie I8.o.ok HC.o.symm);have jR:=qh (W7 HW.o.1 HW.o.2 (i+1) (fun q hq=>oW.o q qo) ags.o);have lD:w.heap.size≤w4.heap.size:=aW.o.size;clear d6 wO su lT hbad hgood HO
    by_cases hbig:N+n4≤2000
    ·have hb1:¬(2000:Int)<((N+n4:Nat):Int):=qo
     go_wp2_with (at_builtin;go_must (refine tJ w4 rfl (.tmp 30) (.tmp 31) _ rfl w.heap.size 116 i0 _ 6 48 Tryz.underlying42 hi iz is ib rfl qo u7 N _ rfl bS.o A4 n4 c4 _ rfl HR4.o (fun j=>rfl) qm qo lD ?_);intro v' w' hown' hfr hat';obtain⟨A5,c5,rfl⟩:=aE hown';have d9:=qh hown';have iB:=qh hfr;have dC:=qh hat';clear hown' hfr hat')
     have nG:=qh (oY.o.m.same (fun b hb=>iB.o.block b (oY.o.m.lt b hb) fun e=>hb (EA.o b e)) iB.o.size);have HG5:=qh (oY.o.g);have hlv:=iy nG.o jR.o;rw[HG5.o]at hlv;obtain⟨V,hV⟩:=qx (live (fA W z (i+1)));rw[←hV]at hlv;have ZB:=qh hlv;have HV:=qh hV;clear hlv hV;refine ZB.o.mono ?_;rintro e w6 ⟨⟨A6,c6,rfl⟩,hb6⟩;have bE:=qh hb6;have adn:=qh (show ints (CS W z (i+1))=ints (CS W z i)++(List.range (n4*6)).map fun j=>Value.int .i64 ((kE (fA W z i) z i).getD j 0)from by
      rw[mL _ _ qJ.o,←aL]
      rfl)
     have HLEN:=qh (show(CS W z (i+1)).length=(N+n4)*6 from by
      have h:=d9.o.1;rw[←adn.o]at h
      simpa [ints]using h)
     have bG:=qh (show Below w.heap.size w w' from aW.o.trans (iB.o.below lD fun b hb=>(bS.o.lt b hb).1));clear hb6 ZB
     by_cases hv:V≤12
     ·have hv1:¬(12:Int)<(V:Int):=qo
      have HT6:=qh (show yu w w2.heap.size W z (i+1) (.slice A5 (N+n4) c5) w6 from⟨N+n4,AT,a4,HG5.o,Runs.below ⟨nG.o,bG.o,Uf.o⟩ bE.o,RZ I8.o HC.o.symm (fun h=>by
       rcases h with h|h
       ·rw[HLEN.o]at h;omega
       ·rw[←HV.o]at h;omega),hbig,by rw[adn.o];exact own_below d9.o bE.o,fun q hq=>Decidable.byContradiction fun hn=>by
       rcases dC.o with h|h
       ·rw[h]at hq
        exact hn (EA.o q hq)
       ·rw[h]at hq
        injection hq with hq;have:=oY.o.m.lt q hn;omega⟩)
      clear d9 iB dC oY
      go_wp2_with fail
      go_roundw
      case rel=>exact⟨i+1,by omega,qg,HT6⟩
      case measure=>exact qs
     ·have hv1:(12:Int)<(V:Int):=qo
      have fW:=qh (bG.o.trans (bE.o.mono bG.o.size));have j8:=qh (FK iO.o I8.o HC.o.symm (.inr (by rw[←HV.o];omega)))
      exact zP27x1
    ·have hb1:(2000:Int)<((N+n4:Nat):Int):=qo
     have j8:=qh (FK iO.o I8.o HC.o.symm (.inl (show 2000*6<(CS W z i++kE (fA W z i) z i).length from by
      have h:=bS.o.1;rw[List.length_append,qJ.o,show(CS W z i).length=N*6 from by simpa [ints]using h];omega)))
     go_wp2_with (at_builtin;go_must (refine tJ w4 rfl (.tmp 30) (.tmp 31) _ rfl w.heap.size 116 i0 _ 6 48 Tryz.underlying42 hi iz is ib rfl qo u7 N _ rfl bS.o A4 n4 c4 _ rfl HR4.o (fun j=>rfl) qm qo lD ?_);intro v' w' hown' hfr hat';obtain⟨A5,c5,rfl⟩:=aE hown';have d9:=qh hown';have iB:=qh hfr;clear hown' hfr hat')
     have fW:=qh (show Below w.heap.size w w' from aW.o.trans (iB.o.below lD fun b hb=>(bS.o.lt b hb).1))
     exact zP27x1
   ·have hc1:(C==0)=false:=by rw[beq_eq_false_iff_ne];exact hc0
    obtain⟨v4,rfl⟩:=hbad hc0;have j8:=qh ((mh iO.o I8.o (by rw[←HC.o];exact hc0)).trans HC.o.symm);have HNZ:=qh hc0;clear lT hbad hgood hc0
    go_wp2_with fail
    go_ret2
    exact EvC.bad j8.o (by unfold zA;rw[if_neg (by rw[j8.o];exact HNZ.o)]) rfl aW.o
  ·obtain rfl:n=i:=qo
   have j8:=qh (S1 I8.o);clear hg hr hok ho hfree
   go_wp2_with fail
   go_ret2
   exact⟨_,N,by rw[j8.o];rfl,hN,by unfold zA;rw[if_pos j8.o];exact HO.o,HR.o.b⟩
theorem S9 {W:Int}{z:Nat→Int}{n:Nat}(h:kF W z n=true):∃V:Nat,W=V∧1≤V∧V≤24∧n≤1500∧∀i,i<n→xS V z i=true:=by
 have hpp:aJ W 1 24=true∧n≤1500∧wG W z n=true:=by
  unfold kF at h
  simpa only[Bool.and_eq_true,decide_eq_true_eq]using h
 have hW:1≤W∧W≤24:=by have:=hpp.1;unfold aJ at this;simpa only[Bool.and_eq_true,decide_eq_true_eq]using this
 obtain⟨V,rfl⟩:=Int.eq_ofNat_of_zero_le (show 0≤W by omega);exact⟨V,rfl,by omega,by omega,hpp.2.1,Pn hpp.2.2⟩
end Go.Proofs.YtimlpmbabbbcaaaGreat
