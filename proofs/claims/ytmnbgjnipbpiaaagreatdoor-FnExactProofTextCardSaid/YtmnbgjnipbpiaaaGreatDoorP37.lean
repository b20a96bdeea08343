/- Walks and plain lemmas. -/
import Derived.Test.YtmnbgjnipbpiaaaGreatDoorP33
import Derived.Test.YtmnbgjnipbpiaaaGreatDoorP36
set_option linter.unusedVariables false
set_option linter.unusedSimpArgs false
set_option maxHeartbeats 8000000
set_option maxRecDepth 20000
namespace Go.Proofs.YtmnbgjnipbpiaaaGreatDoor
open Go.RowKit
attribute [local go_sem ↓] Go.wp_at_zero Go.wp_at_succ
theorem iX {F:List aF}{S:List (List Int)}{k:Nat}{f:aF}{L:List Int}{m:Nat}(hf:F[k]?=some f)(hL:S[k]?=some L)(hm:L.length=m*6):
 bJ F S (k+1)=bJ F S k++(bR f++([10]++cB (fun i=>L.getD i 0) m)):=by
 have e1:F.getD k (0,0,[])=f:=by simp[List.getD,hf]
 have e2:S.getD k []=L:=by simp[List.getD,hL]
 have e3:L.length/6=m:=qo
 simp only[bJ,e1,e2,e3]
theorem pD {L:List Int}(h:L.length≤12∧∀x∈L,0≤x∧x≤12):(BA (cD L)).size≤252:=by
 have:=o5 (L:=L) fun x hx=>by have:=h.2 x hx;exact⟨by omega,by omega⟩
 rw[dW];omega
theorem mE {k p c b y d:Int}(h:fV k p c b y d):(BA (aS k p c b y d)).size≤80:=by rw[dW];exact bS h
theorem oM {Ls:List (List Int)}{j:Nat}{L:List Int}(h:Ls[j]?=some L):cZ (Ls.take (j+1))=cZ (Ls.take j)++([32]++cD L):=by
 rw[←oL]
 congr 1
 have hj:=(List.getElem?_eq_some_iff.1 h);rw[List.take_succ_eq_append_getElem hj.1,hj.2]
open Classical in
theorem g8 (A B:OA)(c d:Nat)(F:List aF)(S:List (List Int))(w:World)(hp:cN true w A B F S)(hb:l1 F S):
 Calls Tryz.prog 6 #[.agg #[.slice A F.length c,.slice B S.length d]] w (jA w (gJ F S)):=by
 have HW:=qh ((Below.refl w.heap.size w).alloc ql (.cells #[.slice A F.length c,.slice B S.length d] 31));obtain⟨w1,hw1⟩:=qx (w.alloc (.cells #[.slice A F.length c,.slice B S.length d] 31));have hblk:aJ w1 w.heap.size 31 #[.slice A F.length c,.slice B S.length d]:=by rw[hw1];exact aJ.at_ w _ _ rfl
 rw[←hw1]at HW;have HP:=qh (hp.below HW.o);have x0:w1.cell? ⟨w.heap.size,0,none⟩=some (.slice A F.length c):=hblk.cell 0;have x1:w1.cell? ⟨w.heap.size,1,none⟩=some (.slice B S.length d):=hblk.cell 1;have hz:=hblk.lt;have fS:=qh (o6 w.heap.size A B c d F S w1 x0 x1 HP.o hb);have hsl:=hb.s.1;have hfl:=hb.f.1;clear hp hblk
 go_enter Tryz.func6,Tryz.ntmps6
 go_wp2_with fail
 rw[←hw1];clear hw1;refine fS.o.mono ?_;rintro e w2 ⟨rfl,hb2⟩;have HB2:=qh (hb2.mono ql);have x0:=a6 hb2 hz x0;have x1:=a6 hb2 hz x1;have oY:=qh (HP.o.below hb2);have HW2:=HW.st hb2;have hz2:=Nat.lt_of_lt_of_le hz hb2.size;clear hb2 fS hz
 by_cases hok:bO F S
 case neg=>
  have HR:=qh (show gJ F S=[]from if_neg hok);rw[decide_eq_false hok];clear hok
  go_wp2_with fail
  go_ret
  exact⟨by rw[HR.o];rfl,HW2.o⟩
 have HR:=qh (show gJ F S=bJ F S F.length from if_pos hok);rw[decide_eq_true hok];have bZ:=qh hok.go;have hse:=hok.go.s;have pN:=hok.go.f;rw[hse]at x1;obtain⟨N,hN⟩:=qx (F.length);rw[←hN]at x0 x1 hse pN HR;have dO:=qh hN;have hZ:=qh hse;clear hok hfl hsl hb hse hN
 go_wp2_with fail
 go_loopw [3,4,5,6,7] (fun a i _ _ _ wr=>∃(k:Nat) (u:ByteArray),k≤N∧i=.int .i64 k∧a=.string u∧Hq (u=BA (bJ F S k))∧u.size≤300000*k∧Hq (Below w2.heap.size w2 wr)) (fun _ i _ _ _ _=>N-(intOf i).toNat)
 case atStart=>exact⟨0,_,Nat.zero_le _,rfl,rfl,rfl,Nat.le_refl _,qh (Below.refl _ _)⟩
 case round=>
  obtain⟨k,u,hk,rfl,rfl,HU,hu,HB⟩:=hrel;obtain⟨wo,hwo⟩:=qx (wr);subst hwo;have d0:=a6 HB.o hz2 x0;have d1:=a6 HB.o hz2 x1
  by_cases hlt:k<N
  ·obtain⟨f,hf⟩:=dT (L:=F) (k:=k) (by have:=dO.o;omega)
   obtain⟨L,hL⟩:=dT (L:=S) (k:=k) (by have:=hZ.o;omega);obtain⟨gf,off,Af,cf,rfl,hgf,bM⟩:=(oY.o.f.below HB.o).at hf;obtain⟨gs,os,As,ms,cs,rfl,hgs,hsc,hll,hsr⟩:=(oY.o.s.below HB.o).at hL;have bI:=qh (iX hf hL hll);have eL:=qh (bZ.o.ev L (List.mem_of_getElem? hL));have hms:ms≤2000:=by have:=eL.o.1;omega
   have eW:=qh (bZ.o.fm f (List.mem_of_getElem? hf));have c0:=bM.c0;have c1:=bM.c1;have c2:=bM.c2;have fG:=qh bM.rd;have eT:=qh hsr;have eK:=qh hll;obtain⟨fs,fp,fl⟩:=f
   simp only at c0 c1 c2 fG
   have hfn:fl.length≤100:=eW.o.2.2.1;have hds:(dec fs).size≤20:=bN fs eW.o.1.1 eW.o.1.2;have hdp:(dec fp).size≤20:=bN fp eW.o.2.1.1 eW.o.2.1.2;have hq1:¬9223372036854775807<5+(dec fs).size:=qo;have hq2:¬9223372036854775807<5+(dec fs).size+1:=qo;have hq3:¬9223372036854775807<5+(dec fs).size+1+(dec fp).size:=qo;have hq4:¬9223372036854775807<u.size+(5+(dec fs).size+1+(dec fp).size):=qo;have b1:(0:Int)≤(k:Int):=qo;have b2:(k:Int)<(N:Int):=qo;obtain⟨wb,hwb⟩:=qx (wo.alloc (.cells #[.int .i64 fs,.int .i64 fp,.slice Af fl.length cf] 54));have cU:=qh (show aJ wb wo.heap.size 54 #[.int .i64 fs,.int .i64 fp,.slice Af fl.length cf]by rw[hwb];exact aJ.at_ wo _ _ rfl);have cT:=qh (show Below wo.heap.size wo wb by rw[hwb];exact qb);have hbz:=cU.o.lt;have y0:∀q,wb.cell? ⟨wo.heap.size,q,none⟩=(#[.int .i64 fs,.int .i64 fp,.slice Af fl.length cf]:Array Value)[q]?:=by rw[hwb];exact fun q=>aZ rfl q
   have sN:=qh y0;have pL:w.heap.size<wo.heap.size:=Nat.lt_of_lt_of_le hz2 HB.o.size;have hgb:w.heap.size<wb.heap.size:=Nat.lt_of_lt_of_le pL cT.o.size;have d1:=a6 cT.o pL d1;have d0:=a6 cT.o pL d0;have hsc:=a6 cT.o hgs hsc;have hgs:=Nat.lt_of_lt_of_le hgs cT.o.size;have fG:=qh (fG.o.below cT.o);have eT:=qh (eT.o.below cT.o);have HB:=qh (HB.o.trans (cT.o.mono HB.o.size));clear hf hL bM hsr hll hgf
   go_upto_region 8 with fail
   rw[←hwb];clear hwb c0 c1 c2;obtain⟨G,hG⟩:=qx (wo.heap.size);rw[←hG]at y0 hbz sN ⊢;clear hG
   go_region_held3 (fun w'=>∀q,w'.cell? ⟨G,q,none⟩=(#[.int .i64 fs,.int .i64 fp,.slice Af fl.length cf]:Array Value)[q]?) (go_keep) (first
    |(go_at_call_of 22 (Value.int .i64 fs);refine(bK fs eW.o.1.1 eW.o.1.2 _).mono ?_;rintro e w3 ⟨rfl,hb3⟩;have HB3:Hq (Below wb.heap.size wb w3):=qh (((Below.refl _ _).drew).trans (hb3.mono (by first|(simp;done)|exact Nat.le_refl _)));clear hb3;have x8:∀q,w3.cell? ⟨G,q,none⟩=(#[.int .i64 fs,.int .i64 fp,.slice Af fl.length cf]:Array Value)[q]?:=(fun q=>((aA HB3.o).1 _ q hbz).trans (sN.o q)))
    |(go_at_call_of 22 (Value.int .i64 fp);refine(bK fp eW.o.2.1.1 eW.o.2.1.2 _).mono ?_;rintro e w4 ⟨rfl,hb4⟩;have aI:Hq (Below wb.heap.size wb w4):=HB3.st hb4;clear hb4;have tY:∀q,w4.cell? ⟨G,q,none⟩=(#[.int .i64 fs,.int .i64 fp,.slice Af fl.length cf]:Array Value)[q]?:=(fun q=>((aA aI.o).1 _ q hbz).trans (sN.o q))))
   rename_i hHeld
   clear hHeld x8 HB3 y0;have HV:=qh (show u++(⟨#[102,111,114,109,32]⟩++dec fs++⟨#[32]⟩++dec fp)=BA (bJ F S k++gN fs fp)by rw[HU.o];exact ba_eq (by simp[aN,aV,gN]));have hv:(u++(⟨#[102,111,114,109,32]⟩++dec fs++⟨#[32]⟩++dec fp)).size≤300000*k+46:=by
    simp only[ByteArray.size_append]
    have e1:(⟨#[102,111,114,109,32]⟩:ByteArray).size=5:=rfl;have e2:(⟨#[32]⟩:ByteArray).size=1:=rfl;omega
   have z2:w4.cell? ⟨G,2,none⟩=some (.slice Af fl.length cf):=tY 2;have d0:=a6 aI.o hgb d0;have d1:=a6 aI.o hgb d1;have hsc:=a6 aI.o hgs hsc;have hgs:=Nat.lt_of_lt_of_le hgs aI.o.size;have hgw:=Nat.lt_of_lt_of_le hgb aI.o.size;have hbz:=Nat.lt_of_lt_of_le hbz aI.o.size;have fG:=qh (fG.o.below aI.o);have eT:=qh (eT.o.below aI.o);have HB:=qh (HB.o.trans (aI.o.mono HB.o.size));clear hq1 hq2 hq3 hq4 tY
   go_wp2_with fail
   obtain⟨v0,hv0⟩:=qx (u++(⟨#[102,111,114,109,32]⟩++dec fs++⟨#[32]⟩++dec fp));rw[←hv0]at HV hv ⊢;clear hv0 hds hdp
   go_loopw [3,6] (fun a i wr=>∃(j:Nat) (v:ByteArray),j≤fl.length∧i=.int .i64 j∧a=.string v∧Hq (v=BA (bJ F S k++gN fs fp++cZ (fl.take j)))∧v.size≤300000*k+46+300*j∧Hq (Below w4.heap.size w4 wr)) (fun _ i _=>fl.length-(intOf i).toNat)
   case atStart=>exact⟨0,_,Nat.zero_le _,rfl,rfl,qh (by rw[HV.o];simp[cZ]),by omega,qh (Below.refl _ _)⟩
   case round=>
    clear HV hv;obtain⟨j,v,hj,rfl,rfl,HV,hv,i6⟩:=hrel;obtain⟨wj,xA⟩:=qx (wr);subst xA;have z2:=a6 i6.o hbz z2
    by_cases hjl:j<fl.length
    ·obtain⟨M,hM⟩:=dT (L:=fl) (k:=j) hjl
     obtain⟨gl,ol,Al,cl,rfl,hgl,hlc,hlr,_⟩:=(fG.o.below i6.o).at hM;have l3:=qh (eW.o.2.2.2 M (List.mem_of_getElem? hM));have tF:=qh (oM hM);have hls:=pD l3.o;have l7:=qh hlr;have hq1:¬9223372036854775807<1+(BA (cD M)).size:=qo;have hq2:¬9223372036854775807<v.size+(1+(BA (cD M)).size):=qo;have b3:(0:Int)≤(j:Int):=qo;have b4:(j:Int)<(fl.length:Int):=qo;clear hM hlr
     go_wp2_with (go_at_call 23;refine(lL _ _ M _ l7.o l3.o.1 l3.o.2).mono ?_;rintro e w5 ⟨rfl,hb5⟩;have aX:=i6.st hb5;clear hb5)
     go_roundw
     case rel=>exact⟨j+1,_,by omega,qg,rfl,qh (by rw[HV.o,tF.o];exact ba_eq (by simp[aN])),by simp only[ByteArray.size_append];have:(⟨#[32]⟩:ByteArray).size=1:=rfl;omega,aX⟩
     case measure=>exact qs
    ·obtain rfl:j=fl.length:=qo
     have sR:=qh (show v++⟨#[10]⟩=BA (bJ F S k++(bR (fs,fp,fl)++([10]++cB (fun i=>L.getD i 0) 0)))by rw[HV.o,List.take_length];exact ba_eq (by simp[aN,bR,cB]));have hv2:(v++⟨#[10]⟩).size≤300000*k+30047:=by
      simp only[ByteArray.size_append]
      have e1:(⟨#[10]⟩:ByteArray).size=1:=rfl;omega
     have d1:=a6 i6.o hgw d1;have hsc:=a6 i6.o hgs hsc;have hgs:=Nat.lt_of_lt_of_le hgs i6.o.size;have hgw:=Nat.lt_of_lt_of_le hgw i6.o.size;have eT:=qh (eT.o.below i6.o);have HB:=qh (HB.o.trans (i6.o.mono HB.o.size));clear HV d0
     go_wp2_with fail
     clear z2;obtain⟨v0,hv0⟩:=qx (v++(⟨#[10]⟩:ByteArray));rw[←hv0]at sR hv2 ⊢;clear hv0 hv
     go_loopw [3,7] (fun a i wr=>∃(j:Nat) (v:ByteArray),j≤ms∧i=.int .i64 j∧a=.string v∧Hq (v=BA (bJ F S k++(bR (fs,fp,fl)++([10]++cB (fun i=>L.getD i 0) j))))∧v.size≤300000*k+30047+100*j∧Hq (Below wj.heap.size wj wr)) (fun _ i _=>ms-(intOf i).toNat)
     case atStart=>exact⟨0,_,Nat.zero_le _,rfl,rfl,sR,by omega,qh (Below.refl _ _)⟩
     case round=>
      clear sR hv2;obtain⟨i,v2,hi,rfl,rfl,HV,hv,p1⟩:=hrel;have d1:=a6 p1.o hgw d1;have hsc:=a6 p1.o hgs hsc
      by_cases hil:i<ms
      ·obtain⟨g9,o9,rfl,vC,hev⟩:=kZ (eT.o.below p1.o) hil
       have hgo:=eL.o.2 i (by have:=eK.o;omega);have qM:=qh (show cB (fun i=>L.getD i 0) (i+1)=cB (fun i=>L.getD i 0) i++(aS (L.getD (i*6) 0) (L.getD (i*6+1) 0) (L.getD (i*6+2) 0) (L.getD (i*6+3) 0) (L.getD (i*6+4) 0) (L.getD (i*6+5) 0)++[10])from rfl);obtain⟨k0,hk0⟩:=qx (L.getD (i*6) 0);obtain⟨p0,hp0⟩:=qx (L.getD (i*6+1) 0);obtain⟨c0,hc0⟩:=qx (L.getD (i*6+2) 0);obtain⟨b0,hb0⟩:=qx (L.getD (i*6+3) 0);obtain⟨y0,hy0⟩:=qx (L.getD (i*6+4) 0);obtain⟨d9,j6⟩:=qx (L.getD (i*6+5) 0)
       simp only[←hk0,←hp0,←hc0,←hb0,←hy0,←j6]at hev hgo qM
       have hes:=mE hgo;have hq1:¬9223372036854775807<(BA (aS k0 p0 c0 b0 y0 d9)).size+1:=qo;have hq2:¬9223372036854775807<v2.size+((BA (aS k0 p0 c0 b0 y0 d9)).size+1):=qo;have wT:=qh hev;have HG:=qh hgo;have b3:(0:Int)≤(i:Int):=qo;have b4:(i:Int)<(ms:Int):=qo;clear hk0 hp0 hc0 hb0 hy0 j6 hev hgo
       go_wp2_with (go_at_call 24;refine(lM k0 p0 c0 b0 y0 d9 _ _ _ wT.o HG.o).mono ?_;rintro e w6 ⟨rfl,hb6⟩;have eG:=p1.st hb6;clear hb6)
       go_roundw
       case rel=>exact⟨i+1,_,by omega,qg,rfl,qh (by rw[HV.o,qM.o];exact ba_eq (by simp[aN])),by simp only[ByteArray.size_append];have:(⟨#[10]⟩:ByteArray).size=1:=rfl;omega,eG⟩
       case measure=>exact qs
      ·obtain rfl:i=ms:=qo
       have HB:=qh (HB.o.trans (p1.o.mono HB.o.size))
       go_wp2_with fail
       go_roundw
       case rel=>exact⟨k+1,v2,by omega,qg,rfl,qh (by rw[bI.o,HV.o]),by omega,HB⟩
       case measure=>exact qs
  ·obtain rfl:k=N:=qo
   go_wp2_with fail
   go_ret
   exact⟨by rw[HR.o,←HU.o];rfl,HW2.o.trans (HB.o.mono HW2.o.size)⟩
end Go.Proofs.YtmnbgjnipbpiaaaGreatDoor
