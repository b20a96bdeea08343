/- Walks and plain lemmas. -/
import Derived.Test.YtmnbgjnipbpiaaaGreatDoorP35
import Derived.Test.YtmnbgjnipbpiaaaGreatDoorP37
set_option linter.unusedVariables false
set_option linter.unusedSimpArgs false
set_option maxHeartbeats 8000000
set_option maxRecDepth 20000
namespace Go.Proofs.YtmnbgjnipbpiaaaGreatDoor
open Go.RowKit
attribute [local go_sem ↓] Go.wp_at_zero Go.wp_at_succ
open Classical in
theorem gC (A B:OA)(c d:Nat)(F:List aF)(S:List (List Int))(w:World)(hp:cN true w A B F S)(hb:l1 F S)(ht:Tab w)(hm:eO w):
 Calls Tryz.prog 8 #[.agg #[.slice A F.length c,.slice B S.length d]] w (jA w (gJ F S)):=by
 have HW:=qh ((Below.refl w.heap.size w).alloc ql (.cells #[.slice A F.length c,.slice B S.length d] 31));obtain⟨w1,hw1⟩:=qx (w.alloc (.cells #[.slice A F.length c,.slice B S.length d] 31));have hblk:aJ w1 w.heap.size 31 #[.slice A F.length c,.slice B S.length d]:=by rw[hw1];exact aJ.at_ w _ _ rfl
 rw[←hw1]at HW;have HP:=qh (hp.below HW.o);have HT:=qh (ht.below HW.o);have HM:=qh (hm.below HW.o);have x0:w1.cell? ⟨w.heap.size,0,none⟩=some (.slice A F.length c):=hblk.cell 0;have x1:w1.cell? ⟨w.heap.size,1,none⟩=some (.slice B S.length d):=hblk.cell 1;have hz:=hblk.lt;have fS:=qh (gW A B c d F S w1 HP.o hb);have hsl:=hb.s.1;have hfl:=hb.f.1;clear hp hblk ht hm
 go_enter Tryz.func8,Tryz.ntmps8
 go_wp2_with fail
 rw[←hw1];clear hw1;refine fS.o.mono ?_;rintro e w2 ⟨rfl,hb2⟩;have x0:=a6 hb2 hz x0;have x1:=a6 hb2 hz x1;have oY:=qh (HP.o.below hb2);have HT2:=qh (HT.o.below hb2);have xY:=qh (HM.o.below hb2);have HW2:=HW.st hb2;have hz2:=Nat.lt_of_lt_of_le hz hb2.size;clear hb2 fS hz HT HM
 by_cases hok:bO F S
 case neg=>
  have HR:=qh (show gJ F S=[]from if_neg hok);rw[decide_eq_false hok];clear hok
  go_wp2_with fail
  go_ret
  exact⟨by rw[HR.o];rfl,HW2.o⟩
 have HR:=qh (show gJ F S=bJ F S F.length from if_pos hok);rw[decide_eq_true hok];have bZ:=qh hok.go;have hse:=hok.go.s;have pN:=hok.go.f;rw[hse]at x1;obtain⟨N,hN⟩:=qx (F.length);rw[←hN]at x0 x1 hse pN HR;have dO:=qh hN;have hZ:=qh hse;have tE:=qh (fun k (h:k≤N)=>qY bZ.o (k:=k) qo);obtain⟨wb,hwb⟩:=qx (w2.alloc (.cells #[.pointer none,.slice none 0 0] 66));have bQ:=qh (show dS w2.heap.size [] wb by rw[hwb];exact dS.fresh w2);have cT:=qh (show Below w2.heap.size w2 wb by rw[hwb];exact qb);have wX:=a6 cT.o hz2 x0;have wW:=a6 cT.o hz2 x1;clear hok hfl hsl hb hse hN
 go_upto_region 4 with fail
 rw[←hwb];clear hwb
 go_wp2_with fail
 clear wX wW
 go_loopw [4,5,7,15] (fun _ _ _ i wr=>∃(k:Nat),k≤N∧i=.int .i64 k∧Hq (dS w2.heap.size (bJ F S k) wr)∧Hq (Below w2.heap.size w2 wr)) (fun _ _ _ i _=>N-(intOf i).toNat)
 case atStart=>exact⟨0,Nat.zero_le _,rfl,bQ,cT⟩
 case round=>
  clear bQ cT;obtain⟨k,hk,rfl,bQ,HB⟩:=hrel;obtain⟨wo,hwo⟩:=qx (wr);subst hwo
  by_cases hlt:k<N
  ·obtain⟨f,hf⟩:=dT (L:=F) (k:=k) (by have:=dO.o;omega)
   obtain⟨L,hL⟩:=dT (L:=S) (k:=k) (by have:=hZ.o;omega);obtain⟨gf,off,Af,cf,rfl,hgf,bM⟩:=oY.o.f.at hf;obtain⟨gs,os,As,ms,cs,rfl,hgs,hsc,hll,hsr⟩:=oY.o.s.at hL;have bI:=qh (iX hf hL hll);have eL:=qh (bZ.o.ev L (List.mem_of_getElem? hL));have hms:ms≤2000:=by have:=eL.o.1;omega
   have eW:=qh (bZ.o.fm f (List.mem_of_getElem? hf));have c0:=a6 HB.o hgf bM.c0;have c1:=a6 HB.o hgf bM.c1;have c2:=a6 HB.o hgf bM.c2;have fG:=qh bM.rd;have eT:=qh hsr;have eK:=qh hll;have hft:=m9 eW.o;obtain⟨fs,fp,fl⟩:=f
   simp only at c0 c1 c2 fG
   have hfs:(BA (bR (fs,fp,fl))).size≤30046:=by rw[dW];exact hft
   have hq1:¬9223372036854775807<(BA (bR (fs,fp,fl))).size+1:=qo;have hpl:(bJ F S k).length≤300000*k:=tE.o k hk;have b1:(0:Int)≤(k:Int):=qo;have b2:(k:Int)<(N:Int):=qo;have jF:=qh ((Below.refl wo.heap.size wo).alloc ql (.cells #[.int .i64 fs,.int .i64 fp,.slice Af fl.length cf] 54));have i7:=qh (HB.o.trans (jF.o.mono HB.o.size));have qP:=qh (kP (fs,fp,fl) Af cf _ (fG.o.below i7.o) eW.o (HT2.o.below i7.o) (xY.o.below i7.o));have l9:=qh (bQ.o.below jF.o);clear hf hL bM hsr hll hft
   go_wp2_with fail
   refine qP.o.mono ?_;rintro e w4 ⟨rfl,hb4⟩;have tJ:=qh (l9.o.below hb4);have aI:=i7.st hb4;clear hb4 qP c0 c1 c2 l9 i7;have oX:=qh (iU w2.heap.size (bJ F S k) (BA (bR (fs,fp,fl))++⟨#[10]⟩) w4 tJ.o (by simp only[ByteArray.size_append];have:(⟨#[10]⟩:ByteArray).size=1:=rfl;omega))
   go_wp2_with fail
   refine oX.o.mono ?_;rintro e w5 ⟨⟨v5,rfl⟩,hd5,hb5⟩;have aX:=qh (aI.o.trans hb5);have tI:=qh (show dS w2.heap.size (bJ F S k++(bR (fs,fp,fl)++([10]++cB (fun i=>L.getD i 0) 0))) w5 by
    rw[show bJ F S k++(bR (fs,fp,fl)++([10]++cB (fun i=>L.getD i 0) 0))=bJ F S k++(BA (bR (fs,fp,fl))++⟨#[10]⟩).data.toList by simp[aN,cB]];exact hd5)
   have wV:=a6 aX.o hz2 x1;have hse:=a6 aX.o hgs hsc;clear hb5 hd5 oX tJ hq1
   go_wp2_with fail
   clear wV hse
   go_loopw [7,30] (fun _ i wr=>∃(j:Nat),j≤ms∧i=.int .i64 j∧Hq (dS w2.heap.size (bJ F S k++(bR (fs,fp,fl)++([10]++cB (fun i=>L.getD i 0) j))) wr)∧Hq (Below w2.heap.size w2 wr)) (fun _ i _=>ms-(intOf i).toNat)
   case atStart=>exact⟨0,Nat.zero_le _,rfl,tI,aX⟩
   case round=>
    clear tI aX aI HB bQ;obtain⟨j,hj,rfl,bQ,HB⟩:=hrel
    by_cases hjl:j<ms
    ·obtain⟨g9,o9,rfl,vC,hev⟩:=kZ (eT.o.below HB.o) hjl
     have hgo:=eL.o.2 j (by have:=eK.o;omega);have hsx:cB (fun i=>L.getD i 0) (j+1)=cB (fun i=>L.getD i 0) j++(aS (L.getD (j*6) 0) (L.getD (j*6+1) 0) (L.getD (j*6+2) 0) (L.getD (j*6+3) 0) (L.getD (j*6+4) 0) (L.getD (j*6+5) 0)++[10]):=rfl;have HSL:=qh (mC (z:=fun i=>L.getD i 0) (n:=ms) (by have:=eL.o.2;have h2:=eK.o;rw[show L.length/6=ms by omega]at this;exact this) hj);obtain⟨k0,hk0⟩:=qx (L.getD (j*6) 0);obtain⟨p0,hp0⟩:=qx (L.getD (j*6+1) 0);obtain⟨c0,hc0⟩:=qx (L.getD (j*6+2) 0);obtain⟨b0,hb0⟩:=qx (L.getD (j*6+3) 0);obtain⟨y0,hy0⟩:=qx (L.getD (j*6+4) 0);obtain⟨d9,j6⟩:=qx (L.getD (j*6+5) 0)
     simp only[←hk0,←hp0,←hc0,←hb0,←hy0,←j6]at hev hgo hsx
     have qM:=qh hsx;have hes:=mE hgo;have hq1:¬9223372036854775807<(BA (aS k0 p0 c0 b0 y0 d9)).size+1:=qo;have b3:(0:Int)≤(j:Int):=qo;have b4:(j:Int)<(ms:Int):=qo;have a0:=hev.c0;have a1:=hev.c1;have a2:=hev.c2;have a3:=hev.c3;have a4:=hev.c4;have a5:=hev.c5;have jF:=qh ((Below.refl wr.heap.size wr).alloc ql (.cells #[.int .i64 k0,.int .i64 p0,.int .i64 c0,.int .i64 b0,.int .i64 y0,.int .i64 d9] 61));have i7:=qh (HB.o.trans (jF.o.mono HB.o.size));have vV:=qh (jW k0 p0 c0 b0 y0 d9 _ hgo (HT2.o.below i7.o));have l9:=qh (bQ.o.below jF.o);clear hk0 hp0 hc0 hb0 hy0 j6 hev hgo hsx
     go_wp2_with fail
     refine vV.o.mono ?_;rintro e w6 ⟨rfl,hb6⟩;have tH:=qh (l9.o.below hb6);have eG:=i7.st hb6;clear hb6 vV a0 a1 a2 a3 a4 a5 l9 i7;have oX:=qh (iU w2.heap.size _ (BA (aS k0 p0 c0 b0 y0 d9)++⟨#[10]⟩) w6 tH.o (by
      have h1:=HSL.o;have h2:(bR (fs,fp,fl)).length≤30046:=by rw[←dW];exact hfs
      simp only[ByteArray.size_append,List.length_append,List.length_cons,List.length_nil];have:(⟨#[10]⟩:ByteArray).size=1:=rfl;omega))
     go_wp2_with fail
     refine oX.o.mono ?_;rintro e w7 ⟨⟨v7,rfl⟩,hd7,oI⟩;have qS:=qh (eG.o.trans oI);have wU:=qh (show dS w2.heap.size (bJ F S k++(bR (fs,fp,fl)++([10]++cB (fun i=>L.getD i 0) (j+1)))) w7 by
      rw[qM.o];rw[show bJ F S k++(bR (fs,fp,fl)++([10]++(cB (fun i=>L.getD i 0) j++(aS k0 p0 c0 b0 y0 d9++[10]))))=bJ F S k++(bR (fs,fp,fl)++([10]++cB (fun i=>L.getD i 0) j))++(BA (aS k0 p0 c0 b0 y0 d9)++⟨#[10]⟩).data.toList by simp[aN]];exact hd7)
     clear oI hd7 oX tH hq1
     go_wp2_with fail
     go_roundw
     case rel=>exact⟨j+1,by omega,qg,wU,qS⟩
     case measure=>exact qs
    ·obtain rfl:j=ms:=qo
     rw[←bI.o]at bQ
     go_wp2_with fail
     go_roundw
     case rel=>exact⟨k+1,by omega,qg,bQ,HB⟩
     case measure=>exact qs
  ·obtain rfl:k=N:=qo
   have HST:=qh (oS w2.heap.size _ wo bQ.o)
   go_wp2_with fail
   refine HST.o.mono ?_;rintro e w9 ⟨rfl,aP⟩;have cO:=qh (HB.o.trans aP);clear aP HST
   go_wp2_with fail
   go_ret
   exact⟨by rw[HR.o];rfl,HW2.o.trans (cO.o.mono HW2.o.size)⟩
end Go.Proofs.YtmnbgjnipbpiaaaGreatDoor
