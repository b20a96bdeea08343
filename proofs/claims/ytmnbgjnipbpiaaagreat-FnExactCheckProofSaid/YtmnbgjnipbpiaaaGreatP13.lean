/- Walks and plain lemmas. -/
import Derived.Test.YtmnbgjnipbpiaaaGreatP12
set_option linter.unusedVariables false
set_option linter.unusedSimpArgs false
set_option maxRecDepth 20000
namespace Go.Proofs.YtmnbgjnipbpiaaaGreat
open Go.RowKit
theorem sV {B:Nat}{w:World}{e:TypeId}{g n c:Nat}{xs:List Value}(h:w.ownsRow B e 1 (.slice (some ⟨g,0,none⟩) n c) n xs){m:Nat}(hm:m≤n):w.ownsRow B e 1 (.slice (some ⟨g,0,none⟩) m c) m (xs.take m):=by
 refine⟨by have:=h.1;simp;omega,?_⟩
 rcases h.2 with⟨h0,_⟩|⟨g',cap,cur,e',hb,hg,h1,h2,h3,h4⟩
 ·cases h0
 ·injection e' with e1 _ e2
  injection e1 with e1;injection e1 with e1;subst e1;subst e2;refine .inr ⟨_,_,cur,rfl,hb,hg,by omega,h2,h3,?_⟩;rw[←h4,List.take_take]
  congr 1
  omega
theorem eV (w:List Int):(G.inv w).length=w.length:=by simp[G.inv]
theorem DT {w:List Int}{k:Nat}(hk:k<w.length):(G.inv w).take (k+1)=(G.inv w).take k++[-(w.getD (w.length-1-k) 0)]:=by
 rw[List.take_succ_eq_append_getElem (by rw[eV];exact hk)]
 congr 2
 simp[G.inv,List.getElem_reverse,List.getD,show w.length-1-k<w.length by omega]
def l5 (L:List Int):Prop:=∀x∈L,-100000≤x∧x≤100000
theorem l5.get {L:List Int}(h:l5 L)(k:Nat): -100000≤L.getD k 0∧L.getD k 0≤100000:=by
 by_cases hk:k<L.length
 ·have:=h L[k] (List.getElem_mem hk)
  simp only[List.getD,List.getElem?_eq_getElem hk,Option.getD_some]
  exact this
 ·simp[List.getD,List.getElem?_eq_none (Nat.le_of_not_lt hk)]
theorem x6 (x:Int)(w:World)(hx: -4000000000≤x∧x≤4000000000):Calls Tryz.prog 63 #[.int .i64 x] w fun e w'=>e=.returned (.int .i64 x.natAbs)∧w=w':=by
 by_cases h:x<0
 ·have HN:=qh (show-x=(x.natAbs:Int)by omega)
  go_enter Tryz.func63,Tryz.ntmps63
  go_wp2
  go_ret
  exact⟨by rw[←HN.o];rfl,rfl⟩
 ·have HN:=qh (show x=(x.natAbs:Int)by omega)
  go_enter Tryz.func63,Tryz.ntmps63
  go_wp2
  go_ret
  exact⟨by rw[←HN.o];rfl,rfl⟩
theorem pM (L:List Int)(A:OA)(c:Nat)(w:World)(ha:aG w A L)(hn:L.length≤100000)(hs:l5 L):Calls Tryz.prog 61 #[.slice A L.length c] w (dA w (G.inv L)):=by
 obtain⟨i0,hi,iz,is,ib⟩:=info_parts info64;have HO:=qh (World.ownsRow_made (e:=2) (size:=1) w #[] 0 ql qm rfl);have HB:=qh ((Below.refl w.heap.size w).alloc ql (.cells #[] 2));have HA:=qh ha;have HS:=qh hs;have HN:=qh (fun k hk=>DT (w:=L) (k:=k) hk);have eI:=qh (eV L);obtain⟨n,hnl⟩:=qx (L.length);obtain⟨I,hI⟩:=qx (G.inv L);rw[←hnl]at hn HN eI ⊢;rw[←hI]at HN eI;have dK:=qh hnl;have HI:=qh hI;clear ha hs hnl hI
 go_enter Tryz.func61,Tryz.ntmps61
 go_wp2_with fail
 go_loopg [3,4] n (fun q v x wr=>∃k:Nat,k≤n∧q=n-k∧x=.int .i64 ((n:Int)-1-k)∧Hq (wr.ownsRow w.heap.size 2 1 v k (ints (I.take k)))∧Hq (Below w.heap.size w wr))
 case atStart=>exact⟨0,Nat.zero_le _,rfl,qg,HO,HB⟩
 case round=>
  obtain⟨k,hk,hq,rfl,a9,HB2⟩:=hrel
  by_cases hlt:k<n
  ·have b1:(0:Int)≤(n:Int)-1-k:=qo
   obtain⟨m,hm⟩:=qx (n-1-k);have e1:(n:Int)-1-k=(m:Int):=qo;obtain⟨ga,o,rfl,hg,hr⟩:=HA.o (by rw[←dK.o];omega);have hc:=a7 HB2.o hg (hr m (by rw[←dK.o];omega));have hz:=HS.o.get m;have aL:=qh (show I.take (k+1)=I.take k++[-(L.getD m 0)]by rw[HN.o k hlt,hm]);have hmm:=hm;obtain⟨y,hy⟩:=qx (L.getD m 0)
   simp only[←hy]at hc hz aL
   have b2:(m:Int)<(n:Int):=qo;have b3:(0:Int)≤(m:Int):=qo;rw[hmm]at hc;clear hr hy
   go_wp2_with (at_builtin;go_must (refine cQ wr rfl (.tmp 13) (.tmp 19) _ rfl w.heap.size 2 i0 _ 1 8 Tryz.underlying74 hi iz is ib rfl qo u3 k _ rfl a9.o _ 1 1 _ rfl rfl (by simp[Value.oneCell']) qm qo HB2.o.size ?_);intro v' w' hown' hb';have eC:=qh hown';have HB3:=qh (HB2.o.trans hb');clear hown' hb')
   go_roundg (n-(k+1))
   case rel=>exact⟨k+1,by omega,rfl,qg,qh (by rw[aL.o,dI];exact eC.o),HB3⟩
   case measure=>omega
  ·obtain rfl:n=k:=qo
   go_wp2
   go_ret
   refine⟨_,rfl,?_,HB2.o⟩;have h:=a9.o;rw[←HI.o,eI.o];rwa[List.take_of_length_le (by have:=eI.o;omega)]at h
theorem lA (L:List Int):(ints L).take (L.length-1)=ints L.dropLast:=by
 simp[ints,List.dropLast_eq_take,List.map_take]
theorem rU (L:List Int)(A:OA)(c:Nat)(w:World)(ha:aG w A L)(hn:L.length≤100000)(hs:l5 L):Calls Tryz.prog 33 #[.slice A L.length c] w (dA w (G.red L)):=by
 obtain⟨i0,hi,iz,is,ib⟩:=info_parts info64;have HO:=qh (World.ownsRow_made (e:=2) (size:=1) w #[] 0 ql qm rfl);have HB:=qh ((Below.refl w.heap.size w).alloc ql (.cells #[] 2));have HA:=qh ha;have HS:=qh hs;have aL:=qh (show∀k,k<L.length→G.red (L.take (k+1))=G.cC (G.red (L.take k)) (L.getD k 0)from fun k hk=>by
  show List.foldl G.cC [] (L.take (k+1))=G.cC (List.foldl G.cC [] (L.take k)) _;rw[List.take_succ_eq_append_getElem hk,List.foldl_append]
  simp only[List.foldl_cons,List.foldl_nil,List.getD,List.getElem?_eq_getElem hk,Option.getD_some])
 have JM:=qh (show∀k,(G.red (L.take k)).length≤k from fun k=>by
  have:=G.fQ (L.take k);rw[List.length_take]at this;omega)
 have vS:=qh (show∀k,l5 (G.red (L.take k))from fun k x hx=>hs x (List.mem_of_mem_take (G.pH hx)));clear ha hs
 go_enter Tryz.func33,Tryz.ntmps33
 go_wp2_with fail
 go_loopw [3,4] (fun v x wr=>∃k:Nat,k≤L.length∧x=.int .i64 k∧Hq (wr.ownsRow w.heap.size 2 1 v (G.red (L.take k)).length (ints (G.red (L.take k))))∧Hq (Below w.heap.size w wr)) (fun _ x _=>L.length-(intOf x).toNat)
 case atStart=>exact⟨0,Nat.zero_le _,rfl,HO,HB⟩
 case round=>
  obtain⟨k,hk,rfl,a9,HB2⟩:=hrel
  by_cases hlt:k<L.length
  ·obtain⟨ga,o,rfl,hg,hr⟩:=HA.o qo
   have hc:=a7 HB2.o hg (hr k hlt);have hz:=HS.o.get k;have HX:=qh (aL.o k hlt);have hle:=JM.o k;have CN:=qh (vS.o k);obtain⟨y,hy⟩:=qx (L.getD k 0);obtain⟨R,hR⟩:=qx (G.red (L.take k))
   simp only[←hy,←hR]at hc hz HX a9 hle CN
   have b1:(0:Int)≤(k:Int):=qo;have b2:(k:Int)<(L.length:Int):=qo;clear hr hy hR
   by_cases h0:R.length=0
   ·obtain rfl:R=[]:=List.length_eq_zero_iff.1 h0
    have dE:=qh (show G.red (L.take (k+1))=[y]by rw[HX.o];rfl);obtain⟨A3,c3,rfl,_⟩:=aD a9.o;rw[List.length_nil]at a9 ⊢
    go_wp2_with fail
    go_quiet (fail)
    have kL:=qh (own_drewN a9.o nq);have bQ:=qh (Below.drewN' HB2.o nq)
    go_wp2_with (at_builtin;go_must (refine cQ (wr.drewN nq) rfl (.tmp 34) (.tmp 39) _ rfl w.heap.size 2 i0 _ 1 8 Tryz.underlying74 hi iz is ib rfl qo (.slice A3 0 c3) _ _ rfl kL.o _ 1 1 _ rfl rfl (by simp[Value.oneCell']) qm qo bQ.o.size ?_);intro v' w' hown' hb';have eC:=qh hown';have HB3:=qh (bQ.o.trans hb');clear hown' hb')
    go_roundw
    case rel=>exact⟨k+1,by omega,qg,qh (by rw[dE.o];exact eC.o),HB3⟩
    case measure=>exact qs
   obtain⟨g1,c1,rfl⟩:∃g1 c1,u3=.slice (some ⟨g1,0,none⟩) R.length c1:=by
    rcases a9.o.2 with⟨_,h⟩|⟨g1,cap,_,e,_⟩
    ·omega
    ·exact⟨g1,cap,e⟩
   obtain⟨r,hr⟩:∃r,R.length=r+1:=⟨R.length-1,by omega⟩;have hl:=a9.o.cellAt r qo;have hlz:=CN.o.get r;rw[show(ints R)[r]?=some (.int .i64 (R.getD r 0))by simp[ints,List.getD,show r<R.length by omega]]at hl;have kM:=qh (show R.getLast?.getD 0=R.getD r 0 by rw[List.getLast?_eq_getElem?,hr];rfl);obtain⟨z,hzz⟩:=qx (R.getD r 0);rw[←hzz]at hl hlz kM;have eD:=qh (show R≠[]from fun e=>h0 (by rw[e];rfl));have CP:=qh hr;have b3:(0:Int)≤(r:Int):=qo;have b4:(r:Int)<((r+1:Nat):Int):=qo;have e1:((r+1:Nat):Int)-1=(r:Int):=qo;have e2:(0:Int)<((r+1:Nat):Int):=qo;have hcap:r≤c1:=by
    rcases a9.o.2 with⟨h,_⟩|⟨_,_,_,e,_,_,h,_⟩
    ·cases h
    ·injection e with _ _ e
     omega
   have hd0:decide ((0:Int)<((r+1:Nat):Int))=true:=decide_eq_true e2;rw[hr]at a9 hle ⊢;clear hzz hr h0
   by_cases hzy:z= -y
   ·have dE:=qh (show G.red (L.take (k+1))=R.dropLast by
     rw[HX.o];unfold G.cC;rw[if_pos ⟨eD.o,kM.o.trans hzy⟩])
    have JD:=qh (sV a9.o (Nat.le_succ r));have hzb:(z== -y)=true:=by simp[hzy]
    go_wp2_with fail
    go_quiet (fail)
    go_wp2_with fail
    go_roundw
    case rel=>exact⟨k+1,by omega,qg,qh (by
     rw[dE.o,List.length_dropLast,←lA,CP.o,Nat.add_sub_cancel];exact own_drewN JD.o nq),qh (Below.drewN' HB2.o nq)⟩
    case measure=>exact qs
   ·have dE:=qh (show G.red (L.take (k+1))=R++[y]by
     rw[HX.o];unfold G.cC;rw[if_neg fun h=>hzy (kM.o.symm.trans h.2)])
    have hzb:(z== -y)=false:=by simpa using hzy
    go_wp2_with fail
    go_quiet (fail)
    have kL:=qh (own_drewN a9.o nq);have bQ:=qh (Below.drewN' HB2.o nq)
    go_wp2_with (at_builtin;go_must (refine cQ (wr.drewN nq) rfl (.tmp 34) (.tmp 39) _ rfl w.heap.size 2 i0 _ 1 8 Tryz.underlying74 hi iz is ib rfl qo (.slice (some ⟨g1,0,none⟩) (r+1) c1) _ _ rfl kL.o _ 1 1 _ rfl rfl (by simp[Value.oneCell']) qm qo bQ.o.size ?_);intro v' w' hown' hb';have eC:=qh hown';have HB3:=qh (bQ.o.trans hb');clear hown' hb')
    go_roundw
    case rel=>exact⟨k+1,by omega,qg,qh (by rw[dE.o,dI,List.length_append,CP.o];exact eC.o),HB3⟩
    case measure=>exact qs
  ·obtain rfl:L.length=k:=qo
   go_wp2
   go_ret
   refine⟨_,rfl,?_,HB2.o⟩;have h:=a9.o;rwa[List.take_length]at h
end Go.Proofs.YtmnbgjnipbpiaaaGreat
