/- Walks and plain lemmas. -/
import Derived.Test.YtmnbgjnipbpiaaaGreatP11
set_option linter.unusedVariables false
set_option linter.unusedSimpArgs false
set_option maxRecDepth 20000
namespace Go.Proofs.YtmnbgjnipbpiaaaGreat
open Go.RowKit
def bD {n:Nat}(p:G.PM n)(k i:Nat):List Int:=(List.range n).map fun j=>if j<i then((p.aM k).f j:Int)else(p.f j:Int)
theorem qS {n:Nat}(p:G.PM n)(k:Nat):bD p k 0=G.pl p:=by
 simp[bD,G.pl]
theorem qU {n:Nat}(p:G.PM n)(k:Nat){i:Nat}(hi:i<n):(bD p k i).set i ((p.aM k).f i:Int)=bD p k (i+1):=by
 apply List.ext_getElem?
 intro j;rw[List.getElem?_set]
 by_cases hjk:i=j
 ·subst hjk
  rw[if_pos rfl,if_pos (by simp[bD];omega)]
  simp[bD,hi]
 ·rw[if_neg hjk]
  by_cases hj:j<n
  ·simp only[bD,List.getElem?_map,List.getElem?_range hj,Option.map_some]
   by_cases h:j<i
   ·rw[if_pos h,if_pos qo]
   ·rw[if_neg h,if_neg qo]
  ·simp[bD,hj]
theorem qT {n:Nat}(p:G.PM n)(k:Nat){i:Nat}(h:(p.aM k).f i=p.f i):bD p k i=bD p k (i+1):=by
 refine List.map_congr_left fun j hj=>?_
 by_cases h1:j<i
 ·rw[if_pos h1,if_pos qo]
 ·by_cases h2:j=i
  ·subst h2
   rw[if_neg h1,if_pos qo,h]
  ·rw[if_neg h1,if_neg qo]
theorem vK {n:Nat}(p:G.PM n)(k:Nat):bD p k n=G.pl (p.aM k):=by
 refine List.map_congr_left fun j hj=>?_;rw[if_pos (List.mem_range.1 hj)]
theorem i7 {n:Nat}(p:G.PM n)(k:Nat)(A:OA)(c:Nat)(w:World)(ha:aG w A (G.pl p))(hn:n≤1000)(hk:1≤k)(hkn:k<n):Calls Tryz.prog 64 #[.slice A n c,.int .i64 k] w (dA w (G.pl (p.aM k))):=by
 have HA:=qh ha;have hown:=jR A c (G.pl p) w ha (by rw[G.a6];omega);rw[G.a6]at hown;have HOWN:=qh hown;obtain⟨ga,o,rfl,hg,hr⟩:=ha (by rw[G.a6];omega);have HR:=qh hr;obtain⟨j,rfl⟩:∃j,k=j+1:=⟨k-1,by omega⟩;clear hown ha hr
 go_enter Tryz.func64,Tryz.ntmps64
 go_wp2_with fail
 refine HOWN.o.mono ?_;rintro e w1 ⟨v1,rfl,ho1,hb1⟩;rw[G.a6]at ho1;obtain⟨g1,c1,rfl⟩:∃g1 c1,v1=.slice (some ⟨g1,0,none⟩) n c1:=by
  rcases ho1.2 with⟨_,h0⟩|⟨g1,cap,_,e,_⟩
  ·omega
  ·exact⟨g1,cap,e⟩
 have PV:=qh (ho1.lt g1 rfl);have cJ:=qh ho1;have HB1:=qh hb1;clear ho1 hb1 HOWN
 go_wp2_with fail
 go_loopw [6] (fun x wr=>∃i:Nat,i≤n∧x=.int .i64 i∧Hq (wr.ownsRow w.heap.size 2 1 (.slice (some ⟨g1,0,none⟩) n c1) n (ints (bD p (j+1) i)))∧Hq (Below w.heap.size w wr)) (fun x _=>n-(intOf x).toNat)
 case atStart=>exact⟨0,Nat.zero_le _,rfl,qh (by rw[qS];exact cJ.o),HB1⟩
 case round=>
  obtain⟨i,hi,rfl,a9,HB2⟩:=hrel
  by_cases hlt:i<n
  ·have hc:=a7 HB2.o hg (HR.o i (by rw[G.a6];exact hlt))
   simp only[G.bO p hlt]at hc
   have hp:=p.lt hlt;have aL:=qh (qU p (j+1) hlt);have mC:=qh (fun h=>qT p (j+1) (i:=i) h);have HV:=qh (show(p.aM (j+1)).f i=G.aE n (j+1) (p.f i)from rfl);have HT:=qh (G.fP (n:=n) (k:=j+1) hk hkn);obtain⟨P,hP⟩:=qx (p.f i);rw[←hP]at hp HV mC
   simp only[←hP]at hc
   have hl:(ints (bD p (j+1) i)).length=n:=by simp[ints,bD]
   obtain⟨y,hy⟩:∃y,wr.cell? ⟨g1,i,none⟩=some y:=⟨_,(a9.o.cellAt i qo).trans (List.getElem?_eq_getElem qo)⟩;have hf:=a9.o.frozenAt i;have hg1:=PV.o;have hne:ga≠g1:=qo;have e1:((j+1:Nat):Int)-1=(j:Int):=qo;have b1:(0:Int)≤(i:Int):=qo;have b2:(i:Int)<(n:Int):=qo;clear hP hl
   by_cases h1:P=j
   ·have gN:=qh (show(bD p (j+1) i).set i ((j+1:Nat):Int)=bD p (j+1) (i+1)by
     rw[←aL.o,HV.o,h1];have:=HT.o.1;rw[Nat.add_sub_cancel]at this;rw[this])
    have HST:=qh (a9.o.stored i (.int .i64 ((j+1:Nat):Int))).1;have HB3:=qh (Below.setCell (p:=⟨g1,i,none⟩) HB2.o hg1.1 (.int .i64 ((j+1:Nat):Int)));have h1b:((P:Int)==(j:Int))=true:=by simp[h1]
    have h1c:(P:Int)=(j:Int):=qo;clear aL mC HV HT
    go_wp2
    go_roundw
    case rel=>exact⟨i+1,by omega,qg,qh (by
     have h:=HST.o;rw[show(ints (bD p (j+1) i)).set i (.int .i64 ((j+1:Nat):Int))=ints ((bD p (j+1) i).set i ((j+1:Nat):Int))by simp[ints,List.map_set],gN.o]at h;exact h),HB3⟩
    case measure=>exact qs
   have h1b:((P:Int)==(j:Int))=false:=by rw[beq_eq_false_iff_ne];omega
   have h1c:¬(P:Int)=(j:Int):=qo
   by_cases h2:P=j+1
   ·have gN:=qh (show(bD p (j+1) i).set i (j:Int)=bD p (j+1) (i+1)by
     rw[←aL.o,HV.o,h2,HT.o.2.1,Nat.add_sub_cancel])
    have HST:=qh (a9.o.stored i (.int .i64 (j:Int))).1;have HB3:=qh (Below.setCell (p:=⟨g1,i,none⟩) HB2.o hg1.1 (.int .i64 (j:Int)));have IE:((P:Int)==((j+1:Nat):Int))=true:=by simp[h2]
    have ID:(P:Int)=((j+1:Nat):Int):=qo;clear aL mC HV HT
    go_wp2
    go_roundw
    case rel=>exact⟨i+1,by omega,qg,qh (by
     have h:=HST.o;rw[show(ints (bD p (j+1) i)).set i (.int .i64 (j:Int))=ints ((bD p (j+1) i).set i (j:Int))by simp[ints,List.map_set],gN.o]at h;exact h),HB3⟩
    case measure=>exact qs
   have IE:((P:Int)==((j+1:Nat):Int))=false:=by rw[beq_eq_false_iff_ne];omega
   have ID:¬(P:Int)=((j+1:Nat):Int):=qo;have HS2:=qh (mC.o (by rw[HV.o];exact HT.o.2.2 _ qo qo));clear aL mC HV HT
   go_wp2
   go_roundw
   case rel=>exact⟨i+1,by omega,qg,qh (by rw[←HS2.o];exact a9.o),HB2⟩
   case measure=>exact qs
  ·obtain rfl:n=i:=qo
   go_wp2
   go_ret
   exact⟨_,rfl,by rw[G.a6,←vK];exact a9.o,HB2.o⟩
theorem iO {n:Nat}(p q:G.PM n)(A B:OA)(c c':Nat)(w:World)(ha:aG w A (G.pl p))(hb:aG w B (G.pl q))(hn:n≤1000):Calls Tryz.prog 59 #[.slice A n c,.slice B n c'] w fun e w'=>e=.returned (.int .i64 (G.ext p q))∧Below w.heap.size w w':=by
 have HA:=qh ha;have HB:=qh hb;clear ha hb
 go_enter Tryz.func59,Tryz.ntmps59
 go_wp2_with fail
 refine(rS p A c _ HA.o hn).mono ?_;rintro e w1 h1;obtain⟨A1,c1,rfl,_,hr1,hb1⟩:=h1.rd;have HR1:=qh hr1;have HB1:=qh hb1;have j6:=qh (Rd.below HB.o hb1);clear h1 hr1 hb1
 go_wp2_with fail
 refine(lU q B c' _ j6.o hn).mono ?_;rintro e w2 h2;obtain⟨A2,c2,rfl,_,hr2,hb2⟩:=h2.rd;have HR2:=qh hr2;have HB2:=HB1.st hb2;have HR3:=qh (Rd.below HR1.o hb2);have hs1:=G.eT p.g n;have hs2:=G.eT q.f n;have i3:=qh (show G.ext p q=G.fm (G.bN p.g n) (G.bN q.f n)from rfl);clear h2 hr2 hb2 HR1 HB j6;obtain⟨E,hE⟩:=qx (G.bN p.g n);obtain⟨S,hS⟩:=qx (G.bN q.f n)
 simp only[←hE,←hS]at HR2 HR3 i3 hs1 hs2 ⊢
 clear hE hS
 go_wp2_with fail
 go_loopw [7] (fun x wr=>∃i:Nat,i≤S.length∧x=.int .i64 i∧wr=w2∧Hq (∀y∈S.take i,y∈E)) (fun x _=>S.length-(intOf x).toNat)
 case atStart=>exact⟨0,Nat.zero_le _,rfl,rfl,qh qj⟩
 case round=>
  obtain⟨i,hi,rfl,rfl,HX⟩:=hrel
  by_cases hlt:i<S.length
  ·obtain⟨gs,o,rfl,hg,hr⟩:=HR2.o qo
   have hc:=hr i hlt;have HT:=qh (show S.take (i+1)=S.take i++[S.getD i 0]by rw[List.take_succ_eq_append_getElem hlt];simp[List.getD,hlt]);have HD:=qh (show S.drop i=S.getD i 0::S.drop (i+1)by rw[List.drop_eq_getElem_cons hlt];simp[List.getD,hlt]);obtain⟨y,hy⟩:=qx (S.getD i 0)
   simp only[←hy]at hc HT HD
   have b1:(0:Int)≤(i:Int):=qo;have b2:(i:Int)<(S.length:Int):=qo;clear hr hy
   go_wp2_with fail
   refine(kY A1 c1 E y _ HR3.o qo).mono ?_;rintro e w3 ⟨rfl,rfl⟩
   by_cases hm:y∈E
   ·rw[decide_eq_true hm]
    go_wp2
    go_roundw
    case rel=>exact⟨i+1,by omega,qg,by trivial,qh (by
     rw[HT.o];intro z hz
     rcases List.mem_append.1 hz with h|h
     ·exact HX.o z h
     ·rw[List.mem_singleton.1 h]
      exact hm)⟩
    case measure=>exact qs
   ·rw[decide_eq_false hm]
    have IW:=qh (show G.ext p q=y by
     have h1:=i3.o;rw[←List.take_append_drop i S,G.oM _ _ _ HX.o,HD.o]at h1;rw[h1]
     simp only[G.fm]
     rw[if_neg hm])
    go_wp2
    go_ret
    exact⟨by rw[IW.o];rfl,HB2.o⟩
  ·obtain rfl:S.length=i:=qo
   have HX0:=qh (show G.ext p q=0 by
    have h1:=i3.o;have h2:=HX.o;rw[List.take_length]at h2;rw[h1,←List.append_nil S,G.oM _ _ _ h2]
    rfl)
   go_wp2
   go_ret
   exact⟨by rw[HX0.o];rfl,HB2.o⟩
open Classical in
theorem jG {n:Nat}(p q:G.PM n)(A B:OA)(c c':Nat)(w:World)(ha:aG w A (G.pl p))(hb:aG w B (G.pl q))(hn:n≤1000):Calls Tryz.prog 56 #[.slice A n c,.slice B n c'] w fun e w'=>e=.returned (.bool (decide (p=q)))∧∃k,w'=w.drewN k:=by
 have hs:=n5 A B c c' (G.pl p) (G.pl q) w ha hb (by rw[G.a6];omega) (by rw[G.a6];omega);rw[G.a6,G.a6]at hs;have HS:=qh hs;have HD:=qh (show decide (G.pl p=G.pl q)=decide (p=q)from decide_eq_decide.2 ⟨G.f8,fun h=>by rw[h]⟩);clear ha hb hs
 go_enter Tryz.func56,Tryz.ntmps56
 go_wp2_with fail
 refine HS.o.mono ?_;rintro e w1 ⟨rfl,k,rfl⟩;rw[HD.o]
 go_wp2
 go_ret
 exact⟨rfl,k,rfl⟩
end Go.Proofs.YtmnbgjnipbpiaaaGreat
