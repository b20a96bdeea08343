/- Walks and plain lemmas. -/
import Derived.Test.YtmnbgjnipbpiaaaGreatDoorP13
set_option linter.unusedVariables false
set_option linter.unusedSimpArgs false
set_option maxRecDepth 20000
namespace Go.Proofs.YtmnbgjnipbpiaaaGreatDoor
open Go.RowKit
theorem kM {n:Nat}(p q:G.PM n)(A B:OA)(c c':Nat)(w:World)(ha:aW w A (G.pl p))(hb:aW w B (G.pl q))(hn:n≤1000):Calls Tryz.prog 97 #[.slice A n c,.slice B n c'] w fun e w'=>e=.returned (.int .i64 (G.ext p q))∧Below w.heap.size w w':=by
 have HA:=qh ha;have HB:=qh hb;clear ha hb
 go_enter Tryz.func97,Tryz.ntmps97
 go_wp2_with fail
 refine(jR p A c _ HA.o hn).mono ?_;rintro e w1 h1;obtain⟨A1,c1,rfl,_,hr1,hb1⟩:=h1.rd;have HR1:=qh hr1;have HB1:=qh hb1;have p2:=qh (Rd.below HB.o hb1);clear h1 hr1 hb1
 go_wp2_with fail
 refine(fO q B c' _ p2.o hn).mono ?_;rintro e w2 h2;obtain⟨A2,c2,rfl,_,hr2,hb2⟩:=h2.rd;have HR2:=qh hr2;have HB2:=HB1.st hb2;have HR3:=qh (Rd.below HR1.o hb2);have hs1:=G.cP p.g n;have hs2:=G.cP q.f n;have fU:=qh (show G.ext p q=G.fm (G.bA p.g n) (G.bA q.f n)from rfl);clear h2 hr2 hb2 HR1 HB p2;obtain⟨E,hE⟩:=qx (G.bA p.g n);obtain⟨S,hS⟩:=qx (G.bA q.f n)
 simp only[←hE,←hS]at HR2 HR3 fU hs1 hs2 ⊢
 clear hE hS
 go_wp2_with fail
 go_loopw [7] (fun x wr=>∃i:Nat,i≤S.length∧x=.int .i64 i∧wr=w2∧Hq (∀y∈S.take i,y∈E)) (fun x _=>S.length-(intOf x).toNat)
 case atStart=>exact⟨0,Nat.zero_le _,rfl,rfl,qh qj⟩
 case round=>
  obtain⟨i,hi,rfl,rfl,HX⟩:=hrel
  by_cases hlt:i<S.length
  ·obtain⟨gs,o,rfl,hg,hr⟩:=HR2.o qo
   have hc:=hr i hlt;have HT:=qh (show S.take (i+1)=S.take i++[S.getD i 0]by rw[List.take_succ_eq_append_getElem hlt];simp[List.getD,hlt]);have HD:=qh (show S.drop i=S.getD i 0::S.drop (i+1)by rw[List.drop_eq_getElem_cons hlt];simp[List.getD,hlt]);obtain⟨y,hy⟩:=qx (S.getD i 0)
   simp only[←hy]at hc HT HD
   have b1:(0:Int)≤(i:Int):=qo;have b2:(i:Int)<(S.length:Int):=qo;clear hr hy
   go_wp2_with fail
   refine(f8 A1 c1 E y _ HR3.o qo).mono ?_;rintro e w3 ⟨rfl,rfl⟩
   by_cases hm:y∈E
   ·rw[decide_eq_true hm]
    go_wp2
    go_roundw
    case rel=>exact⟨i+1,by omega,qg,by trivial,qh (by
     rw[HT.o];intro z hz
     rcases List.mem_append.1 hz with h|h
     ·exact HX.o z h
     ·rw[List.mem_singleton.1 h]
      exact hm)⟩
    case measure=>exact qs
   ·rw[decide_eq_false hm]
    have sO:=qh (show G.ext p q=y by
     have h1:=fU.o;rw[←List.take_append_drop i S,G.gZ _ _ _ HX.o,HD.o]at h1;rw[h1]
     simp only[G.fm]
     rw[if_neg hm])
    go_wp2
    go_ret
    exact⟨by rw[sO.o];rfl,HB2.o⟩
  ·obtain rfl:S.length=i:=qo
   have HX0:=qh (show G.ext p q=0 by
    have h1:=fU.o;have h2:=HX.o;rw[List.take_length]at h2;rw[h1,←List.append_nil S,G.gZ _ _ _ h2]
    rfl)
   go_wp2
   go_ret
   exact⟨by rw[HX0.o];rfl,HB2.o⟩
open Classical in
theorem j3 {n:Nat}(p q:G.PM n)(A B:OA)(c c':Nat)(w:World)(ha:aW w A (G.pl p))(hb:aW w B (G.pl q))(hn:n≤1000):Calls Tryz.prog 94 #[.slice A n c,.slice B n c'] w fun e w'=>e=.returned (.bool (decide (p=q)))∧∃k,w'=w.drewN k:=by
 have hs:=lP A B c c' (G.pl p) (G.pl q) w ha hb (by rw[G.a7];omega) (by rw[G.a7];omega);rw[G.a7,G.a7]at hs;have HS:=qh hs;have HD:=qh (show decide (G.pl p=G.pl q)=decide (p=q)from decide_eq_decide.2 ⟨G.dZ,fun h=>by rw[h]⟩);clear ha hb hs
 go_enter Tryz.func94,Tryz.ntmps94
 go_wp2_with fail
 refine HS.o.mono ?_;rintro e w1 ⟨rfl,k,rfl⟩;rw[HD.o]
 go_wp2
 go_ret
 exact⟨rfl,k,rfl⟩
end Go.Proofs.YtmnbgjnipbpiaaaGreatDoor
