/- Walks and plain lemmas. -/
import Derived.Test.YtmnbgjnipbpiaaaGreatDoorP30
import Derived.Deep.DrawnRows
set_option linter.unusedVariables false
set_option linter.unusedSimpArgs false
set_option maxHeartbeats 40000000
set_option maxRecDepth 20000
namespace Go.Proofs.YtmnbgjnipbpiaaaGreatDoor
open Go.RowKit
def BA (l:List UInt8):ByteArray:=⟨l.toArray⟩
theorem fW (a b:List UInt8):BA a++BA b=BA (a++b):=by
 apply ByteArray.ext
 simp[BA]
theorem dW (a:List UInt8):(BA a).size=a.length:=by simp[BA,ByteArray.size]
theorem aN (a:List UInt8):(BA a).data.toList=a:=by simp[BA]
theorem fQ (n:Int):dec n=BA (Lib.itoa n):=rfl
def iB (n:Int):Prop:=-9223372036854775808≤n∧n≤9223372036854775807
theorem dV {n:Int}(h:iB n):(Lib.itoa n).length≤20:=by
 have:=bN n h.1 h.2;rwa[fQ,dW]at this
def aH (k:Int):List UInt8:=if k=1 then [99,114,111,115,115]else if k=2 then [107,110,105,116]else if k=3 then [116,117,99,107]else if k=4 then [100,114,111,112]else [115,112,108,105,116]
theorem mD (k:Int):(aH k).length≤5:=by
 unfold aH
 repeat' split
 all_goals decide
def fV (k p c b y d:Int):Prop:=(1≤k∧k≤5)∧(0≤p∧p≤100)∧(-100≤c∧c≤100)∧((b=0∧y=0∧d=0)∨((b=1∨b=2)∧(1≤y∧y≤4)∧(d=1∨d= -1)))
def bX (b:Int):List UInt8:=if b=2 then [98]else [102]
def bW (d:Int):List UInt8:=if d= -1 then [45]else [43]
def aS (k p c b y d:Int):List UInt8:=aH k++([32]++(Lib.itoa p++((if k=3 then []else [32]++Lib.itoa c)++(if y=0 then []else [32]++(bX b++(bW d++Lib.itoa y))))))
theorem bS {k p c b y d:Int}(h:fV k p c b y d):(aS k p c b y d).length≤80:=by
 obtain⟨_,h2,h3,h4⟩:=h;have hy:0≤y∧y≤4:=qo;have e1:=mD k;have e2:=dV (n:=p) ⟨by omega,by omega⟩;have e3:=dV (n:=c) ⟨by omega,by omega⟩;have e4:=dV (n:=y) ⟨by omega,by omega⟩;have e5:(bX b).length=1:=by unfold bX;split<;>rfl
 have e6:(bW d).length=1:=by unfold bW;split<;>rfl
 unfold aS
 split<;>split<;>simp only[List.length_append,List.length_nil,List.length_cons]<;>omega
def cD (L:List Int):List UInt8:=Lib.join (L.map Lib.itoa) [44]
theorem jS (sep:List UInt8)(r:List (List UInt8))(x:List UInt8):Lib.joinTail sep (r++[x])=Lib.joinTail sep r++(sep++x):=by simp[Lib.joinTail]
theorem oB {xs:List (List UInt8)}(x sep:List UInt8)(h:xs≠[]):Lib.join (xs++[x]) sep=Lib.join xs sep++(sep++x):=by
 rcases xs with _|⟨a,r⟩
 ·exact absurd rfl h
 ·rw[List.cons_append,Lib.join_cons,Lib.join_cons,jS,List.append_assoc]
theorem kJ (L:List Int)(x:Int)(h:L≠[]):cD (L++[x])=cD L++([44]++Lib.itoa x):=by
 unfold cD;rw[List.map_append,List.map_cons,List.map_nil,oB];intro e;exact h (List.map_eq_nil_iff.1 e)
theorem m5 (x:Int):cD [x]=Lib.itoa x:=by unfold cD;rw[List.map_cons,List.map_nil,Lib.join_one]
theorem o5 {L:List Int}(h:∀x∈L,iB x):(cD L).length≤21*L.length:=by
 suffices hs:∀n,∀M:List Int,M.length=n→(∀x∈M,iB x)→(cD M).length≤21*n from hs L.length L rfl h
 intro n
 induction n with
 |zero=>
  intro M hM _;rw[List.length_eq_zero_iff.1 hM];exact Nat.le_refl _
 |succ n ih=>
  intro M hM hx
  rcases List.eq_nil_or_concat M with rfl|⟨K,x,rfl⟩
  ·simp at hM
  ·rw[List.concat_eq_append]at*
   have hK:K.length=n:=by simp at hM;exact hM
   have h1:=dV (hx x qj)
   rcases K with _|⟨a,K⟩
   ·rw[List.nil_append,m5]
    omega
   ·rw[kJ _ _ qj]
    have:=ih (a::K) hK fun y hy=>hx y (List.mem_append_left _ hy)
    simp only[List.length_append,List.length_cons,List.length_nil]
    omega
def cZ (Ls:List (List Int)):List UInt8:=(Ls.map fun L=>[32]++cD L).flatten
def gN (s p:Int):List UInt8:=[102,111,114,109]++([32]++(Lib.itoa s++([32]++Lib.itoa p)))
def bR (f:aF):List UInt8:=gN f.1 f.2.1++cZ f.2.2
theorem oL (Ls:List (List Int))(L:List Int):cZ (Ls++[L])=cZ Ls++([32]++cD L):=by simp[cZ]
def qD (f:aF):Prop:=iB f.1∧iB f.2.1∧f.2.2.length≤100∧∀L∈f.2.2,L.length≤12∧∀x∈L,0≤x∧x≤12
theorem mA {Ls:List (List Int)}(h:∀L∈Ls,L.length≤12∧∀x∈L,0≤x∧x≤12):(cZ Ls).length≤300*Ls.length:=by
 induction Ls with
 |nil=>simp[cZ]
 |cons L Ls ih=>
  have h1:=ih fun M hM=>h M (List.mem_cons_of_mem _ hM);have h2:=h L (List.mem_cons_self ..);have h3:=o5 (L:=L) fun x hx=>by have:=h2.2 x hx;exact⟨by omega,by omega⟩
  have e:cZ (L::Ls)=([32]++cD L)++cZ Ls:=by simp[cZ]
  rw[e]
  simp only[List.length_append,List.length_cons,List.length_nil]
  omega
theorem m8 {s p:Int}(h1:iB s)(h2:iB p):(gN s p).length≤46:=by
 have:=dV h1;have:=dV h2
 simp only[gN,List.length_append,List.length_cons,List.length_nil]
 omega
def sH (z:Nat→Int)(k:Nat):List UInt8:=aS (z (k*6)) (z (k*6+1)) (z (k*6+2)) (z (k*6+3)) (z (k*6+4)) (z (k*6+5))
def cB (z:Nat→Int):Nat→List UInt8
 |0=>[]
 |k+1=>cB z k++(sH z k++[10])
def bJ (F:List aF)(S:List (List Int)):Nat→List UInt8
 |0=>[]
 |k+1=>bJ F S k++(bR (F.getD k (0,0,[]))++([10]++cB (fun i=>(S.getD k []).getD i 0) ((S.getD k []).length/6)))
structure sK (F:List aF)(S:List (List Int)):Prop where
 f:F.length≤60
 s:S.length=F.length
 fm:∀f∈F,qD f
 ev:∀L∈S,L.length/6≤2000∧∀i,i<L.length/6→fV (L.getD (i*6) 0) (L.getD (i*6+1) 0) (L.getD (i*6+2) 0) (L.getD (i*6+3) 0) (L.getD (i*6+4) 0) (L.getD (i*6+5) 0)
theorem mC {z:Nat→Int}{n:Nat}(h:∀i,i<n→fV (z (i*6)) (z (i*6+1)) (z (i*6+2)) (z (i*6+3)) (z (i*6+4)) (z (i*6+5))){k:Nat}(hk:k≤n):(cB z k).length≤100*k:=by
 induction k with
 |zero=>exact Nat.le_refl _
 |succ k ih=>
  have h1:=ih qo;have h2:=bS (h k qo)
  simp only[cB,sH,List.length_append,List.length_cons,List.length_nil]
  omega
theorem qY {F:List aF}{S:List (List Int)}(h:sK F S){k:Nat}(hk:k≤F.length):(bJ F S k).length≤300000*k:=by
 induction k with
 |zero=>exact Nat.le_refl _
 |succ k ih=>
  have h1:=ih qo;have hf:F.getD k (0,0,[])∈F:=by
   rw[show F.getD k (0,0,[])=F[k]by simp[List.getD,show k<F.length by omega]];exact List.getElem_mem _
  have hs:S.getD k []∈S:=by
   have:=h.s;rw[show S.getD k []=S[k]by simp[List.getD,show k<S.length by omega]];exact List.getElem_mem _
  obtain⟨f1,f2,f3,f4⟩:=h.fm _ hf;obtain⟨s1,s2⟩:=h.ev _ hs;have h2:=mC (z:=fun i=>(S.getD k []).getD i 0) s2 ql;have h3:=mA f4;have h4:=m8 f1 f2
  simp only[bJ,bR,List.length_append,List.length_cons,List.length_nil]
  omega
theorem rG {k p c b y d n:Int}(h:bE k p c b y d n=true)(hn:n≤12):fV k p c b y d:=by
 have hb:=dH h;unfold bE at h
 by_cases hp:p<0
 ·rw[if_pos hp]at h;cases h
 ·rw[if_neg hp]at h
  by_cases h1:k=1
  ·rw[if_pos h1]at h
   simp[aO]at h
   exact⟨by omega,by omega,by omega,.inl qo⟩
  ·rw[if_neg h1]at h
   by_cases h2:k=2
   ·rw[if_pos h2]at h
    simp[a8,gH]at h
    exact⟨by omega,by omega,by omega,.inr qo⟩
   ·rw[if_neg h2]at h
    by_cases h3:k=3
    ·rw[if_pos h3]at h
     simp[gH]at h
     exact⟨by omega,by omega,by omega,.inr qo⟩
    ·rw[if_neg h3]at h
     by_cases h4:k=4
     ·rw[if_pos h4]at h
      simp[a8,aO]at h
      exact⟨by omega,by omega,by omega,.inl qo⟩
     ·rw[if_neg h4]at h
      by_cases h5:k=5
      ·rw[if_pos h5]at h
       simp[a8,gH]at h
       obtain⟨⟨h6,h7⟩,h8⟩:=h
       by_cases hb1:b=1
       ·rw[if_pos hb1]at h8
        exact⟨by omega,by omega,by omega,.inr qo⟩
       ·rw[if_neg hb1]at h8
        exact⟨by omega,by omega,by omega,.inr qo⟩
      ·rw[if_neg h5]at h;cases h
theorem bO.at {F:List aF}{S:List (List Int)}(h:bO F S){j:Nat}(hj:j<F.length):∃n,(0≤n∧n≤12)∧aT (F.getD j (0,0,[]))∧(S.getD j []).length≤12000∧cnt (fun i=>(S.getD j []).getD i 0) n ((S.getD j []).length/6)≠none:=by
 have h2:¬cS F S (j+1)=none:=fun hx=>bO.no (k:=j+1) qo hx h
 simp only[cS]at h2
 cases hT:cS F S j with
 |none=>rw[hT]at h2;exact absurd rfl h2
 |some n=>
  rw[hT]at h2
  simp only at h2
  split at h2
  ·rename_i hc
   exact⟨n,eZ hT,hc.1,hc.2.2.2.1,h2⟩
  ·exact absurd rfl h2
theorem bO.go {F:List aF}{S:List (List Int)}(h:bO F S):sK F S:=by
 refine⟨h.1.2,h.2.1,fun f hf=>?_,fun L hL=>?_⟩
 ·obtain⟨j,hj⟩:=List.getElem?_of_mem hf
  have hjl:=(List.getElem?_eq_some_iff.1 hj).1;obtain⟨n,hn,hk,_⟩:=h.at hjl;rw[show F.getD j (0,0,[])=f by simp[List.getD,hj]]at hk;have h1:=hk.s;have h2:=hk.p;refine⟨⟨by omega,by omega⟩,⟨by omega,by omega⟩,hk.l,fun L hL=>?_⟩;obtain⟨i,hi⟩:=List.getElem?_of_mem hL;obtain⟨p,rfl,_⟩:=hk.f.at hi;refine⟨by rw[G.a7];omega,fun x hx=>?_⟩
  simp only[G.pl,List.mem_map,List.mem_range]at hx
  obtain⟨a,ha,rfl⟩:=hx;have:=p.lt ha;omega
 ·obtain⟨j,hj⟩:=List.getElem?_of_mem hL
  have hjl:=(List.getElem?_eq_some_iff.1 hj).1;have hs:=h.2.1;obtain⟨n,hn,_,hl,hc⟩:=h.at (j:=j) qo;rw[show S.getD j []=L by simp[List.getD,hj]]at hl hc;refine⟨by omega,fun i hi=>?_⟩;obtain⟨m0,hm0⟩:∃m,cnt (fun i=>L.getD i 0) n i=some m:=by
   cases h2:cnt (fun i=>L.getD i 0) n i with
   |none=>exact absurd (eD _ _ qo h2) hc
   |some m=>exact⟨m,rfl⟩
  have hb:=dK hn hm0
  by_cases hv:bE (L.getD (i*6) 0) (L.getD (i*6+1) 0) (L.getD (i*6+2) 0) (L.getD (i*6+3) 0) (L.getD (i*6+4) 0) (L.getD (i*6+5) 0) m0=true∧aM (L.getD (i*6) 0) (L.getD (i*6+2) 0) m0≤12
  ·exact rG hv.1 hb.2
  ·exact absurd (eD _ _ (show i+1≤L.length/6 by omega) (fR hm0 hv)) hc
open Classical in
noncomputable def gJ (F:List aF)(S:List (List Int)):List UInt8:=if bO F S then bJ F S F.length else []
end Go.Proofs.YtmnbgjnipbpiaaaGreatDoor
namespace Go.Proofs.YtmnbgjnipbpiaaaGreatDoor
open Go.RowKit
attribute [local go_sem ↓] Go.wp_at_zero Go.wp_at_succ
theorem ba_eq {x:ByteArray}{l:List UInt8}(h:x.data.toList=l):x=BA l:=by
 apply ByteArray.ext
 apply Array.toList_inj.1
 rw[h]
 simp[BA]
theorem aV (n:Int):(dec n).data.toList=Lib.itoa n:=by rw[fQ,aN]
theorem kD {x:ByteArray}{l:List UInt8}(h:x.data.toList=l):Ending.returned (Value.string x)=.returned (.string (BA l)):=by rw[ba_eq h]
def jA (w:World)(s:List UInt8)(e:Ending)(w':World):Prop:=e=.returned (.string (BA s))∧Below w.heap.size w w'
theorem nN (b:UInt8):(⟨#[b]⟩:ByteArray)=BA [b]:=rfl
theorem qV {L:List Int}{k:Nat}(hk:k<L.length):L.take (k+1)=L.take k++[L.getD k 0]:=by
 rw[List.take_succ_eq_append_getElem hk]
 simp[List.getD,hk]
theorem lL (A:OA)(c:Nat)(L:List Int)(w:World)(ha:aW w A L)(hl:L.length≤12)(hx:∀x∈L,0≤x∧x≤12):
 Calls Tryz.prog 23 #[.slice A L.length c] w (jA w (cD L)):=by
 have HA:=qh ha;have HX:=qh hx;clear ha hx
 go_enter Tryz.func23,Tryz.ntmps23
 go_wp2_with fail
 go_loopw [3,4] (fun a i wr=>∃(k:Nat) (u:ByteArray),k≤L.length∧i=.int .i64 k∧a=.string u∧Hq (u=BA (cD (L.take k)))∧u.size≤21*k∧Below w.heap.size w wr) (fun _ i _=>L.length-(intOf i).toNat)
 case atStart=>exact⟨0,_,Nat.zero_le _,rfl,rfl,rfl,Nat.le_refl _,Below.refl _ _⟩
 case round=>
  obtain⟨k,u,hk,rfl,rfl,HS,hu,hb⟩:=hrel;have HB:=qh hb
  by_cases hlt:k<L.length
  ·obtain⟨ga,o,rfl,hg,hr⟩:=HA.o qo
   have hc:=a6 HB.o hg (hr k hlt);have hyb:=HX.o (L.getD k 0) (by rw[show L.getD k 0=L[k]by simp[List.getD,hlt]];exact List.getElem_mem _);have HT:=qh (qV hlt);obtain⟨y,hy⟩:=qx (L.getD k 0)
   simp only[←hy]at hc hyb HT
   have hdy:=bN y qo qo;have b1:(0:Int)≤(k:Int):=qo;have b2:(k:Int)<(L.length:Int):=qo;clear hr hb hy
   rcases k with _|k
   ·simp only[Nat.add_zero]at hc
    go_wp2_with (go_at_call 22;refine(bK y qo qo _).mono ?_;rintro e w2 ⟨rfl,hb2⟩;have HB2:=HB.st hb2;clear hb2)
    go_roundw
    case rel=>exact⟨1,_,by omega,qg,rfl,by show _=_;rw[HS.o,HT.o,List.take_zero,List.nil_append,m5,fQ,fW];rfl,by simp only[ByteArray.size_append];omega,HB2.o⟩
    case measure=>exact qs
   ·have b3:(0:Int)<((k+1:Nat):Int):=qo
    go_wp2_with (go_at_call 22;refine(bK y qo qo _).mono ?_;rintro e w2 ⟨rfl,hb2⟩;have HB2:=HB.st hb2;clear hb2)
    go_roundw
    case rel=>exact⟨k+1+1,_,by omega,qg,rfl,by
     show _=_;rw[HS.o,HT.o,kJ _ _ (fun e=>by have h2:=congrArg List.length e;rw[List.length_take,List.length_nil]at h2;omega),fQ,nN,fW,fW,List.append_assoc],by simp only[ByteArray.size_append];have:(⟨#[44]⟩:ByteArray).size=1:=rfl;omega,HB2.o⟩
    case measure=>exact qs
  ·obtain rfl:k=L.length:=qo
   clear hb
   go_wp2
   go_ret
   exact⟨by have:=HS.o;rw[List.take_length]at this;rw[←this];rfl,HB.o⟩
def vX (w:World)(e:Ending)(w':World):Prop:=∃g,e=.returned (.slice (some ⟨g,0,none⟩) 6 6)∧w.heap.size≤g∧g<w'.heap.size∧(∀K:Nat,1≤K→K≤5→w'.cell? ⟨g,K,none⟩=some (.string (BA (aH K))))∧Below w.heap.size w w'
theorem kK (w:World):Calls Tryz.prog 54 #[] w (vX w):=by
 go_enter Tryz.func54,Tryz.ntmps54
 go_wp2
 go_ret
 refine⟨w.heap.size,rfl,Nat.le_refl _,by simp,fun K h1 h2=>?_,qz⟩;have hK:K=1∨K=2∨K=3∨K=4∨K=5:=qo
 rcases hK with rfl|rfl|rfl|rfl|rfl<;>exact(aZ rfl _).trans rfl
theorem j7 (K:Nat):(BA (aH K)).size≤5:=by rw[dW];exact mD _
theorem lM (k p c b y d:Int)(g o:Nat)(w:World)(h:dJ w g o k p c b y d)(hg:fV k p c b y d):
 Calls Tryz.prog 24 #[.pointer (some ⟨g,o,none⟩)] w (jA w (aS k p c b y d)):=by
 have H:=qh h;have h0:=h.c0;have h1:=h.c1;obtain⟨g1,g2,g3,g4⟩:=hg;have jD:=qh g4;have hgz:=World.block_lt_of_cell? w _ h0;obtain⟨K,rfl⟩:∃K:Nat,k=K:=⟨k.toNat,by omega⟩;have hws:=j7 K;have hdp:(dec p).size≤20:=bN p qo qo;have hdc:(dec c).size≤20:=bN c qo qo;have k1:1≤K:=qo;have k5:K≤5:=qo;have k2:(K:Int)<6:=qo;have k3:(0:Int)≤(K:Int):=qo;have hq1:¬9223372036854775807<(BA (aH K)).size+1:=qo;have hq2:¬9223372036854775807<(BA (aH K)).size+1+(dec p).size:=qo;have HE:=qh (show aS K p c b y d=aH K++([32]++(Lib.itoa p++((if(K:Int)=3 then []else [32]++Lib.itoa c)++(if y=0 then []else [32]++(bX b++(bW d++Lib.itoa y))))))from rfl);clear h g4
 go_enter Tryz.func24,Tryz.ntmps24
 go_upto_region 1 with fail
 go_cut [3]from 6 to 59 (fun s wx=>∃u,s=.string u∧Hq (u=BA (aH K++([32]++Lib.itoa p)))∧u.size≤26∧Hq (Below w.heap.size w wx))
 case first=>
  go_region_with (first
   |(go_at_call 54;refine(kK _).mono ?_;rintro e w1 ⟨gw,rfl,hg1,hg2,hcw,hb1⟩;replace hcw:=hcw K k1 k5;have hz1:g<w1.heap.size:=Nat.lt_of_lt_of_le hgz hb1.size;have m0:=((aA hb1).1 g o hgz).trans h0;have m1:=((aA hb1).1 g (o+1) hgz).trans h1;have HB1:=qh hb1;clear hb1)
   |(go_at_call 22;refine(bK p qo qo _).mono ?_;rintro e w2 ⟨rfl,hb2⟩;(first|(have x9:=((aA hb2).1 gw K hg2).trans hcw)|skip);have n0:=((aA hb2).1 g o hz1).trans m0;have n1:=((aA hb2).1 g (o+1) hz1).trans m1;have HB2:=qh hb2;clear hb2))
  all_goals
   go_wp2
   go_meet
   exact⟨_,rfl,qh (by rw[fQ,nN,fW,fW,List.append_assoc]),by simp only[ByteArray.size_append];have:(⟨#[32]⟩:ByteArray).size=1:=rfl;omega,qh ((((Below.refl _ _).drew).trans (HB1.o)).trans (HB2.o.mono (by first|exact HB1.o.size|omega)))⟩
 case rest=>
  obtain⟨u,rfl,HU,hu,HB⟩:=hcut;have HC:=qh (show∀W,Below w.heap.size w W→dJ W g o K p c b y d from fun W hb=>⟨a6 hb hgz H.o.c0,a6 hb hgz H.o.c1,a6 hb hgz H.o.c2,a6 hb hgz H.o.c3,a6 hb hgz H.o.c4,a6 hb hgz H.o.c5⟩);obtain⟨q0,q1,q2,q3,q4,q5⟩:=HC.o _ HB.o;have hdy:(dec y).size≤20:=bN y (by have:=jD.o;omega) (by have:=jD.o;omega);have hyb:0≤y∧y≤4:=by have:=jD.o;omega
  have hs1:(⟨#[32]⟩:ByteArray).size=1:=rfl;have hu2:(u.size:Nat)≤26:=hu;have hq3:¬9223372036854775807<1+(dec c).size:=qo;have hq4:¬9223372036854775807<u.size+(1+(dec c).size):=qo;have qH:¬9223372036854775807<u.size+2:=qo;have hq6:¬9223372036854775807<u.size+2+1:=qo;have hq7:¬9223372036854775807<u.size+2+1+(dec y).size:=qo;have hq8:¬9223372036854775807<u.size+(1+(dec c).size)+2:=qo;have hq9:¬9223372036854775807<u.size+(1+(dec c).size)+2+1:=qo;have hq10:¬9223372036854775807<u.size+(1+(dec c).size)+2+1+(dec y).size:=qo;clear h0 h1 hq1 hq2 hs1;have sS:=qh (show u.data.toList=aH K++([32]++Lib.itoa p)from by rw[HU.o,aN])
  by_cases hk:(K:Int)=3
  ·have hkb:((K:Int)==3)=true:=by simp[hk]
   rcases jD.o with⟨rfl,rfl,rfl⟩|⟨hb,hy,hd⟩
   ·have HR:=qh (show aS K p c 0 0 0=aH K++([32]++Lib.itoa p)by rw[HE.o,if_pos hk,if_pos rfl];simp)
    clear hk
    go_wp2_with (fail)
    go_ret
    exact⟨by rw[HR.o,←HU.o];rfl,HB.o⟩
   ·have hy0:¬y=0:=qo
    have pI:(y==0)=false:=by simp[hy0]
    have HR:=qh (show aS K p c b y d=aH K++([32]++Lib.itoa p)++([32]++(bX b++(bW d++Lib.itoa y)))by rw[HE.o,if_pos hk,if_neg hy0];simp);clear hk
    rcases hb with rfl|rfl<;>rcases hd with rfl|rfl
    all_goals
     go_wp2_with (go_at_call 22;refine(bK y qo qo _).mono ?_;rintro e w2 ⟨rfl,hb2⟩;have HB2:=HB.st hb2;clear hb2)
     go_ret
     exact⟨by rw[HR.o];exact kD (by simp[sS.o,aV,bX,bW]),HB2.o⟩
  ·have hkb:((K:Int)==3)=false:=by simp[hk]
   rcases jD.o with⟨rfl,rfl,rfl⟩|⟨hb,hy,hd⟩
   ·have HR:=qh (show aS K p c 0 0 0=aH K++([32]++Lib.itoa p)++([32]++Lib.itoa c)by rw[HE.o,if_neg hk,if_pos rfl];simp)
    go_wp2_with (go_at_call 22;refine(bK c qo qo _).mono ?_;rintro e w2 ⟨rfl,hb2⟩;have HB2:=HB.st hb2;obtain⟨r0,r1,r2,r3,r4,r5⟩:=HC.o _ HB2.o;clear hb2)
    go_ret
    exact⟨by rw[HR.o];exact kD (by simp[sS.o,aV]),HB2.o⟩
   ·have hy0:¬y=0:=qo
    have pI:(y==0)=false:=by simp[hy0]
    have HR:=qh (show aS K p c b y d=aH K++([32]++Lib.itoa p)++([32]++Lib.itoa c)++([32]++(bX b++(bW d++Lib.itoa y)))by rw[HE.o,if_neg hk,if_neg hy0];simp)
    rcases hb with rfl|rfl<;>rcases hd with rfl|rfl
    all_goals
     go_wp2_with fail
     refine(bK c qo qo _).mono ?_;rintro e w2 ⟨rfl,hb2⟩;have HB2:=HB.st hb2;obtain⟨r0,r1,r2,r3,r4,r5⟩:=HC.o _ HB2.o;clear hb2
     go_wp2_with (go_at_call 22;refine(bK y qo qo _).mono ?_;rintro e w3 ⟨rfl,hb3⟩;have HB3:=HB2.st hb3;clear hb3)
     go_ret
     exact⟨by rw[HR.o];exact kD (by simp[sS.o,aV,bX,bW]),HB3.o⟩
def cm (l:List UInt8):List UInt8:=l.map fun c=>if c=32 then 44 else c
theorem tO (l:List UInt8):(∀x∈l,x≠32)∨∃x y,l=x++32::y∧∀z∈x,z≠32:=by
 induction l with
 |nil=>exact .inl fun x hx=>by cases hx
 |cons a l ih=>
  by_cases ha:a=32
  ·subst ha
   exact .inr ⟨[],l,rfl,fun x hx=>by cases hx⟩
  ·rcases ih with h|⟨x,y,rfl,h⟩
   ·exact .inl fun z hz=>by
     rcases List.mem_cons.1 hz with rfl|hz
     ·exact ha
     ·exact h z hz
   ·exact .inr ⟨a::x,y,rfl,fun z hz=>by
     rcases List.mem_cons.1 hz with rfl|hz
     ·exact ha
     ·exact h z hz⟩
theorem m6:∀l:List UInt8,(∀x∈l,x≠32)→Lib.index l [32]= -1
 |[],_=>rfl
 |b::l,h=>by
  have hb:b≠32:=h b (List.mem_cons_self ..);have hi:=m6 l fun x hx=>h x (List.mem_cons_of_mem _ hx);unfold Lib.index;rw[if_neg (by simp[List.isPrefixOf];exact fun e=>hb e.symm),hi]
  rfl
theorem qF (y:List UInt8):∀x:List UInt8,(∀z∈x,z≠32)→Lib.index (x++32::y) [32]=(x.length:Nat)
 |[],_=>by
  show Lib.index (32::y) [32]=_;unfold Lib.index;rw[if_pos (by simp[List.isPrefixOf])]
  rfl
 |b::l,h=>by
  have hb:b≠32:=h b (List.mem_cons_self ..);have hi:=qF y l fun x hx=>h x (List.mem_cons_of_mem _ hx);show Lib.index (b::(l++32::y)) [32]=_;unfold Lib.index;rw[if_neg (by simp[List.isPrefixOf];exact fun e=>hb e.symm),hi,if_neg (by rw[beq_iff_eq];omega)]
  simp
theorem fZ {l:List UInt8}(h:∀x∈l,x≠32):cm l=l:=by
 unfold cm
 conv=>rhs;rw[←List.map_id l]
 exact List.map_congr_left fun x hx=>if_neg (h x hx)
theorem hU (a b:List UInt8):cm (a++b)=cm a++cm b:=List.map_append
theorem lH:∀(n:Nat) (s:List UInt8),s.length≤n→Lib.replaceK [32] [44] (Lib.count s [32]) s=cm s:=by
 intro n
 induction n with
 |zero=>
  intro s hs;have:s=[]:=List.eq_nil_of_length_eq_zero qo;subst this;rw[Lib.count_miss rfl]
  rfl
 |succ n ih=>
  intro s hs
  rcases tO s with h|⟨x,y,rfl,h⟩
  ·rw[Lib.count_miss (m6 s h),fZ h]
   rfl
  ·have hi:=qF y x h
   have e2:(x++32::y).drop (x.length+[(32:UInt8)].length)=y:=by simp
   have hc:Lib.count (x++32::y) [32]=Lib.count y [32]+1:=by rw[Lib.count_hit qj hi,e2,Nat.add_comm]
   rw[hc,Lib.replaceK_hit _ _ _ _ _ hi,hU];have e1:(x++32::y).take x.length=x:=by simp
   rw[e1,e2,ih y (by simp at hs;omega),fZ h]
   simp[cm]
theorem jJ (s:List UInt8):Lib.replaceAll s [32] [44]=cm s:=by
 unfold Lib.replaceAll Lib.replace;rw[if_neg (by decide)];have:Lib.replaceNum s [32] (-1)=Lib.count s [32]:=by unfold Lib.replaceNum;rw[if_pos qo]
 rw[this];exact lH s.length s ql
theorem gD:∀r:List (List UInt8),(∀x∈r,∀z∈x,z≠32)→cm (Lib.joinTail [32] r)=Lib.joinTail [44] r
 |[],_=>rfl
 |x::r,h=>by
  have e:∀s:List UInt8,Lib.joinTail s (x::r)=s++x++Lib.joinTail s r:=fun s=>by simp[Lib.joinTail]
  rw[e,e,hU,hU,gD r fun y hy=>h y (List.mem_cons_of_mem _ hy),fZ (h x (List.mem_cons_self ..))]
  rfl
theorem rL {r:List (List UInt8)}(h:∀x∈r,∀z∈x,z≠32):cm (Lib.join r [32])=Lib.join r [44]:=by
 rcases r with _|⟨x,r⟩
 ·rfl
 ·rw[Lib.join_cons,Lib.join_cons,hU,fZ (h x (List.mem_cons_self ..)),gD r fun y hy=>h y (List.mem_cons_of_mem _ hy)]
theorem kU (u:Nat):∀z∈Lib.decDigits u,z≠32:=by
 induction u using Nat.strongRecOn with
 |ind u ih=>
  intro z hz;rw[Lib.decDigits]at hz
  split at hz
  ·rename_i h
   rw[List.mem_singleton.1 hz];intro e;have:=congrArg UInt8.toNat e
   simp at this
   omega
  ·rename_i h
   rcases List.mem_append.1 hz with hz|hz
   ·exact ih (u/10) qo z hz
   ·rw[List.mem_singleton.1 hz]
    intro e;have:=congrArg UInt8.toNat e
    simp at this
    omega
theorem r9 (n:Int):∀z∈Lib.itoa n,z≠32:=fun z hz=>by
 unfold Lib.itoa at hz
 split at hz
 ·rcases List.mem_cons.1 hz with rfl|hz
  ·decide
  ·exact kU _ z hz
 ·exact kU _ z hz
theorem rJ (L:List Int):cm (d6 (fun j=>L.getD j 0) L.length).data.toList=cD L:=by
 have e:(List.range L.length).map (fun j=>(dec (L.getD j 0)).data.toList)=L.map Lib.itoa:=by
  apply List.ext_getElem?
  intro i
  by_cases hi:i<L.length
  ·simp[hi,aV,List.getD]
  ·simp[hi]
 unfold d6 cD;rw[e];show cm (Lib.join (L.map Lib.itoa) [32]).toArray.toList=_;rw[List.toList_toArray,rL];intro x hx;obtain⟨n,_,rfl⟩:=List.mem_map.1 hx;exact r9 n
attribute [local go_sem ↓] Go.wp_at_zero Go.wp_at_succ
theorem bG (B:Nat)(v:Value)(n:Nat)(xs:List ByteArray)(w:World)(ho:w.ownsRow B 9 1 v n (xs.map .string))(hn:xs.length=n)(h0:0<n)(hn2:n≤1000000)(hl:(Lib.join (xs.map (·.data.toList)) [32]).length≤140737488355328):
 Calls Tryz.prog 65 #[v,.string ⟨#[32]⟩] w (jA w (Lib.join (xs.map (·.data.toList)) [32])):=by
 subst hn;have hol:=ho
 rcases ho.2 with⟨rfl,hnil⟩|⟨g,cap,cur,rfl,hg,hh,hnc,hmax,_⟩
 ·omega
 ·refine(Tryz.strings_Join g 0 cap xs ⟨#[32]⟩ w (fun j x hx=>?_) (Array.getElem?_eq_some_iff.1 hh).1 qo hnc hl).mono ?_
  ·have hj:=(List.getElem?_eq_some_iff.1 hx).1
   rw[Nat.zero_add,hol.cellAt j qo,List.getElem?_map,hx]
   rfl
  ·rintro e w' ⟨rfl,hb⟩
   exact⟨rfl,hb⟩
theorem iM (w:World):Calls Tryz.prog 66 #[] w (vX w):=by
 go_enter Tryz.func66,Tryz.ntmps66
 go_wp2
 go_ret
 refine⟨w.heap.size,rfl,Nat.le_refl _,by simp,fun K h1 h2=>?_,qz⟩;have hK:K=1∨K=2∨K=3∨K=4∨K=5:=qo
 rcases hK with rfl|rfl|rfl|rfl|rfl<;>exact(aZ rfl _).trans rfl
theorem qB {w:World}(h:Tab w)(n:Nat):Tab (w.drewN n):=h
theorem bB {B n:Nat}{w:World}{v:Value}{xs:List ByteArray}{s:ByteArray}(h:w.ownsRow B 9 1 v (n+1) (xs.map .string++[.string s])):w.ownsRow B 9 1 v (n+1) ((xs++[s]).map .string):=by
 rw[List.map_append,List.map_cons,List.map_nil];exact h
theorem jW (k p c b y d:Int)(w:World)(hg:fV k p c b y d)(ht:Tab w):
 Calls Tryz.prog 30 #[.agg #[.int .i64 k,.int .i64 p,.int .i64 c,.int .i64 b,.int .i64 y,.int .i64 d]] w (jA w (aS k p c b y d)):=by
 obtain⟨i0,hi,iz,is,ib⟩:=info_parts iG;obtain⟨g1,g2,g3,g4⟩:=hg;have jD:=qh g4;obtain⟨K,rfl⟩:∃K:Nat,k=K:=⟨k.toNat,by omega⟩;have bZ:=qh (show fV K p c b y d from⟨g1,g2,g3,g4⟩);obtain⟨wb,hwb⟩:=qx (w.alloc (.cells #[.int .i64 K,.int .i64 p,.int .i64 c,.int .i64 b,.int .i64 y,.int .i64 d] 61));have cU:=qh (show aJ wb w.heap.size 61 #[.int .i64 K,.int .i64 p,.int .i64 c,.int .i64 b,.int .i64 y,.int .i64 d]by rw[hwb];exact aJ.at_ w _ _ rfl);have HW:=qh (show Below w.heap.size w wb by rw[hwb];exact qb);have HT:=qh (ht.below HW.o);have h0:wb.cell? ⟨w.heap.size,0,none⟩=some (.int .i64 K):=cU.o.cell 0;have h1:wb.cell? ⟨w.heap.size,1,none⟩=some (.int .i64 p):=cU.o.cell 1;have hz:=cU.o.lt;have hws:=j7 K;have hdp:(dec p).size≤20:=bN p qo qo;have hdc:(dec c).size≤20:=bN c qo qo;have hdy:(dec y).size≤20:=bN y qo qo;have k1:1≤K:=qo;have k5:K≤5:=qo;have k2:(K:Int)<6:=qo;have k3:(0:Int)≤(K:Int):=qo;have HE:=qh (show aS K p c b y d=aH K++([32]++(Lib.itoa p++((if(K:Int)=3 then []else [32]++Lib.itoa c)++(if y=0 then []else [32]++(bX b++(bW d++Lib.itoa y))))))from rfl);clear ht g4
 go_enter Tryz.func30,Tryz.ntmps30
 go_upto_region 1 with fail
 rw[←hwb];clear hwb
 go_cut [3]from 5 to 45 (fun s wx=>∃v,v=s∧Hq (wx.ownsRow wb.heap.size 9 1 v 2 ([BA (aH K),dec p].map .string))∧Hq (Below wb.heap.size wb wx))
 case first=>
  go_region_with (first
   |(go_at_call 66;refine(iM _).mono ?_;rintro e w1 ⟨gw,rfl,hg1,hg2,hcw,hb1⟩;replace hcw:=hcw K k1 k5;have hz1:w.heap.size<w1.heap.size:=Nat.lt_of_lt_of_le hz hb1.size;have m0:=((aA hb1).1 w.heap.size 0 hz).trans h0;have m1:=((aA hb1).1 w.heap.size 1 hz).trans h1;have HT1:=qh (Tab.below (qB HT.o 1) hb1);have HB1:=qh hb1;have hs1:wb.heap.size≤w1.heap.size:=hb1.size;clear hb1)
   |(go_at_call 62;refine(aE p qo qo _ HT1.o).mono ?_;rintro e w2 ⟨rfl,hb2⟩;(first|(have x9:=((aA hb2).1 gw K hg2).trans hcw)|skip);have n0:=((aA hb2).1 w.heap.size 0 hz1).trans m0;have n1:=((aA hb2).1 w.heap.size 1 hz1).trans m1;have HB2:=qh hb2;have hs2:w1.heap.size≤w2.heap.size:=hb2.size;clear hb2))
  all_goals
   go_wp2
   go_meet
   refine⟨_,rfl,qh (World.ownsRow_lit (base:=wb.heap.size) (e:=9) (size:=1) _ #[.string (BA (aH K)),.string (dec p)] 2 (by first|(simp;done)|(simp;omega)|omega) qm rfl),qh (Below.alloc ((((Below.refl _ _).drew).trans (HB1.o)).trans (HB2.o.mono (by first|exact HB1.o.size|omega))) (by first|(simp;done)|(simp;omega)|omega) _)⟩
 case rest=>
  obtain⟨v,hv,HO,HB⟩:=hcut;subst hv;have HC:=qh (show∀W,Below wb.heap.size wb W→dJ W w.heap.size 0 K p c b y d from fun W hb=>⟨a6 hb hz (cU.o.cell 0),a6 hb hz (cU.o.cell 1),a6 hb hz (cU.o.cell 2),a6 hb hz (cU.o.cell 3),a6 hb hz (cU.o.cell 4),a6 hb hz (cU.o.cell 5)⟩);obtain⟨q0,q1,q2,q3,q4,q5⟩:=HC.o _ HB.o;clear h0 h1
  by_cases hk:(K:Int)=3
  ·have hkb:((K:Int)==3)=true:=by simp[hk]
   rcases jD.o with⟨rfl,rfl,rfl⟩|⟨hb,hy,hd⟩
   ·have HR:=qh (show aS K p c 0 0 0=aH K++([32]++Lib.itoa p)++[]by rw[HE.o,if_pos hk,if_pos rfl];simp)
    clear hk;have HJ:=qh (show Lib.join (([BA (aH K),dec p]:List ByteArray).map (·.data.toList)) [32]=aS K p c 0 0 0 from by rw[HR.o];simp[Lib.join_cons,Lib.joinTail,aN,aV,bX,bW]);have bL:=qh (bG wb.heap.size v 2 ([BA (aH K),dec p]) wc HO.o rfl qo qo (by rw[HJ.o];have:=bS bZ.o;omega));rw[HJ.o]at bL
    go_wp2_with fail
    refine bL.o.mono ?_;rintro e w9 ⟨rfl,aP⟩;have cO:=HB.st aP;clear aP
    go_wp2_with fail
    go_ret
    exact⟨rfl,HW.o.trans (cO.o.mono HW.o.size)⟩
   ·have hy0:¬y=0:=qo
    have pI:(y==0)=false:=by simp[hy0]
    have HR:=qh (show aS K p c b y d=aH K++([32]++Lib.itoa p)++[]++([32]++(bX b++(bW d++Lib.itoa y)))by rw[HE.o,if_pos hk,if_neg hy0];simp);clear hk
    rcases hb with rfl|rfl<;>rcases hd with rfl|rfl
    ·go_wp2_with fail
     refine(aE y qo qo _ (HT.o.below HB.o)).mono ?_;rintro e w4 ⟨rfl,hb4⟩;have aI:=HB.st hb4;have dA:=qh (own_below HO.o hb4);obtain⟨s40,s41,s42,s43,s44,s45⟩:=HC.o _ aI.o;clear hb4
     go_wp2_with (at_builtin;go_must (refine aC w4 rfl (.tmp 36) (.tmp 42) _ rfl wb.heap.size 9 i0 _ 1 16 Tryz.underlying107 hi iz is ib rfl qo v 2 _ rfl dA.o _ 1 1 _ rfl rfl (by simp[Value.oneCell']) qm qo aI.o.size ?_);intro v5 w5 hown5 hb5;have eF:=qh (bB hown5);have aX:=qh (aI.o.trans hb5);obtain⟨t50,t51,t52,t53,t54,t55⟩:=HC.o _ aX.o;clear hown5 hb5)
     have HJ:=qh (show Lib.join (([BA (aH K),dec p]++[(⟨#[102]⟩:ByteArray)++⟨#[43]⟩++dec y]:List ByteArray).map (·.data.toList)) [32]=aS K p c 1 y 1 from by rw[HR.o];simp[Lib.join_cons,Lib.joinTail,aN,aV,bX,bW]);have bL:=qh (bG wb.heap.size v5 3 ([BA (aH K),dec p]++[(⟨#[102]⟩:ByteArray)++⟨#[43]⟩++dec y]) w5 eF.o rfl qo qo (by rw[HJ.o];have:=bS bZ.o;omega));rw[HJ.o]at bL
     go_wp2_with fail
     refine bL.o.mono ?_;rintro e w9 ⟨rfl,aP⟩;have cO:=aX.st aP;clear aP
     go_wp2_with fail
     go_ret
     exact⟨rfl,HW.o.trans (cO.o.mono HW.o.size)⟩
    ·go_wp2_with fail
     refine(aE y qo qo _ (HT.o.below HB.o)).mono ?_;rintro e w4 ⟨rfl,hb4⟩;have aI:=HB.st hb4;have dA:=qh (own_below HO.o hb4);obtain⟨s40,s41,s42,s43,s44,s45⟩:=HC.o _ aI.o;clear hb4
     go_wp2_with (at_builtin;go_must (refine aC w4 rfl (.tmp 36) (.tmp 42) _ rfl wb.heap.size 9 i0 _ 1 16 Tryz.underlying107 hi iz is ib rfl qo v 2 _ rfl dA.o _ 1 1 _ rfl rfl (by simp[Value.oneCell']) qm qo aI.o.size ?_);intro v5 w5 hown5 hb5;have eF:=qh (bB hown5);have aX:=qh (aI.o.trans hb5);obtain⟨t50,t51,t52,t53,t54,t55⟩:=HC.o _ aX.o;clear hown5 hb5)
     have HJ:=qh (show Lib.join (([BA (aH K),dec p]++[(⟨#[102]⟩:ByteArray)++⟨#[45]⟩++dec y]:List ByteArray).map (·.data.toList)) [32]=aS K p c 1 y (-1)from by rw[HR.o];simp[Lib.join_cons,Lib.joinTail,aN,aV,bX,bW]);have bL:=qh (bG wb.heap.size v5 3 ([BA (aH K),dec p]++[(⟨#[102]⟩:ByteArray)++⟨#[45]⟩++dec y]) w5 eF.o rfl qo qo (by rw[HJ.o];have:=bS bZ.o;omega));rw[HJ.o]at bL
     go_wp2_with fail
     refine bL.o.mono ?_;rintro e w9 ⟨rfl,aP⟩;have cO:=aX.st aP;clear aP
     go_wp2_with fail
     go_ret
     exact⟨rfl,HW.o.trans (cO.o.mono HW.o.size)⟩
    ·go_wp2_with fail
     refine(aE y qo qo _ (HT.o.below HB.o)).mono ?_;rintro e w4 ⟨rfl,hb4⟩;have aI:=HB.st hb4;have dA:=qh (own_below HO.o hb4);obtain⟨s40,s41,s42,s43,s44,s45⟩:=HC.o _ aI.o;clear hb4
     go_wp2_with (at_builtin;go_must (refine aC w4 rfl (.tmp 36) (.tmp 42) _ rfl wb.heap.size 9 i0 _ 1 16 Tryz.underlying107 hi iz is ib rfl qo v 2 _ rfl dA.o _ 1 1 _ rfl rfl (by simp[Value.oneCell']) qm qo aI.o.size ?_);intro v5 w5 hown5 hb5;have eF:=qh (bB hown5);have aX:=qh (aI.o.trans hb5);obtain⟨t50,t51,t52,t53,t54,t55⟩:=HC.o _ aX.o;clear hown5 hb5)
     have HJ:=qh (show Lib.join (([BA (aH K),dec p]++[(⟨#[98]⟩:ByteArray)++⟨#[43]⟩++dec y]:List ByteArray).map (·.data.toList)) [32]=aS K p c 2 y 1 from by rw[HR.o];simp[Lib.join_cons,Lib.joinTail,aN,aV,bX,bW]);have bL:=qh (bG wb.heap.size v5 3 ([BA (aH K),dec p]++[(⟨#[98]⟩:ByteArray)++⟨#[43]⟩++dec y]) w5 eF.o rfl qo qo (by rw[HJ.o];have:=bS bZ.o;omega));rw[HJ.o]at bL
     go_wp2_with fail
     refine bL.o.mono ?_;rintro e w9 ⟨rfl,aP⟩;have cO:=aX.st aP;clear aP
     go_wp2_with fail
     go_ret
     exact⟨rfl,HW.o.trans (cO.o.mono HW.o.size)⟩
    ·go_wp2_with fail
     refine(aE y qo qo _ (HT.o.below HB.o)).mono ?_;rintro e w4 ⟨rfl,hb4⟩;have aI:=HB.st hb4;have dA:=qh (own_below HO.o hb4);obtain⟨s40,s41,s42,s43,s44,s45⟩:=HC.o _ aI.o;clear hb4
     go_wp2_with (at_builtin;go_must (refine aC w4 rfl (.tmp 36) (.tmp 42) _ rfl wb.heap.size 9 i0 _ 1 16 Tryz.underlying107 hi iz is ib rfl qo v 2 _ rfl dA.o _ 1 1 _ rfl rfl (by simp[Value.oneCell']) qm qo aI.o.size ?_);intro v5 w5 hown5 hb5;have eF:=qh (bB hown5);have aX:=qh (aI.o.trans hb5);obtain⟨t50,t51,t52,t53,t54,t55⟩:=HC.o _ aX.o;clear hown5 hb5)
     have HJ:=qh (show Lib.join (([BA (aH K),dec p]++[(⟨#[98]⟩:ByteArray)++⟨#[45]⟩++dec y]:List ByteArray).map (·.data.toList)) [32]=aS K p c 2 y (-1)from by rw[HR.o];simp[Lib.join_cons,Lib.joinTail,aN,aV,bX,bW]);have bL:=qh (bG wb.heap.size v5 3 ([BA (aH K),dec p]++[(⟨#[98]⟩:ByteArray)++⟨#[45]⟩++dec y]) w5 eF.o rfl qo qo (by rw[HJ.o];have:=bS bZ.o;omega));rw[HJ.o]at bL
     go_wp2_with fail
     refine bL.o.mono ?_;rintro e w9 ⟨rfl,aP⟩;have cO:=aX.st aP;clear aP
     go_wp2_with fail
     go_ret
     exact⟨rfl,HW.o.trans (cO.o.mono HW.o.size)⟩
  ·have hkb:((K:Int)==3)=false:=by simp[hk]
   rcases jD.o with⟨rfl,rfl,rfl⟩|⟨hb,hy,hd⟩
   ·have HR:=qh (show aS K p c 0 0 0=aH K++([32]++Lib.itoa p)++([32]++Lib.itoa c)by rw[HE.o,if_neg hk,if_pos rfl];simp)
    go_wp2_with fail
    refine(aE c qo qo _ (HT.o.below HB.o)).mono ?_;rintro e w2 ⟨rfl,hb2⟩;have HB2:=HB.st hb2;have aL:=qh (own_below HO.o hb2);obtain⟨s20,s21,s22,s23,s24,s25⟩:=HC.o _ HB2.o;clear hb2
    go_wp2_with (at_builtin;go_must (refine aC w2 rfl (.tmp 17) (.tmp 21) _ rfl wb.heap.size 9 i0 _ 1 16 Tryz.underlying107 hi iz is ib rfl qo v 2 _ rfl aL.o _ 1 1 _ rfl rfl (by simp[Value.oneCell']) qm qo HB2.o.size ?_);intro v3 w3 hown3 hb3;have dB:=qh (bB hown3);have HB3:=qh (HB2.o.trans hb3);obtain⟨t30,t31,t32,t33,t34,t35⟩:=HC.o _ HB3.o;clear hown3 hb3)
    have HJ:=qh (show Lib.join (([BA (aH K),dec p]++[dec c]:List ByteArray).map (·.data.toList)) [32]=aS K p c 0 0 0 from by rw[HR.o];simp[Lib.join_cons,Lib.joinTail,aN,aV,bX,bW]);have bL:=qh (bG wb.heap.size v3 3 ([BA (aH K),dec p]++[dec c]) w3 dB.o rfl qo qo (by rw[HJ.o];have:=bS bZ.o;omega));rw[HJ.o]at bL
    go_wp2_with fail
    refine bL.o.mono ?_;rintro e w9 ⟨rfl,aP⟩;have cO:=HB3.st aP;clear aP
    go_wp2_with fail
    go_ret
    exact⟨rfl,HW.o.trans (cO.o.mono HW.o.size)⟩
   ·have hy0:¬y=0:=qo
    have pI:(y==0)=false:=by simp[hy0]
    have HR:=qh (show aS K p c b y d=aH K++([32]++Lib.itoa p)++([32]++Lib.itoa c)++([32]++(bX b++(bW d++Lib.itoa y)))by rw[HE.o,if_neg hk,if_neg hy0];simp)
    rcases hb with rfl|rfl<;>rcases hd with rfl|rfl
    ·go_wp2_with fail
     refine(aE c qo qo _ (HT.o.below HB.o)).mono ?_;rintro e w2 ⟨rfl,hb2⟩;have HB2:=HB.st hb2;have aL:=qh (own_below HO.o hb2);obtain⟨s20,s21,s22,s23,s24,s25⟩:=HC.o _ HB2.o;clear hb2
     go_wp2_with (at_builtin;go_must (refine aC w2 rfl (.tmp 17) (.tmp 21) _ rfl wb.heap.size 9 i0 _ 1 16 Tryz.underlying107 hi iz is ib rfl qo v 2 _ rfl aL.o _ 1 1 _ rfl rfl (by simp[Value.oneCell']) qm qo HB2.o.size ?_);intro v3 w3 hown3 hb3;have dB:=qh (bB hown3);have HB3:=qh (HB2.o.trans hb3);obtain⟨t30,t31,t32,t33,t34,t35⟩:=HC.o _ HB3.o;clear hown3 hb3)
     refine(aE y qo qo _ (HT.o.below HB3.o)).mono ?_;rintro e w4 ⟨rfl,hb4⟩;have aI:=HB3.st hb4;have dA:=qh (own_below dB.o hb4);obtain⟨s40,s41,s42,s43,s44,s45⟩:=HC.o _ aI.o;clear hb4
     go_wp2_with (at_builtin;go_must (refine aC w4 rfl (.tmp 36) (.tmp 42) _ rfl wb.heap.size 9 i0 _ 1 16 Tryz.underlying107 hi iz is ib rfl qo v3 3 _ rfl dA.o _ 1 1 _ rfl rfl (by simp[Value.oneCell']) qm qo aI.o.size ?_);intro v5 w5 hown5 hb5;have eF:=qh (bB hown5);have aX:=qh (aI.o.trans hb5);obtain⟨t50,t51,t52,t53,t54,t55⟩:=HC.o _ aX.o;clear hown5 hb5)
     have HJ:=qh (show Lib.join (([BA (aH K),dec p]++[dec c]++[(⟨#[102]⟩:ByteArray)++⟨#[43]⟩++dec y]:List ByteArray).map (·.data.toList)) [32]=aS K p c 1 y 1 from by rw[HR.o];simp[Lib.join_cons,Lib.joinTail,aN,aV,bX,bW]);have bL:=qh (bG wb.heap.size v5 4 ([BA (aH K),dec p]++[dec c]++[(⟨#[102]⟩:ByteArray)++⟨#[43]⟩++dec y]) w5 eF.o rfl qo qo (by rw[HJ.o];have:=bS bZ.o;omega));rw[HJ.o]at bL
     go_wp2_with fail
     refine bL.o.mono ?_;rintro e w9 ⟨rfl,aP⟩;have cO:=aX.st aP;clear aP
     go_wp2_with fail
     go_ret
     exact⟨rfl,HW.o.trans (cO.o.mono HW.o.size)⟩
    ·go_wp2_with fail
     refine(aE c qo qo _ (HT.o.below HB.o)).mono ?_;rintro e w2 ⟨rfl,hb2⟩;have HB2:=HB.st hb2;have aL:=qh (own_below HO.o hb2);obtain⟨s20,s21,s22,s23,s24,s25⟩:=HC.o _ HB2.o;clear hb2
     go_wp2_with (at_builtin;go_must (refine aC w2 rfl (.tmp 17) (.tmp 21) _ rfl wb.heap.size 9 i0 _ 1 16 Tryz.underlying107 hi iz is ib rfl qo v 2 _ rfl aL.o _ 1 1 _ rfl rfl (by simp[Value.oneCell']) qm qo HB2.o.size ?_);intro v3 w3 hown3 hb3;have dB:=qh (bB hown3);have HB3:=qh (HB2.o.trans hb3);obtain⟨t30,t31,t32,t33,t34,t35⟩:=HC.o _ HB3.o;clear hown3 hb3)
     refine(aE y qo qo _ (HT.o.below HB3.o)).mono ?_;rintro e w4 ⟨rfl,hb4⟩;have aI:=HB3.st hb4;have dA:=qh (own_below dB.o hb4);obtain⟨s40,s41,s42,s43,s44,s45⟩:=HC.o _ aI.o;clear hb4
     go_wp2_with (at_builtin;go_must (refine aC w4 rfl (.tmp 36) (.tmp 42) _ rfl wb.heap.size 9 i0 _ 1 16 Tryz.underlying107 hi iz is ib rfl qo v3 3 _ rfl dA.o _ 1 1 _ rfl rfl (by simp[Value.oneCell']) qm qo aI.o.size ?_);intro v5 w5 hown5 hb5;have eF:=qh (bB hown5);have aX:=qh (aI.o.trans hb5);obtain⟨t50,t51,t52,t53,t54,t55⟩:=HC.o _ aX.o;clear hown5 hb5)
     have HJ:=qh (show Lib.join (([BA (aH K),dec p]++[dec c]++[(⟨#[102]⟩:ByteArray)++⟨#[45]⟩++dec y]:List ByteArray).map (·.data.toList)) [32]=aS K p c 1 y (-1)from by rw[HR.o];simp[Lib.join_cons,Lib.joinTail,aN,aV,bX,bW]);have bL:=qh (bG wb.heap.size v5 4 ([BA (aH K),dec p]++[dec c]++[(⟨#[102]⟩:ByteArray)++⟨#[45]⟩++dec y]) w5 eF.o rfl qo qo (by rw[HJ.o];have:=bS bZ.o;omega));rw[HJ.o]at bL
     go_wp2_with fail
     refine bL.o.mono ?_;rintro e w9 ⟨rfl,aP⟩;have cO:=aX.st aP;clear aP
     go_wp2_with fail
     go_ret
     exact⟨rfl,HW.o.trans (cO.o.mono HW.o.size)⟩
    ·go_wp2_with fail
     refine(aE c qo qo _ (HT.o.below HB.o)).mono ?_;rintro e w2 ⟨rfl,hb2⟩;have HB2:=HB.st hb2;have aL:=qh (own_below HO.o hb2);obtain⟨s20,s21,s22,s23,s24,s25⟩:=HC.o _ HB2.o;clear hb2
     go_wp2_with (at_builtin;go_must (refine aC w2 rfl (.tmp 17) (.tmp 21) _ rfl wb.heap.size 9 i0 _ 1 16 Tryz.underlying107 hi iz is ib rfl qo v 2 _ rfl aL.o _ 1 1 _ rfl rfl (by simp[Value.oneCell']) qm qo HB2.o.size ?_);intro v3 w3 hown3 hb3;have dB:=qh (bB hown3);have HB3:=qh (HB2.o.trans hb3);obtain⟨t30,t31,t32,t33,t34,t35⟩:=HC.o _ HB3.o;clear hown3 hb3)
     refine(aE y qo qo _ (HT.o.below HB3.o)).mono ?_;rintro e w4 ⟨rfl,hb4⟩;have aI:=HB3.st hb4;have dA:=qh (own_below dB.o hb4);obtain⟨s40,s41,s42,s43,s44,s45⟩:=HC.o _ aI.o;clear hb4
     go_wp2_with (at_builtin;go_must (refine aC w4 rfl (.tmp 36) (.tmp 42) _ rfl wb.heap.size 9 i0 _ 1 16 Tryz.underlying107 hi iz is ib rfl qo v3 3 _ rfl dA.o _ 1 1 _ rfl rfl (by simp[Value.oneCell']) qm qo aI.o.size ?_);intro v5 w5 hown5 hb5;have eF:=qh (bB hown5);have aX:=qh (aI.o.trans hb5);obtain⟨t50,t51,t52,t53,t54,t55⟩:=HC.o _ aX.o;clear hown5 hb5)
     have HJ:=qh (show Lib.join (([BA (aH K),dec p]++[dec c]++[(⟨#[98]⟩:ByteArray)++⟨#[43]⟩++dec y]:List ByteArray).map (·.data.toList)) [32]=aS K p c 2 y 1 from by rw[HR.o];simp[Lib.join_cons,Lib.joinTail,aN,aV,bX,bW]);have bL:=qh (bG wb.heap.size v5 4 ([BA (aH K),dec p]++[dec c]++[(⟨#[98]⟩:ByteArray)++⟨#[43]⟩++dec y]) w5 eF.o rfl qo qo (by rw[HJ.o];have:=bS bZ.o;omega));rw[HJ.o]at bL
     go_wp2_with fail
     refine bL.o.mono ?_;rintro e w9 ⟨rfl,aP⟩;have cO:=aX.st aP;clear aP
     go_wp2_with fail
     go_ret
     exact⟨rfl,HW.o.trans (cO.o.mono HW.o.size)⟩
    ·go_wp2_with fail
     refine(aE c qo qo _ (HT.o.below HB.o)).mono ?_;rintro e w2 ⟨rfl,hb2⟩;have HB2:=HB.st hb2;have aL:=qh (own_below HO.o hb2);obtain⟨s20,s21,s22,s23,s24,s25⟩:=HC.o _ HB2.o;clear hb2
     go_wp2_with (at_builtin;go_must (refine aC w2 rfl (.tmp 17) (.tmp 21) _ rfl wb.heap.size 9 i0 _ 1 16 Tryz.underlying107 hi iz is ib rfl qo v 2 _ rfl aL.o _ 1 1 _ rfl rfl (by simp[Value.oneCell']) qm qo HB2.o.size ?_);intro v3 w3 hown3 hb3;have dB:=qh (bB hown3);have HB3:=qh (HB2.o.trans hb3);obtain⟨t30,t31,t32,t33,t34,t35⟩:=HC.o _ HB3.o;clear hown3 hb3)
     refine(aE y qo qo _ (HT.o.below HB3.o)).mono ?_;rintro e w4 ⟨rfl,hb4⟩;have aI:=HB3.st hb4;have dA:=qh (own_below dB.o hb4);obtain⟨s40,s41,s42,s43,s44,s45⟩:=HC.o _ aI.o;clear hb4
     go_wp2_with (at_builtin;go_must (refine aC w4 rfl (.tmp 36) (.tmp 42) _ rfl wb.heap.size 9 i0 _ 1 16 Tryz.underlying107 hi iz is ib rfl qo v3 3 _ rfl dA.o _ 1 1 _ rfl rfl (by simp[Value.oneCell']) qm qo aI.o.size ?_);intro v5 w5 hown5 hb5;have eF:=qh (bB hown5);have aX:=qh (aI.o.trans hb5);obtain⟨t50,t51,t52,t53,t54,t55⟩:=HC.o _ aX.o;clear hown5 hb5)
     have HJ:=qh (show Lib.join (([BA (aH K),dec p]++[dec c]++[(⟨#[98]⟩:ByteArray)++⟨#[45]⟩++dec y]:List ByteArray).map (·.data.toList)) [32]=aS K p c 2 y (-1)from by rw[HR.o];simp[Lib.join_cons,Lib.joinTail,aN,aV,bX,bW]);have bL:=qh (bG wb.heap.size v5 4 ([BA (aH K),dec p]++[dec c]++[(⟨#[98]⟩:ByteArray)++⟨#[45]⟩++dec y]) w5 eF.o rfl qo qo (by rw[HJ.o];have:=bS bZ.o;omega));rw[HJ.o]at bL
     go_wp2_with fail
     refine bL.o.mono ?_;rintro e w9 ⟨rfl,aP⟩;have cO:=aX.st aP;clear aP
     go_wp2_with fail
     go_ret
     exact⟨rfl,HW.o.trans (cO.o.mono HW.o.size)⟩
theorem fB {w:World}{g n k:Nat}{u:Value}(hw:aY w g 0 n)(hk:k<n):(w.setCell ⟨g,k,none⟩ u).cell? ⟨g,k,none⟩=some u:=by
 have hw':aY w g k 1:=fun j hj=>by
  have:=hw (k+j) qo;rwa[Nat.zero_add]at this
 have:=b9.step (a:=k) (f:=fun _=>u) (m:=0) (u:=u) (fun j hj=>absurd hj (Nat.not_lt_zero j)) hw' qo rfl rfl 0 qo
 simpa using this
theorem bC {w:World}{g i k:Nat}{u v:Value}(h:w.cell? ⟨g,i,none⟩=some v)(hik:i≠k):(w.setCell ⟨g,k,none⟩ u).cell? ⟨g,i,none⟩=some v:=by
 rw[World.cell?_setCell_other _ _ _ _ (by intro e;injection e;omega)];exact h
theorem cQ {α:Type}{L:List α}{k:Nat}(h:k<L.length):∃x,L[k]?=some x:=⟨_,List.getElem?_eq_getElem h⟩
theorem fY {α:Type}{L:List α}{k:Nat}{x:α}(h:L[k]?=some x):k<L.length:=(List.getElem?_eq_some_iff.1 h).1
theorem lF (A:OA)(c L:Nat)(Ls:List (List Int)){q:Bool}(w:World)(ha:bD q w A Ls)(hn:Ls.length≤maxLen)(hb:∀M∈Ls,M.length≤maxLen)(hL:L≤1048576):
 Calls Tryz.prog 92 #[.slice A Ls.length c,.int .i64 L] w fun e w'=>∃r:Int,(r<0∨(0≤r∧r≤L∧Ls.length≤1048576∧∀M∈Ls,M.length≤1048576))∧e=.returned (.int .i64 r)∧Below w.heap.size w w':=by
 unfold maxLen at hn;have HA:=qh ha;have fT:=qh hb;clear ha hb
 by_cases hbig:Ls.length≤L
 ·go_enter Tryz.func92,Tryz.ntmps92
  go_wp2_with fail
  go_loopw [1,5] (fun l i wr=>∃k R:Nat,k≤Ls.length∧i=.int .i64 k∧l=.int .i64 R∧R≤L∧Hq (∀j M,j<k→Ls[j]?=some M→M.length≤1048576)∧Below w.heap.size w wr) (fun _ i _=>Ls.length-(intOf i).toNat)
  case atStart=>exact⟨0,L-Ls.length,Nat.zero_le _,rfl,qg,by omega,qh (fun j M hj=>absurd hj qo),Below.refl _ _⟩
  case round=>
   obtain⟨k,R,hk,rfl,rfl,hR,HX,hb⟩:=hrel;have HB:=qh hb
   by_cases hlt:k<Ls.length
   ·obtain⟨M,hM⟩:=cQ hlt
    obtain⟨g,o,B,d,rfl,hg,h0,_,_⟩:=(HA.o.below hb).at hM;have hx:=fT.o M (List.mem_of_getElem? hM);have HM:=qh hM;have b1:(0:Int)≤(k:Int):=qo;have b2:(k:Int)<(Ls.length:Int):=qo;clear hb hM;obtain⟨m,hm⟩:=qx (M.length);rw[←hm]at h0 hx;have tC:=qh hm;clear hm
    go_wp2_with fail
    refine(kA B m d R _ hx qo).mono ?_;rintro e w1 ⟨s,hs,rfl,rfl⟩
    by_cases h1:s<0
    ·clear h0 hs
     go_wp2
     go_ret
     exact⟨-1,.inl qo,rfl,HB.o⟩
    ·obtain⟨S,rfl⟩:=Int.eq_ofNat_of_zero_le (show 0≤s by omega)
     have hs2:=hs.resolve_left h1;obtain⟨hs3,hs4⟩:=hs2;clear h0 hs
     go_wp2
     go_roundw
     case rel=>exact⟨k+1,S,by omega,qg,qg,by omega,qh (fun j N hj hN=>by
      by_cases e:j=k
      ·subst e
       have h2:=HM.o;rw[hN]at h2;injection h2 with h2;have:=tC.o;rw[h2];omega
      ·exact HX.o j N qo hN),HB.o⟩
     case measure=>exact qs
   ·obtain rfl:k=Ls.length:=qo
    clear hb
    go_wp2
    go_ret
    exact⟨R,.inr ⟨by omega,by omega,by omega,fun M hM=>by
     obtain⟨j,hj⟩:=List.getElem?_of_mem hM;exact HX.o j M (fY hj) hj⟩,rfl,HB.o⟩
 ·go_enter Tryz.func92,Tryz.ntmps92
  go_wp2
  go_ret
  exact⟨-1,.inl qo,rfl,Below.refl _ _⟩
theorem k9 (f:aF)(A:OA)(c L:Nat){q:Bool}(w:World)(ha:bD q w A f.2.2)(hn:f.2.2.length≤maxLen)(hb:∀M∈f.2.2,M.length≤maxLen)(hL:L≤1048576):
 Calls Tryz.prog 49 #[.agg #[.int .i64 f.1,.int .i64 f.2.1,.slice A f.2.2.length c],.int .i64 L] w fun e w'=>∃r:Int,(r= -1∨(0≤r∧r≤L∧gG f))∧e=.returned (.int .i64 r)∧Below w.heap.size w w':=by
 obtain⟨s,p,Ls⟩:=f;have HA:=qh ha;have HB:=qh hb;clear ha hb
 go_enter Tryz.func49,Tryz.ntmps49
 go_wp2_with fail
 refine(lF A c L Ls _ (HA.o.below (qz)) hn HB.o hL).mono ?_;rintro e w1 ⟨r,hr,rfl,hb1⟩;have HR:=qh hr;have HB1:=qh (show Below w.heap.size w w1 from qz);clear hr hb1
 by_cases h0:r<0
 ·go_wp2
  go_ret
  exact⟨-1,.inl rfl,rfl,HB1.o⟩
 ·go_wp2
  go_ret
  obtain⟨h1,h2,h3,h4⟩:=HR.o.resolve_left qo;exact⟨r,.inr ⟨h1,h2,h3,h4⟩,rfl,HB1.o⟩
theorem lG (A:OA)(c L:Nat)(F:List aF){q:Bool}(w:World)(ha:d7 q w A F)(hn:F.length≤maxLen)(hb:∀f∈F,f.2.2.length≤maxLen∧∀M∈f.2.2,M.length≤maxLen)(hL:L≤1048576):
 Calls Tryz.prog 19 #[.slice A F.length c,.int .i64 L] w fun e w'=>∃r:Int,(r<0∨(0≤r∧r≤L∧F.length≤1048576∧∀f∈F,gG f))∧e=.returned (.int .i64 r)∧Below w.heap.size w w':=by
 unfold maxLen at hn;have HA:=qh ha;have fT:=qh hb;clear ha hb
 by_cases hbig:F.length≤L
 ·go_enter Tryz.func19,Tryz.ntmps19
  go_wp2_with fail
  go_loopw [1,5] (fun l i wr=>∃k R:Nat,k≤F.length∧i=.int .i64 k∧l=.int .i64 R∧R≤L∧Hq (∀j f,j<k→F[j]?=some f→gG f)∧Below w.heap.size w wr) (fun _ i _=>F.length-(intOf i).toNat)
  case atStart=>exact⟨0,L-F.length,Nat.zero_le _,rfl,qg,by omega,qh (fun j M hj=>absurd hj qo),Below.refl _ _⟩
  case round=>
   obtain⟨k,R,hk,rfl,rfl,hR,HX,hb⟩:=hrel;have HB:=qh hb
   by_cases hlt:k<F.length
   ·obtain⟨f,hf⟩:=cQ hlt
    obtain⟨g,o,B,d,rfl,hg,hat⟩:=(HA.o.below hb).at hf;have hx:=fT.o f (List.mem_of_getElem? hf);have HF:=qh hf;have h0:=hat.c0;have h1:=hat.c1;have h2:=hat.c2;have HC:=qh (k9 f B d R _ hat.rd hx.1 hx.2 qo);have b1:(0:Int)≤(k:Int):=qo;have b2:(k:Int)<(F.length:Int):=qo;clear hb hf hat hx
    go_wp2_with fail
    refine HC.o.mono ?_;rintro e w1 ⟨s,hs,rfl,hb1⟩;have HB1:=HB.st hb1;clear hb1 h0 h1 h2
    by_cases h3:s<0
    ·clear hs
     go_wp2
     go_ret
     exact⟨-1,.inl qo,rfl,HB1.o⟩
    ·obtain⟨S,rfl⟩:=Int.eq_ofNat_of_zero_le (show 0≤s by omega)
     obtain⟨hs2,hs3,hs4⟩:=hs.resolve_left qo;have xV:=qh hs4;clear hs hs4
     go_wp2
     go_roundw
     case rel=>exact⟨k+1,S,by omega,qg,qg,by omega,qh (fun j N hj hN=>by
      by_cases e:j=k
      ·subst e
       have h2:=HF.o;rw[hN]at h2;injection h2 with h2;rw[h2];exact xV.o
      ·exact HX.o j N qo hN),HB1.o⟩
     case measure=>exact qs
   ·obtain rfl:k=F.length:=qo
    clear hb
    go_wp2
    go_ret
    exact⟨R,.inr ⟨by omega,by omega,by omega,fun M hM=>by
     obtain⟨j,hj⟩:=List.getElem?_of_mem hM;exact HX.o j M (fY hj) hj⟩,rfl,HB.o⟩
 ·go_enter Tryz.func19,Tryz.ntmps19
  go_wp2
  go_ret
  exact⟨-1,.inl qo,rfl,Below.refl _ _⟩
theorem iD (A:OA)(c L:Nat)(S:List (List Int))(w:World)(ha:dI w A S)(hn:S.length≤maxLen)(hb:∀M∈S,M.length≤maxLen*6)(hL:L≤1048576):
 Calls Tryz.prog 20 #[.slice A S.length c,.int .i64 L] w fun e w'=>∃r:Int,(r<0∨(0≤r∧r≤L∧S.length≤1048576∧∀M∈S,M.length≤1048576*6))∧e=.returned (.int .i64 r)∧Below w.heap.size w w':=by
 unfold maxLen at hn;have HA:=qh ha;have fT:=qh hb;clear ha hb
 by_cases hbig:S.length≤L
 ·go_enter Tryz.func20,Tryz.ntmps20
  go_wp2_with fail
  go_loopw [1,5] (fun l i wr=>∃k R:Nat,k≤S.length∧i=.int .i64 k∧l=.int .i64 R∧R≤L∧Hq (∀j M,j<k→S[j]?=some M→M.length≤1048576*6)∧Below w.heap.size w wr) (fun _ i _=>S.length-(intOf i).toNat)
  case atStart=>exact⟨0,L-S.length,Nat.zero_le _,rfl,qg,by omega,qh (fun j M hj=>absurd hj qo),Below.refl _ _⟩
  case round=>
   obtain⟨k,R,hk,rfl,rfl,hR,HX,hb⟩:=hrel;have HB:=qh hb
   by_cases hlt:k<S.length
   ·obtain⟨M,hM⟩:=cQ hlt
    obtain⟨g,o,B,m,d,rfl,hg,h0,hl,_⟩:=(HA.o.below hb).at hM;have hx:=fT.o M (List.mem_of_getElem? hM);have HM:=qh hM;have tC:=qh hl;have b1:(0:Int)≤(k:Int):=qo;have b2:(k:Int)<(S.length:Int):=qo;have hm:m≤maxLen:=qo;clear hb hM hl hx
    go_wp2_with fail
    refine(kB B m d R _ hm qo).mono ?_;rintro e w1 ⟨s,hs,rfl,rfl⟩
    by_cases h1:s<0
    ·clear h0 hs
     go_wp2
     go_ret
     exact⟨-1,.inl qo,rfl,HB.o⟩
    ·obtain⟨T,rfl⟩:=Int.eq_ofNat_of_zero_le (show 0≤s by omega)
     have hs2:=hs.resolve_left h1;obtain⟨hs3,hs4⟩:=hs2;clear h0 hs
     go_wp2
     go_roundw
     case rel=>exact⟨k+1,T,by omega,qg,qg,by omega,qh (fun j N hj hN=>by
      by_cases e:j=k
      ·subst e
       have h2:=HM.o;rw[hN]at h2;injection h2 with h2;have:=tC.o;rw[h2];omega
      ·exact HX.o j N qo hN),HB.o⟩
     case measure=>exact qs
   ·obtain rfl:k=S.length:=qo
    clear hb
    go_wp2
    go_ret
    exact⟨R,.inr ⟨by omega,by omega,by omega,fun M hM=>by
     obtain⟨j,hj⟩:=List.getElem?_of_mem hM;exact HX.o j M (fY hj) hj⟩,rfl,HB.o⟩
 ·go_enter Tryz.func20,Tryz.ntmps20
  go_wp2
  go_ret
  exact⟨-1,.inl qo,rfl,Below.refl _ _⟩
theorem lE (A B:OA)(c d L:Nat)(F:List aF)(S:List (List Int)){q:Bool}(w:World)(ha:cN q w A B F S)(hn:F.length≤maxLen)(hb:∀f∈F,f.2.2.length≤maxLen∧∀M∈f.2.2,M.length≤maxLen)(hm:S.length≤maxLen)(hbs:∀M∈S,M.length≤maxLen*6)(hL:L≤1048576):
 Calls Tryz.prog 5 #[.agg #[.slice A F.length c,.slice B S.length d],.int .i64 L] w fun e w'=>∃r:Int,(r<0∨l1 F S)∧e=.returned (.int .i64 r)∧Below w.heap.size w w':=by
 have HA:=qh ha;have l8:=qh hb;have yA:=qh hbs;clear ha hb hbs
 go_enter Tryz.func5,Tryz.ntmps5
 go_wp2_with fail
 refine(lG A c L F _ (HA.o.f.below (qz)) hn l8.o hL).mono ?_;rintro e w1 ⟨r,hr,rfl,hb1⟩;have x0:w1.cell? ⟨w.heap.size,1,none⟩=some (.slice B S.length d):=((aA hb1).1 w.heap.size 1 qj).trans (aZ rfl 1);have HB1:=qh (show Below w.heap.size w w1 from qz);clear hb1
 by_cases h0:r<0
 ·clear hr
  go_wp2
  go_ret
  exact⟨-1,.inl qo,rfl,HB1.o⟩
 ·obtain⟨R,rfl⟩:=Int.eq_ofNat_of_zero_le (show 0≤r by omega)
  obtain⟨h1,h2,h3,h4⟩:=hr.resolve_left h0;have H34:=qh (And.intro h3 h4);clear hr h3 h4
  go_wp2_with fail
  refine(iD B d R S _ (HA.o.s.below HB1.o) hm yA.o qo).mono ?_;rintro e w2 ⟨r2,hr2,rfl,hb2⟩;have HR:=qh hr2;have HB2:=HB1.st hb2;clear hr2 hb2 x0
  by_cases h5:r2<0
  ·go_wp2
   go_ret
   exact⟨-1,.inl qo,rfl,HB2.o⟩
  ·go_wp2
   go_ret
   obtain⟨_,_,h6,h7⟩:=HR.o.resolve_left qo;exact⟨r2,.inr ⟨H34.o,⟨h6,h7⟩⟩,rfl,HB2.o⟩
structure fF {α:Type}(g n k:Nat)(R:List α)(Q:World→α→Value→Prop)(w:World):Prop where
 lt:g<w.heap.size
 kC:aY w g 0 n
 pt:∀j r,j<k→R[j]?=some r→∃v,w.cell? ⟨g,j,none⟩=some v∧cR (fun u=>Q u r v) (fun b=>b≤g) w
theorem fF.next {α:Type}{g n k:Nat}{R:List α}{Q:World→α→Value→Prop}{w w2:World}{r:α}{v:Value}(h:fF g n k R Q w)(hk:k<n)(hr:R[k]?=some r)(hb:Below w.heap.size w w2)(hq:cR (fun u=>Q u r v) (fun b=>b<w.heap.size) w2):fF g n (k+1) R Q (w2.setCell ⟨g,k,none⟩ v):=by
 have hlt:=h.lt;have hsz:=hb.size;refine⟨by simp;omega,(h.kC.below hb).set _ _,fun j s hj hs=>?_⟩
 by_cases e:j=k
 ·subst e
  rw[hr]at hs;injection hs with hs;subst hs;exact⟨v,fB (h.kC.below hb) hk,hq.step ((Fr.refl _ _).set (p:=⟨g,j,none⟩) hlt v) fun b hb=>.inl qo⟩
 ·obtain⟨v',h1,h2⟩:=h.pt j s qo hs
  exact⟨v',bC (a6 hb hlt h1) e,h2.step (show Fr w (w2.setCell ⟨g,k,none⟩ v) (fun b=>b≤g)from(Fr.of_below hb (fun b=>b≤g)).set (F:=fun b=>b≤g) (p:=⟨g,k,none⟩) (Nat.le_refl g) v) fun b hb=>.inl hb⟩
abbrev QL (u:World)(L:List Int)(v:Value):Prop:=∃B c,v=.slice B L.length c∧aW u B L∧L.length≤c
abbrev QS (u:World)(L:List Int)(v:Value):Prop:=∃B m c,v=.slice B m c∧L.length=m*6∧Rd u B (m*6) (fun i=>.int .i64 (L.getD i 0))
theorem fF.lists {g n:Nat}{Ls:List (List Int)}{w:World}(h:fF g n n Ls QL w)(hn:Ls.length=n):cR (fun u=>bD true u (some ⟨g,0,none⟩) Ls) (fun b=>b<g) w:=fun w' hf h0=>by
 have hg:=hf g h.lt qo;have hlt:g<w'.heap.size:=by
  have:=h.lt;rw[Array.getElem?_eq_getElem this]at hg;exact(Array.getElem?_eq_some_iff.1 hg).1
 refine⟨g,0,rfl,hlt,fun j L hj=>?_⟩;obtain⟨v,h1,h2⟩:=h.pt j L (by have:=fY hj;omega) hj;obtain⟨B,c,rfl,h3⟩:=h2 w' fun b hb hn=>hf b hb qo;exact⟨B,c,by rw[Nat.zero_add];exact(World.cell?_of_block (w:=w) (a:=⟨g,j,none⟩) hg).trans h1,h3.1,fun _=>h3.2⟩
theorem fF.p6 {g n:Nat}{S:List (List Int)}{w:World}(h:fF g n n S QS w)(hn:S.length=n):cR (fun u=>dI u (some ⟨g,0,none⟩) S) (fun b=>b<g) w:=fun w' hf h0=>by
 have hg:=hf g h.lt qo;have hlt:g<w'.heap.size:=by
  have:=h.lt;rw[Array.getElem?_eq_getElem this]at hg;exact(Array.getElem?_eq_some_iff.1 hg).1
 refine⟨g,0,rfl,hlt,fun j L hj=>?_⟩;obtain⟨v,h1,h2⟩:=h.pt j L (by have:=fY hj;omega) hj;obtain⟨B,m,c,rfl,h3,h4⟩:=h2 w' fun b hb hn=>hf b hb qo;exact⟨B,m,c,by rw[Nat.zero_add];exact(World.cell?_of_block (w:=w) (a:=⟨g,j,none⟩) hg).trans h1,h3,h4⟩
structure iT (g n k:Nat)(F:List aF)(w:World):Prop where
 lt:g<w.heap.size
 kC:aY w g 0 (n*3)
 pt:∀j f,j<k→F[j]?=some f→w.cell? ⟨g,j*3,none⟩=some (.int .i64 f.1)∧w.cell? ⟨g,j*3+1,none⟩=some (.int .i64 f.2.1)∧∃B c,w.cell? ⟨g,j*3+2,none⟩=some (.slice B f.2.2.length c)∧cR (fun u=>bD true u B f.2.2) (fun b=>b≤g) w
theorem iT.next {g n k:Nat}{F:List aF}{w w2:World}{f:aF}{B:Option Addr}{c:Nat}(h:iT g n k F w)(hk:k<n)(hr:F[k]?=some f)(hb:Below w.heap.size w w2)(hq:cR (fun u=>bD true u B f.2.2) (fun b=>b<w.heap.size) w2):
 iT g n (k+1) F (((w2.setCell ⟨g,k*3,none⟩ (.int .i64 f.1)).setCell ⟨g,k*3+1,none⟩ (.int .i64 f.2.1)).setCell ⟨g,k*3+2,none⟩ (.slice B f.2.2.length c)):=by
 have hlt:=h.lt;have hsz:=hb.size;have hrw:=h.kC.below hb;have hfr:∀X:Nat→Prop,X g→Fr w2 (((w2.setCell ⟨g,k*3,none⟩ (.int .i64 f.1)).setCell ⟨g,k*3+1,none⟩ (.int .i64 f.2.1)).setCell ⟨g,k*3+2,none⟩ (.slice B f.2.2.length c)) X:=fun X hX=>(((Fr.refl _ _).set (p:=⟨g,k*3,none⟩) hX _).set (p:=⟨g,k*3+1,none⟩) hX _).set (p:=⟨g,k*3+2,none⟩) hX _;refine⟨by simp;omega,((hrw.set _ _).set _ _).set _ _,fun j s hj hs=>?_⟩
 by_cases e:j=k
 ·subst e
  rw[hr]at hs;injection hs with hs;subst hs;exact⟨bC (bC (fB hrw qo) qo) qo,bC (fB (hrw.set _ _) qo) qo,B,c,fB ((hrw.set _ _).set _ _) qo,hq.step (hfr _ hlt) fun b hb=>.inl qo⟩
 ·obtain⟨h0,h1,B',c',h2,h3⟩:=h.pt j s qo hs
  exact⟨bC (bC (bC (a6 hb hlt h0) qo) qo) qo,bC (bC (bC (a6 hb hlt h1) qo) qo) qo,B',c',bC (bC (bC (a6 hb hlt h2) qo) qo) qo,h3.step ((Fr.of_below hb (fun b=>b≤g)).trans (hfr _ ql)) fun b hb=>.inl hb⟩
theorem iT.forms {g n:Nat}{F:List aF}{w:World}(h:iT g n n F w)(hn:F.length=n):cR (fun u=>d7 true u (some ⟨g,0,none⟩) F) (fun b=>b<g) w:=fun w' hf h0=>by
 have hg:=hf g h.lt qo;have hlt:g<w'.heap.size:=by
  have:=h.lt;rw[Array.getElem?_eq_getElem this]at hg;exact(Array.getElem?_eq_some_iff.1 hg).1
 have hc:∀i v,w.cell? ⟨g,i,none⟩=some v→w'.cell? ⟨g,i,none⟩=some v:=fun i v h1=>(World.cell?_of_block (w:=w) (a:=⟨g,i,none⟩) hg).trans h1;refine⟨g,0,rfl,hlt,fun j f hj=>?_⟩;obtain⟨h1,h2,B,c,h3,h4⟩:=h.pt j f (by have:=fY hj;omega) hj;have h5:=h4 w' fun b hb hn=>hf b hb qo;rw[Nat.zero_add];exact⟨B,c,hc _ _ h1,hc _ _ h2,hc _ _ h3,h5⟩
def tU (w:World)(Ls:List (List Int))(e:Ending)(w':World):Prop:=∃B c,e=.returned (.slice B Ls.length c)∧cR (fun u=>bD true u B Ls) (fun b=>b<w.heap.size) w'∧Below w.heap.size w w'
def tV (w:World)(F:List aF)(e:Ending)(w':World):Prop:=∃B c,e=.returned (.slice B F.length c)∧cR (fun u=>d7 true u B F) (fun b=>b<w.heap.size) w'∧Below w.heap.size w w'
def tW (w:World)(S:List (List Int))(e:Ending)(w':World):Prop:=∃B c,e=.returned (.slice B S.length c)∧cR (fun u=>dI u B S) (fun b=>b<w.heap.size) w'∧Below w.heap.size w w'
theorem rC:(Tryz.prog.info? 57).map (fun i=>(i.zero,i.size,i.bytes))=some (some (.slice none 0 0),1,24):=by kernel_rfl
theorem rB:(Tryz.prog.info? 36).map (fun i=>(i.zero,i.size,i.bytes))=some (some (.slice none 0 0),1,24):=by kernel_rfl
theorem rA:(Tryz.prog.info? 54).map (fun i=>(i.zero,i.size,i.bytes))=some (some (.agg #[.int .i64 0,.int .i64 0,.slice none 0 0]),3,40):=by kernel_rfl
theorem m4 {w w':World}{A:Option Addr}{N:Nat}{f:Nat→Value}(h:New w w' A N f):cR (fun u=>Rd u A N f) (fun b=>b<w.heap.size) w':=cR.rS (aU A N f) h.rd fun b ⟨_,a,e,hb⟩ h2=>by
 have:=h.ab a e;omega
theorem lB (A:OA)(q:Nat)(Ls:List (List Int)){q0:Bool}(w:World)(ha:bD q0 w A Ls)(hn:Ls.length≤1048576)(hns:∀M∈Ls,M.length≤1048576):
 Calls Tryz.prog 101 #[.slice A Ls.length q] w (tU w Ls):=by
 have HA:=qh ha;have fT:=qh hns;clear ha hns;obtain⟨i0,hi,hz0,hz1,hz2⟩:=info_parts rC;obtain⟨n,hnl⟩:=qx (Ls.length);rw[←hnl]at hn ⊢;have fH:=qh hnl;clear hnl
 go_enter Tryz.func101,Tryz.ntmps101
 go_wp2_with (at_make;refine wpList_make_full _ rfl _ _ 52 rfl w.heap.size 57 i0 (.slice none 0 0) 1 Tryz.underlying52 hi hz0 hz1 .i64 .i64 n n n rfl rfl rfl rfl (by rw[hz2];omega) qm ql ?_;intro w1 hown hg1)
 have hb1:=(Below.refl w.heap.size w).grown hg1 ql (fun k e=>by cases e);have hw1:=aY.eA hown;have hg1:w.heap.size<w1.heap.size:=(hown.lt _ rfl).2;have HB:=qh hb1;have HW:=qh hw1;clear hb1 hw1 hown
 go_loopw [4] (fun i wr=>∃(k:Nat),k≤n∧i=.int .i64 k∧Below w.heap.size w wr∧fF w.heap.size n k Ls QL wr) (fun i _=>n-(intOf i).toNat)
 case atStart=>exact⟨0,Nat.zero_le _,rfl,HB.o,⟨hg1,by simpa using HW.o,fun j r hj=>absurd hj qo⟩⟩
 case round=>
  obtain⟨k,hk,rfl,hb,hacc⟩:=hrel;have HB:=qh hb;have eH:=qh hacc;have hgr:=hacc.lt;have jC:=qh fH.o
  by_cases hlt:k<n
  ·obtain⟨M,hM⟩:=cQ (L:=Ls) (k:=k) (by have:=fH.o;omega)
   obtain⟨g,o,B,d,rfl,hg,h0,hr,_⟩:=(HA.o.below hb).at hM;have hm:=fT.o M (List.mem_of_getElem? hM);have HM:=qh hM;have HR:=qh hr;have b1:(0:Int)≤(k:Int):=qo;have b2:(k:Int)<(n:Int):=qo;clear hb hacc hM hr
   go_wp2_with fail
   refine(jH B M.length d (fun j=>M.getD j 0) _ HR.o hm).mono ?_;rintro e w2 ⟨A1,c1,rfl,hcc,hnew⟩;have hrw:=eH.o.kC.below hnew.bl;obtain⟨⟨u0,hu0⟩,hf0⟩:=hrw k qo;rw[Nat.zero_add]at hu0 hf0;have bI:=qh (eH.o.next hlt HM.o hnew.bl (v:=.slice A1 M.length c1) fun w' hf=>⟨A1,c1,rfl,m4 hnew w' hf,hcc⟩);have HB2:=qh (HB.o.trans (hnew.bl.mono HB.o.size));clear hrw hnew h0
   go_wp2
   go_roundw
   case rel=>exact⟨k+1,by omega,qg,HB2.o.setCell ql _,bI.o⟩
   case measure=>exact qs
  ·obtain rfl:n=k:=qo
   clear hb hacc
   go_wp2
   go_ret
   exact⟨_,_,by rw[←fH.o];rfl,eH.o.lists fH.o.symm,HB.o⟩
theorem k6 (f:aF)(A:OA)(q:Nat){q0:Bool}(w:World)(ha:bD q0 w A f.2.2)(hb:gG f):
 Calls Tryz.prog 55 #[.agg #[.int .i64 f.1,.int .i64 f.2.1,.slice A f.2.2.length q]] w fun e w'=>∃B c,e=.returned (.agg #[.int .i64 f.1,.int .i64 f.2.1,.slice B f.2.2.length c])∧cR (fun u=>bD true u B f.2.2) (fun b=>b<w.heap.size) w'∧Below w.heap.size w w':=by
 obtain⟨s,p,Ls⟩:=f;have HA:=qh ha;have HB:=qh hb;clear ha hb
 go_enter Tryz.func55,Tryz.ntmps55
 go_wp2_with fail
 refine(lB A q Ls _ (HA.o.below (qz)) HB.o.n HB.o.l).mono ?_;rintro e w1 ⟨A1,c1,rfl,hst,hb1⟩;obtain⟨hc1,hf1⟩:=aA hb1;have hz1:w.heap.size+1+1<w1.heap.size:=blt hb1 qj;have HST:=qh hst;have HB1:=qh (show Below w.heap.size w w1 from qz);clear hst hb1
 go_wp2
 refine bodyPost_ret (v:=.agg #[.int .i64 s,.int .i64 p,.slice A1 Ls.length c1]) (by simp[results,Tryz.results55,go_sem,hc1]) rfl ⟨A1,c1,rfl,?_⟩;have hR:∀wF,Fr w1 wF (fun g=>g=w.heap.size+1∨g=w.heap.size+1+1)→Below w.heap.size w wF→cR (fun u=>bD true u A1 Ls) (fun b=>b<w.heap.size) wF∧Below w.heap.size w wF:=by
  intro wF hf hb;refine⟨HST.o.step (hf.mono fun b hb=>?_) fun b hb=>.inl ?_,hb⟩
  ·simp
   omega
  ·simp
   omega
 have hb1:=HB1.o;exact hR _ (qf) (qz)
theorem lC (A:OA)(q:Nat)(F:List aF){q0:Bool}(w:World)(ha:d7 q0 w A F)(hn:F.length≤1048576)(hns:∀f∈F,gG f):
 Calls Tryz.prog 25 #[.slice A F.length q] w (tV w F):=by
 have HA:=qh ha;have fT:=qh hns;clear ha hns;obtain⟨i0,hi,hz0,hz1,hz2⟩:=info_parts rA;obtain⟨n,hnl⟩:=qx (F.length);rw[←hnl]at hn ⊢;have fH:=qh hnl;clear hnl
 go_enter Tryz.func25,Tryz.ntmps25
 go_wp2_with (at_make;refine wpList_make_full _ rfl _ _ 28 rfl w.heap.size 54 i0 (.agg #[.int .i64 0,.int .i64 0,.slice none 0 0]) 3 Tryz.underlying28 hi hz0 hz1 .i64 .i64 n n n rfl rfl rfl rfl (by rw[hz2];omega) qm ql ?_;intro w1 hown hg1)
 have hb1:=(Below.refl w.heap.size w).grown hg1 ql (fun k e=>by cases e);have hw1:=aY.eA hown;have hg1:w.heap.size<w1.heap.size:=(hown.lt _ rfl).2;have HB:=qh hb1;have HW:=qh hw1;clear hb1 hw1 hown
 go_loopw [4] (fun i wr=>∃(k:Nat),k≤n∧i=.int .i64 k∧Below w.heap.size w wr∧iT w.heap.size n k F wr) (fun i _=>n-(intOf i).toNat)
 case atStart=>exact⟨0,Nat.zero_le _,rfl,HB.o,⟨hg1,HW.o,fun j r hj=>absurd hj qo⟩⟩
 case round=>
  obtain⟨k,hk,rfl,hb,hacc⟩:=hrel;have HB:=qh hb;have eH:=qh hacc;have hgr:=hacc.lt
  by_cases hlt:k<n
  ·obtain⟨f,hf⟩:=cQ (L:=F) (k:=k) (by have:=fH.o;omega)
   obtain⟨g,o,B,d,rfl,hg,hat⟩:=(HA.o.below hb).at hf;have hm:=fT.o f (List.mem_of_getElem? hf);have HF:=qh hf;have h0:=hat.c0;have h1:=hat.c1;have h2:=hat.c2;have HC:=qh (k6 f B d _ hat.rd hm);have b1:(0:Int)≤(k:Int):=qo;have b2:(k:Int)<(n:Int):=qo;clear hb hacc hf hat hm
   go_wp2_with fail
   refine HC.o.mono ?_;rintro e w2 ⟨A1,c1,rfl,hst,hb2⟩;have hrw:=eH.o.kC.below hb2;obtain⟨⟨u0,hu0⟩,hf0⟩:=hrw (k*3) qo;obtain⟨⟨u1,hu1⟩,hf1⟩:=hrw (k*3+1) qo;obtain⟨⟨u2,hu2⟩,hf2⟩:=hrw (k*3+2) qo;rw[Nat.zero_add]at hu0 hf0 hu1 hf1 hu2 hf2;have bI:=qh (eH.o.next (c:=c1) hlt HF.o hb2 hst);have HB2:=HB.st hb2;clear hrw hst hb2 h0 h1 h2
   go_wp2
   go_roundw
   case rel=>exact⟨k+1,by omega,qg,(((HB2.o.setCell ql _).setCell ql _).setCell ql _),bI.o⟩
   case measure=>exact qs
  ·obtain rfl:n=k:=qo
   clear hb hacc
   go_wp2
   go_ret
   exact⟨_,_,by rw[←fH.o];rfl,eH.o.forms fH.o.symm,HB.o⟩
theorem iC (A:OA)(q:Nat)(S:List (List Int))(w:World)(ha:dI w A S)(hn:S.length≤1048576)(hns:∀M∈S,M.length≤1048576*6):
 Calls Tryz.prog 26 #[.slice A S.length q] w (tW w S):=by
 have HA:=qh ha;have fT:=qh hns;clear ha hns;obtain⟨i0,hi,hz0,hz1,hz2⟩:=info_parts rB;obtain⟨n,hnl⟩:=qx (S.length);rw[←hnl]at hn ⊢;have fH:=qh hnl;clear hnl
 go_enter Tryz.func26,Tryz.ntmps26
 go_wp2_with (at_make;refine wpList_make_full _ rfl _ _ 29 rfl w.heap.size 36 i0 (.slice none 0 0) 1 Tryz.underlying29 hi hz0 hz1 .i64 .i64 n n n rfl rfl rfl rfl (by rw[hz2];omega) qm ql ?_;intro w1 hown hg1)
 have hb1:=(Below.refl w.heap.size w).grown hg1 ql (fun k e=>by cases e);have hw1:=aY.eA hown;have hg1:w.heap.size<w1.heap.size:=(hown.lt _ rfl).2;have HB:=qh hb1;have HW:=qh hw1;clear hb1 hw1 hown
 go_loopw [4] (fun i wr=>∃(k:Nat),k≤n∧i=.int .i64 k∧Below w.heap.size w wr∧fF w.heap.size n k S QS wr) (fun i _=>n-(intOf i).toNat)
 case atStart=>exact⟨0,Nat.zero_le _,rfl,HB.o,⟨hg1,by simpa using HW.o,fun j r hj=>absurd hj qo⟩⟩
 case round=>
  obtain⟨k,hk,rfl,hb,hacc⟩:=hrel;have HB:=qh hb;have eH:=qh hacc;have hgr:=hacc.lt
  by_cases hlt:k<n
  ·obtain⟨M,hM⟩:=cQ (L:=S) (k:=k) (by have:=fH.o;omega)
   obtain⟨g,o,B,m,d,rfl,hg,h0,hl,hr⟩:=(HA.o.below hb).at hM;have hm:=fT.o M (List.mem_of_getElem? hM);have hmm:m≤1048576:=qo;have HM:=qh hM;have HR:=qh hr;have HL:=qh hl;have b1:(0:Int)≤(k:Int):=qo;have b2:(k:Int)<(n:Int):=qo;clear hb hacc hM hr hl hm
   go_wp2_with fail
   refine(k7 B m d (fun j=>M.getD j 0) _ HR.o hmm).mono ?_;rintro e w2 ⟨A1,c1,rfl,hnew⟩;have hrw:=eH.o.kC.below hnew.bl;obtain⟨⟨u0,hu0⟩,hf0⟩:=hrw k qo;rw[Nat.zero_add]at hu0 hf0;have bI:=qh (eH.o.next hlt HM.o hnew.bl (v:=.slice A1 m c1) fun w' hf=>⟨A1,m,c1,rfl,HL.o,m4 hnew w' hf⟩);have HB2:=qh (HB.o.trans (hnew.bl.mono HB.o.size));clear hrw hnew h0
   go_wp2
   go_roundw
   case rel=>exact⟨k+1,by omega,qg,HB2.o.setCell ql _,bI.o⟩
   case measure=>exact qs
  ·obtain rfl:n=k:=qo
   clear hb hacc
   go_wp2
   go_ret
   exact⟨_,_,by rw[←fH.o];rfl,eH.o.p6 fH.o.symm,HB.o⟩
def tT (w:World)(F:List aF)(S:List (List Int))(e:Ending)(w':World):Prop:=∃A c B d,e=.returned (.agg #[.slice A F.length c,.slice B S.length d])∧cN true w' A B F S∧Below w.heap.size w w'
theorem lA (A B:OA)(c d:Nat)(F:List aF)(S:List (List Int)){q0:Bool}(w:World)(ha:cN q0 w A B F S)(hb:l1 F S):
 Calls Tryz.prog 7 #[.agg #[.slice A F.length c,.slice B S.length d]] w (tT w F S):=by
 have HA:=qh ha;have HB:=qh hb;clear ha hb
 go_enter Tryz.func7,Tryz.ntmps7
 go_wp2_with fail
 refine(lC A c F _ (HA.o.f.below (qz)) HB.o.f.1 HB.o.f.2).mono ?_;rintro e w1 ⟨A1,c1,rfl,hst,hb1⟩;obtain⟨hc1,hf1⟩:=aA hb1;have hz1:w.heap.size+1+1<w1.heap.size:=blt hb1 qj;have sX:=qh hst;have Y1:=qh (aJ.below ((aJ.at_ (g':=w.heap.size+1) _ 31 #[.slice none 0 0,.slice none 0 0] qj).alloc _) hb1 (by first|(simp;done)|(simp;omega)|omega));have Z1:=qh (aJ.below (aJ.at_ (g':=w.heap.size+1+1) _ 31 #[.slice none 0 0,.slice none 0 0] qj) hb1 (by first|(simp;done)|(simp;omega)|omega));have HB1:=qh (show Below w.heap.size w w1 from qz);have hsz1:=hb1.size
 simp only[World.size_alloc]at hsz1
 have vM:=qh (HB1.o.setCell (p:=⟨w.heap.size+1+1,0,none⟩) (show w.heap.size≤w.heap.size+1+1 by omega) (.slice A1 F.length c1));have y8:=qh (HA.o.s.below vM.o);have wO:=qh (show cR (fun u=>d7 true u A1 F) (fun b=>b<w.heap.size+1+1+1) (w1.setCell ⟨w.heap.size+1+1,0,none⟩ (.slice A1 F.length c1))from by
  have h:=sX.o
  simp only[World.size_alloc]at h
  exact h.step ((Fr.refl w1 (fun b=>b<w.heap.size+1+1+1)).set (F:=fun b=>b<w.heap.size+1+1+1) (p:=⟨w.heap.size+1+1,0,none⟩) (show w.heap.size+1+1<w.heap.size+1+1+1 by omega) _) fun b hb=>.inl hb)
 clear hst
 go_wp2_with fail
 refine(iC B d S _ y8.o HB.o.s.1 HB.o.s.2).mono ?_;rintro e w2 ⟨A2,c2,rfl,rZ,hb2⟩;obtain⟨hc2,hf2⟩:=aA hb2;have hz2:w.heap.size+1+1<w2.heap.size:=Nat.lt_of_lt_of_le hz1 (by have:=hb2.size;simpa using this);have HS2:=qh rZ;have HB2:=vM.st hb2;have wN:=qh (wO.o.step (X':=fun b=>b<w.heap.size+1+1+1) (Fr.of_below hb2 _) fun b hb=>.inl hb);have Y2:=qh (aJ.below (Y1.out.far (p:=⟨w.heap.size+1+1,0,none⟩) qj _) hb2 (by first|(simp;done)|(simp;omega)|omega));have Z2:=qh (aJ.below (Z1.out.vY 0 _) hb2 (by first|(simp;done)|(simp;omega)|omega));have y2:=fun o=>Y2.out.cell o;have y2f:=fun o=>Y2.out.frozen o;have z2':=fun o=>Z2.out.cell o;have z2f:=fun o=>Z2.out.frozen o;clear rZ hb2 hc1 hf1 hc2 hf2
 go_wp2
 refine bodyPost_ret (v:=.agg #[.slice A1 F.length c1,.slice A2 S.length c2]) (by simp[results,Tryz.results7,go_sem,y2]) rfl ⟨A1,c1,A2,c2,rfl,?_⟩;have hR:∀wF,Fr w2 wF (fun g=>g=w.heap.size+1∨g=w.heap.size+1+1)→Below w.heap.size w wF→cN true wF A1 A2 F S∧Below w.heap.size w wF:=by
  intro wF hf hb;refine⟨⟨(wN.o.step (X':=fun _=>False) (hf.mono fun b hb=>by omega) fun b hb=>hb.elim).now,(HS2.o.step (X':=fun _=>False) (hf.mono fun b hb=>?_) fun b hb=>hb.elim).now⟩,hb⟩;have h3:=hsz1
  simp only[World.size_setCell]
  omega
 have hb2:=HB2.o;exact hR _ (qf) (qz)
theorem lU {q q':Bool}(A A':OA)(c c':Nat)(Ls:List (List Int))(w:World)(ha:bD q w A Ls)(hb:bD q' w A' Ls)(hn:Ls.length≤1048576)(hns:∀M∈Ls,M.length≤1048576):
 Calls Tryz.prog 116 #[.slice A Ls.length c,.slice A' Ls.length c'] w fun e w'=>e=.returned (.bool true)∧Below w.heap.size w w':=by
 have HA:=qh ha;have HB:=qh hb;have HN:=qh hns;clear ha hb hns
 go_enter Tryz.func116,Tryz.ntmps116
 go_wp2
 go_loopw [5] (fun i wr=>∃k:Nat,k≤Ls.length∧i=.int .i64 k∧Below w.heap.size w wr) (fun i _=>Ls.length-(intOf i).toNat)
 case atStart=>exact⟨0,Nat.zero_le _,rfl,Below.refl _ _⟩
 case round=>
  obtain⟨k,hk,rfl,hbl⟩:=hrel;have HL:=qh hbl
  by_cases hlt:k<Ls.length
  ·obtain⟨M,hM⟩:=cQ hlt
   obtain⟨g,o,B,d,rfl,hg,a0,hr,_⟩:=(HA.o.below hbl).at hM;obtain⟨g',o',B',d',rfl,hg',b0,hr',_⟩:=(HB.o.below hbl).at hM;have hm:=HN.o M (List.mem_of_getElem? hM);have HE:=qh (kR B B' M.length d d' (fun j=>M.getD j 0) (wr.drewN 1) (by rw[Nat.mul_one];exact Rd.drewN hr 1) (by rw[Nat.mul_one];exact Rd.drewN hr' 1) qo);have b1:(0:Int)≤(k:Int):=qo;have b2:(k:Int)<(Ls.length:Int):=qo;clear hbl hM hr hr'
   go_wp2
   go_region_held3 (fun w'=>w'.cell? ⟨g,o+k,none⟩=some (.slice B M.length d)∧w'.cell? ⟨g',o'+k,none⟩=some (.slice B' M.length d')) (go_keep) (first|(go_at_call 151;refine HE.o.mono ?_;rintro e w1 ⟨rfl,hb1⟩;have hk1:=((aA hb1).1 g (o+k) hg).trans a0;have hk2:=((aA hb1).1 g' (o'+k) hg').trans b0))
   go_wp2
   go_roundw
   case rel=>exact⟨k+1,by omega,qg,(Below.drewN' HL.o 1).trans (hb1.mono HL.o.size)⟩
   case measure=>exact qs
  ·obtain rfl:k=Ls.length:=qo
   clear hbl
   go_wp2
   go_ret
   exact⟨rfl,HL.o⟩
theorem nC {q q':Bool}(f:aF)(A A':OA)(c c':Nat)(w:World)(ha:bD q w A f.2.2)(hb:bD q' w A' f.2.2)(hf:gG f):
 Calls Tryz.prog 67 #[.agg #[.int .i64 f.1,.int .i64 f.2.1,.slice A f.2.2.length c],.agg #[.int .i64 f.1,.int .i64 f.2.1,.slice A' f.2.2.length c']] w fun e w'=>e=.returned (.bool true)∧Below w.heap.size w w':=by
 obtain⟨s,p,Ls⟩:=f;have HA:=qh ha;have HB:=qh hb;have HF:=qh hf;clear ha hb hf
 go_enter Tryz.func67,Tryz.ntmps67
 go_wp2_with fail
 refine(lU A A' c c' Ls _ (HA.o.below (qz)) (HB.o.below (qz)) HF.o.n HF.o.l).mono ?_;rintro e w1 ⟨rfl,hb1⟩;have HB1:=qh (show Below w.heap.size w w1 from qz);clear hb1
 go_wp2_with fail
 go_ret
 exact⟨rfl,HB1.o⟩
theorem lV {q q':Bool}(A A':OA)(c c':Nat)(F:List aF)(w:World)(ha:d7 q w A F)(hb:d7 q' w A' F)(hn:F.length≤1048576)(hns:∀f∈F,gG f):
 Calls Tryz.prog 32 #[.slice A F.length c,.slice A' F.length c'] w fun e w'=>e=.returned (.bool true)∧Below w.heap.size w w':=by
 have HA:=qh ha;have HB:=qh hb;have HN:=qh hns;clear ha hb hns
 go_enter Tryz.func32,Tryz.ntmps32
 go_wp2
 go_loopw [5] (fun i wr=>∃k:Nat,k≤F.length∧i=.int .i64 k∧Below w.heap.size w wr) (fun i _=>F.length-(intOf i).toNat)
 case atStart=>exact⟨0,Nat.zero_le _,rfl,Below.refl _ _⟩
 case round=>
  obtain⟨k,hk,rfl,hbl⟩:=hrel;have HL:=qh hbl
  by_cases hlt:k<F.length
  ·obtain⟨f,hf⟩:=cQ hlt
   obtain⟨g,o,B,d,rfl,hg,hat⟩:=(HA.o.below hbl).at hf;obtain⟨g',o',B',d',rfl,hg',hat'⟩:=(HB.o.below hbl).at hf;have hm:=HN.o f (List.mem_of_getElem? hf);have HE:=qh (nC f B B' d d' (wr.drewN 1) (hat.rd.drewN 1) (hat'.rd.drewN 1) hm);have h0:=hat.c0;have h1:=hat.c1;have h2:=hat.c2;have h0':=hat'.c0;have h1':=hat'.c1;have h2':=hat'.c2;have b1:(0:Int)≤(k:Int):=qo;have b2:(k:Int)<(F.length:Int):=qo;clear hbl hf hat hat' hm
   go_wp2_with fail
   go_region_held3 (fun w'=>w'.cell? ⟨g,o+k*3,none⟩=some (.int .i64 f.1)∧w'.cell? ⟨g',o'+k*3,none⟩=some (.int .i64 f.1)∧w'.cell? ⟨g,o+k*3+1,none⟩=some (.int .i64 f.2.1)∧w'.cell? ⟨g',o'+k*3+1,none⟩=some (.int .i64 f.2.1)∧w'.cell? ⟨g,o+k*3+2,none⟩=some (.slice B f.2.2.length d)∧w'.cell? ⟨g',o'+k*3+2,none⟩=some (.slice B' f.2.2.length d')) (go_keep)
    (first|(go_at_call 67;refine HE.o.mono ?_;rintro e w1 ⟨rfl,hb1⟩;have kb:=aA hb1;have k0:=(kb.1 g (o+k*3) hg).trans h0;have k0':=(kb.1 g' (o'+k*3) hg').trans h0';have k1:=(kb.1 g (o+k*3+1) hg).trans h1;have k1':=(kb.1 g' (o'+k*3+1) hg').trans h1';have k2:=(kb.1 g (o+k*3+2) hg).trans h2;have k2':=(kb.1 g' (o'+k*3+2) hg').trans h2';clear kb))
   go_wp2
   go_roundw
   case rel=>exact⟨k+1,by omega,qg,(Below.drewN' HL.o 1).trans (hb1.mono HL.o.size)⟩
   case measure=>exact qs
  ·obtain rfl:k=F.length:=qo
   clear hbl
   go_wp2
   go_ret
   exact⟨rfl,HL.o⟩
theorem iN (A A':OA)(c c':Nat)(S:List (List Int))(w:World)(ha:dI w A S)(hb:dI w A' S)(hn:S.length≤1048576)(hns:∀M∈S,M.length≤1048576*6):
 Calls Tryz.prog 33 #[.slice A S.length c,.slice A' S.length c'] w fun e w'=>e=.returned (.bool true)∧Below w.heap.size w w':=by
 have HA:=qh ha;have HB:=qh hb;have HN:=qh hns;clear ha hb hns
 go_enter Tryz.func33,Tryz.ntmps33
 go_wp2
 go_loopw [5] (fun i wr=>∃k:Nat,k≤S.length∧i=.int .i64 k∧Below w.heap.size w wr) (fun i _=>S.length-(intOf i).toNat)
 case atStart=>exact⟨0,Nat.zero_le _,rfl,Below.refl _ _⟩
 case round=>
  obtain⟨k,hk,rfl,hbl⟩:=hrel;have HL:=qh hbl
  by_cases hlt:k<S.length
  ·obtain⟨M,hM⟩:=cQ hlt
   obtain⟨g,o,B,m,d,rfl,hg,a0,hl,hr⟩:=(HA.o.below hbl).at hM;obtain⟨g',o',B',m',d',rfl,hg',b0,hl',hr'⟩:=(HB.o.below hbl).at hM;have hm:=HN.o M (List.mem_of_getElem? hM);obtain rfl:m=m':=qo;have HE:=qh (kS B B' m d d' (fun j=>M.getD j 0) (wr.drewN 1) (Rd.drewN hr 1) (Rd.drewN hr' 1) qo);have b1:(0:Int)≤(k:Int):=qo;have b2:(k:Int)<(S.length:Int):=qo;clear hbl hM hr hr' hl hl' hm
   go_wp2
   go_region_held3 (fun w'=>w'.cell? ⟨g,o+k,none⟩=some (.slice B m d)∧w'.cell? ⟨g',o'+k,none⟩=some (.slice B' m d')) (go_keep) (first|(go_at_call 68;refine HE.o.mono ?_;rintro e w1 ⟨rfl,hb1⟩;have hk1:=((aA hb1).1 g (o+k) hg).trans a0;have hk2:=((aA hb1).1 g' (o'+k) hg').trans b0))
   go_wp2
   go_roundw
   case rel=>exact⟨k+1,by omega,qg,(Below.drewN' HL.o 1).trans (hb1.mono HL.o.size)⟩
   case measure=>exact qs
  ·obtain rfl:k=S.length:=qo
   clear hbl
   go_wp2
   go_ret
   exact⟨rfl,HL.o⟩
theorem lT {q q':Bool}(F:List aF)(S:List (List Int))(A A' B B':OA)(c c' d d':Nat)(w:World)(ha:cN q w A B F S)(hb:cN q' w A' B' F S)(k1:l1 F S):
 Calls Tryz.prog 9 #[.agg #[.slice A F.length c,.slice B S.length d],.agg #[.slice A' F.length c',.slice B' S.length d']] w fun e w'=>e=.returned (.bool true)∧Below w.heap.size w w':=by
 have HW:=qh (((Below.refl w.heap.size w).alloc ql (.cells #[.slice A F.length c,.slice B S.length d] 31)).alloc qj (.cells #[.slice A' F.length c',.slice B' S.length d'] 31));have HE:=qh (lV A A' c c' F _ (ha.f.below HW.o) (hb.f.below HW.o) k1.f.1 k1.f.2);have HS:=qh (fun w' (h:Below w.heap.size w w')=>iN B B' d d' S w' (ha.s.below h) (hb.s.below h) k1.s.1 k1.s.2);have hsz:=HW.o.size
 simp only[World.size_alloc]at hsz
 clear ha hb k1
 go_enter Tryz.func9,Tryz.ntmps9
 go_wp2_with fail
 refine HE.o.mono ?_;rintro e w4 ⟨rfl,hb4⟩;have aI:=HW.st hb4;have x0:w4.cell? ⟨w.heap.size,1,none⟩=some (.slice B S.length d):=((aA hb4).1 w.heap.size 1 (by simp;omega)).trans (by simp[go_sem]);have x1:w4.cell? ⟨w.heap.size+1,1,none⟩=some (.slice B' S.length d'):=((aA hb4).1 (w.heap.size+1) 1 qj).trans (by simp[go_sem]);clear hb4 HE
 go_wp2_with fail
 refine(HS.o _ aI.o).mono ?_;rintro e w5 ⟨rfl,hb5⟩;have aX:=aI.st hb5;clear hb5 x0 x1
 go_wp2_with fail
 go_ret
 exact⟨rfl,aX.o⟩
end Go.Proofs.YtmnbgjnipbpiaaaGreatDoor
namespace Go.Proofs.YtmnbgjnipbpiaaaGreatDoor
open Go.RowKit Go.WideShapes Go.ChangeShapes Go.Deep Go.Joins Go.ChangeAt
variable {H:Type}{enc:TypeId×Value→H}{P:Program}{W:World}{spare:Nat→Bool}{held:Bool}
theorem f5 {α:Type}[Inhabited α]{t e:TypeId}{C fuel:Nat}{u:Value}{x:DataW H×List MemPlace}(Q:List Value→α→Prop)(ht:P.underlying t=some (.slice e))(hC:P.cellsOf e=C)(h0:0<C)(hQ:∀cs r,Q cs r→cs.length=C)
 (hel:∀m cs y,DataW.trod enc P W 0 spare held m e cs=some y→∃r:α,Q cs r) (hf:DataW.trod enc P W 0 spare held fuel t [u]=some x):
 ∃(A:OA) (c:Nat) (R:List α),u=.slice A R.length c∧R.length≤maxLen∧(∀r∈R,∃cs,Q cs r)∧(0<R.length→∃g o,A=some ⟨g,o,none⟩∧g<W.heap.size∧∀j r,R[j]?=some r→∃cs,Q cs r∧∀i,i<C→W.cell? ⟨g,o+j*C+i,none⟩=cs[i]?):=by
 rcases open_slice ht hf with⟨hcs,_⟩|⟨a,len,cap,m,k,D,Pl,hcs,_,hl,hm,hmm,_,hi⟩
 ·simp at hcs
  subst hcs;exact⟨none,0,[],rfl,by simp,fun r h=>by simp at h,fun h=>absurd h qj⟩
 ·simp at hcs
  subst hcs;have hle:len≤m:=by rw[hmm];split<;>omega
  have hall:∀q,∃r:α,q<len→∃cs,Q cs r∧∀i,i<C→W.cell? (a.add (q*C+i))=cs[i]?:=by
   intro q
   by_cases hq:q<len
   ·obtain⟨cs',hcells,htr⟩:=hi q qo
    rw[hC]at hcells;obtain⟨_,hcl,hat⟩:=World.cells?_some hcells;obtain⟨r,hr⟩:=hel _ _ _ htr;refine⟨r,fun _=>⟨cs',hr,fun i hi=>?_⟩⟩;rw[←Go.Deep.add_add];exact hat i hi
   ·exact⟨default,fun h=>absurd h hq⟩
  obtain⟨r,hr⟩:=Classical.axiomOfChoice hall;have hlen:((List.range len).map r).length=len:=by simp
  have hget:∀j y,((List.range len).map r)[j]?=some y→j<len∧y=r j:=fun j y hj=>by
   have hjl:j<len:=by have:=(List.getElem?_eq_some_iff.1 hj).1;simpa using this
   rw[List.getElem?_map,List.getElem?_range hjl]at hj;exact⟨hjl,by simpa using hj.symm⟩
  refine⟨some a,cap,(List.range len).map r,by rw[hlen],by rw[hlen];omega,fun y hy=>?_,fun hN=>?_⟩
  ·obtain⟨j,hj⟩:=List.getElem?_of_mem hy
   obtain⟨hjl,rfl⟩:=hget j y hj;obtain⟨cs,h1,_⟩:=hr j hjl;exact⟨cs,h1⟩
  ·rw[hlen]at hN
   obtain⟨cs,hq,hc⟩:=hr 0 hN;have h00:=hc 0 h0;have hcl:=hQ cs _ hq;rw[List.getElem?_eq_getElem qo]at h00;obtain⟨g,o,rfl⟩:∃g o,a=⟨g,o,none⟩:=by
    rw[show a.add (0*C+0)=a by simp[Addr.add]]at h00;exact fL h00
   refine⟨g,o,rfl,by simpa [Addr.add_lit]using World.block_lt_of_cell? W _ h00,fun j y hj=>?_⟩;obtain⟨hjl,rfl⟩:=hget j y hj;obtain⟨cs,h1,h2⟩:=hr j hjl;refine⟨cs,h1,fun i hi=>?_⟩;have h3:=h2 i hi;rw[Addr.add_lit]at h3;rw[Nat.add_assoc];exact h3
theorem lZ {w:World}{A:Option Addr}{n:Nat}{z:Nat→Int}(h:Rd w A n (fun j=>.int .i64 (z j))):((List.range n).map z).length=n∧Rd w A n (fun j=>.int .i64 (((List.range n).map z).getD j 0)):=by
 refine⟨by simp,fun h0=>?_⟩;obtain⟨g,o,e,hg,hr⟩:=h h0;exact⟨g,o,e,hg,fun j hj=>by rw[hr j hj];simp[List.getD,hj]⟩
theorem mX {t e i:TypeId}{fuel:Nat}{u:Value}{x:DataW H×List MemPlace}(ht:P.underlying t=some (.slice e))(he:P.underlying e=some (.slice i))(hi:P.underlying i=some (.int .i64))(hC:P.cellsOf e=1)(hc:P.cellsOf i=1)
 (hf:DataW.trod enc P W 0 spare held fuel t [u]=some x):
 ∃(A:OA) (c:Nat) (Ls:List (List Int)),u=.slice A Ls.length c∧bD false W A Ls∧Ls.length≤maxLen∧∀L∈Ls,L.length≤maxLen:=by
 obtain⟨A,c,R,hu,hl,hb,hr⟩:=f5 (α:=List Int) (C:=1) (fun cs L=>∃B c,cs=[.slice B L.length c]∧aW W B L∧L.length≤maxLen) ht hC qo (fun cs r ⟨B,c,h,_⟩=>by rw[h];rfl)
  (fun m cs y h=>by
   obtain⟨v,rfl⟩:∃v,cs=[v]:=by
    rcases open_slice he h with⟨e,_⟩|⟨a,l,c,_,_,_,_,e,_⟩<;>exact⟨_,e⟩
   obtain⟨B,n,c,z,e,hz,hn,_⟩:=kF he hi hc h;obtain⟨h1,h2⟩:=lZ hz;exact⟨(List.range n).map z,B,c,by rw[e,h1],by unfold aW;rw[h1];exact h2,by rw[h1];exact hn⟩) hf
 refine⟨A,c,R,hu,fun h0=>?_,hl,fun L hL=>?_⟩
 ·obtain⟨g,o,e,hg,hr⟩:=hr h0
  refine⟨g,o,e,hg,fun j L hj=>?_⟩;obtain⟨cs,⟨B,c,hcs,hrd,_⟩,hcell⟩:=hr j L hj;have:=hcell 0 qo;rw[hcs,Nat.mul_one,Nat.add_zero]at this;exact⟨B,c,this,hrd,fun h=>by cases h⟩
 ·obtain⟨cs,B,c,_,_,h⟩:=hb L hL
  exact h
structure vW (f:aF):Prop where
 n:f.2.2.length≤maxLen
 l:∀L∈f.2.2,L.length≤maxLen
theorem mY {t e t2 e2 i:TypeId}{f0 f1 f2:Field}{fuel:Nat}{u:Value}{x:DataW H×List MemPlace}(ht:P.underlying t=some (.slice e))(he:P.underlying e=some (.struct #[f0,f1,f2]))(hone:oneCellFields P #[f0,f1,f2]=true)(hC:P.cellsOf e=3)
 (h0:P.underlying f0.type=some (.int .i64)) (h1:P.underlying f1.type=some (.int .i64)) (h2:f2.type=t2) (ht2:P.underlying t2=some (.slice e2)) (he2:P.underlying e2=some (.slice i)) (hi:P.underlying i=some (.int .i64)) (hC2:P.cellsOf e2=1) (hc:P.cellsOf i=1)
 (hf:DataW.trod enc P W 0 spare held fuel t [u]=some x):
 ∃(A:OA) (c:Nat) (F:List aF),u=.slice A F.length c∧d7 false W A F∧F.length≤maxLen∧∀f∈F,vW f:=by
 obtain⟨A,c,R,hu,hl,hb,hr⟩:=f5 (α:=aF) (C:=3) (fun cs f=>∃B c,cs=[.int .i64 f.1,.int .i64 f.2.1,.slice B f.2.2.length c]∧bD false W B f.2.2∧vW f) ht hC qo (fun cs r ⟨B,c,h,_⟩=>by rw[h];rfl)
  (fun m cs y h=>by
   obtain⟨xs,n,_,_,hcl,hxl,hfl⟩:=DataW.trod_struct he h;obtain⟨o0,k0⟩:=hone_of hone 0 f0 rfl;obtain⟨o1,k1⟩:=hone_of hone 1 f1 rfl;obtain⟨o2,k2⟩:=hone_of hone 2 f2 rfl
   match cs,hcl.trans hC,xs,hxl with
   |[c0,c1,c2],_,[y0,y1,y2],_=>
    have g0:=hfl 0 f0 rfl;have g1:=hfl 1 f1 rfl;have g2:=hfl 2 f2 rfl;rw[o0,k0]at g0;rw[o1,k1]at g1;rw[o2,k2]at g2;obtain⟨d,e0,_,_⟩:=DataW.trod_int h0 (show DataW.trod enc P W 0 spare held n f0.type [c0]=some y0 from g0);obtain⟨p,e1,_,_⟩:=DataW.trod_int h1 (show DataW.trod enc P W 0 spare held n f1.type [c1]=some y1 from g1);have g3:DataW.trod enc P W 0 spare held n f2.type [c2]=some y2:=g2;rw[h2]at g3;obtain⟨B,q,Ls,e3,hr,hl,hll⟩:=mX ht2 he2 hi hC2 hc g3
    simp at e0 e1
    subst e0 e1 e3;exact⟨(d,p,Ls),B,q,rfl,hr,hl,hll⟩) hf
 refine⟨A,c,R,hu,fun h0=>?_,hl,fun f hf=>?_⟩
 ·obtain⟨g,o,e,hg,hr⟩:=hr h0
  refine⟨g,o,e,hg,fun j f hj=>?_⟩;obtain⟨cs,⟨B,c,hcs,hrd,_⟩,hcell⟩:=hr j f hj;have k0:=hcell 0 qo;have k1:=hcell 1 qo;have k2:=hcell 2 qo;rw[hcs]at k0 k1 k2;exact⟨B,c,k0,k1,k2,hrd⟩
 ·obtain⟨cs,B,c,_,_,h⟩:=hb f hf
  exact h
theorem jK {t e i:TypeId}{fs:Array Field}{fuel:Nat}{u:Value}{x:DataW H×List MemPlace}(ht:P.underlying t=some (.slice e))(he:P.underlying e=some (.slice i))(hC:P.cellsOf e=1)(hi:P.underlying i=some (.struct fs))(hone:oneCellFields P fs=true)(xI:P.cellsOf i=fs.size)
 (hfs:fs.toList.map (fun f=>P.underlying f.type)=List.replicate 6 (some (.int .i64))) (hS:fs.size=6) (hf:DataW.trod enc P W 0 spare held fuel t [u]=some x):
 ∃(A:OA) (c:Nat) (S:List (List Int)),u=.slice A S.length c∧dI W A S∧S.length≤maxLen∧∀L∈S,L.length≤maxLen*6:=by
 obtain⟨A,c,R,hu,hl,hb,hr⟩:=f5 (α:=List Int) (C:=1) (fun cs L=>∃B m c,cs=[.slice B m c]∧L.length=m*6∧Rd W B (m*6) (fun i=>.int .i64 (L.getD i 0))∧m≤maxLen) ht hC qo (fun cs r ⟨B,m,c,h,_⟩=>by rw[h];rfl)
  (fun m cs y h=>by
   obtain⟨v,rfl⟩:∃v,cs=[v]:=by
    rcases open_slice he h with⟨e,_⟩|⟨a,l,c,_,_,_,_,e,_⟩<;>exact⟨_,e⟩
   obtain⟨B,n,c,z,e,hz,hn⟩:=kG he hi hone xI hfs hS qo h;obtain⟨h1,h2⟩:=lZ hz;exact⟨(List.range (n*6)).map z,B,n,c,by rw[e],h1,h2,hn⟩) hf
 refine⟨A,c,R,hu,fun h0=>?_,hl,fun L hL=>?_⟩
 ·obtain⟨g,o,e,hg,hr⟩:=hr h0
  refine⟨g,o,e,hg,fun j L hj=>?_⟩;obtain⟨cs,⟨B,m,c,hcs,hll,hrd,_⟩,hcell⟩:=hr j L hj;have:=hcell 0 qo;rw[hcs,Nat.mul_one,Nat.add_zero]at this;exact⟨B,m,c,this,hll,hrd⟩
 ·obtain⟨cs,B,m,c,_,h1,_,h2⟩:=hb L hL
  omega
end Go.Proofs.YtmnbgjnipbpiaaaGreatDoor
