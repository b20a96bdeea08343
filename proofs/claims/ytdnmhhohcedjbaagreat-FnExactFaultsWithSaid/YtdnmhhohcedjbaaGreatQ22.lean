/- Walks and plain lemmas. -/
import Derived.Test.YtdnmhhohcedjbaaGreatQ12
import Derived.Test.YtdnmhhohcedjbaaGreatRows
import Derived.Lib.SmallJoins
set_option linter.unusedVariables false
set_option linter.unusedSectionVars false
set_option linter.unusedSimpArgs false
set_option maxHeartbeats 40000000
set_option maxRecDepth 20000
namespace Go.Proofs.YtdnmhhohcedjbaaGreat
open Go.RowKit
theorem pT {P:Program}{o:Oper}{cond:Bool}{a:Act}{K:Act→World→Prop}{Q:Exit→Act→World→Prop}{E:Prop}(W:World)(hcond:cond=true)(s x:Operand)(t:TypeId)
 (ho:o.op=.call {callee:=.builtin .append,args:=#[s,x],argTypes:=#[t,t]})
 (base:Nat) (e:TypeId) (i:TypeInfo) (z:Value) (size bytes:Nat) (ht:P.underlying t=some (.slice e)) (hi:P.info? e=some i) (hz:i.zero=some z)
 (hsize:i.size=size) (hby:i.bytes=bytes) (hzs:z.cells.size=size) (hsz:0<size)
 (v:Value) (n:Nat) (xs:List Value) (hs:a.eval s=v) (hown:W.ownsRow base e size v n xs)
 (te:TypeId) (m c:Nat) (news:List Value) (hx:a.eval x=.slice (some ⟨W.heap.size,0,none⟩) m c) (hl:news.length=m*size) (h1:∀u∈news,u.oneCell'=true)
 (h63:n+m≤maxLen) (hbytes:(n+m)*bytes≤140737488355328) (hbase:base≤W.heap.size)
 (h:∀v' w',w'.ownsRow base e size v' (n+m) (xs++news)→Fr W w' (fun b=>v.ownBlock=some b)→(v'.ownBlock=v.ownBlock∨v'.ownBlock=some (W.heap.size+1))→K (a.put o.dst v') w'):
 if cond=true then Oper.wp P o a (W.alloc (.cells news.toArray te)) K Q else E:=by
 rw[if_pos hcond];have hn:=heap_alloc_new W (.cells news.toArray te);obtain⟨v',w',hr,h2,h3,_,h5⟩:=run_append_own_at (P:=P) (W.alloc (.cells news.toArray te)) base t o.type e i z size bytes ht hi hz hsize hby hzs hsz v n xs (hown.alloc _) ⟨W.heap.size,0,none⟩ m c news hl (by
  intro j u hu;rw[Addr.add_lit,cell_of_row _ _ _ _ _ _ hn]
  simpa using hu) h1 h63 hbytes (by simp;omega)
 unfold Oper.wp execOp
 simp only[ho,resolve,invoke,builtin,Sem.run_bind,Sem.run_pure,Result.andThen_ok,List.map_toArray,List.map_cons,List.map_nil,hs,hx,hr]
 refine h v' w' h2 ⟨h3.os,h3.tape,h3.output,Nat.le_trans qj h3.size,fun b hb hne=>?_⟩ (by simpa using h5);exact(h3.block b (by simp;omega) (fun e=>hne e.symm)).trans (Below.heap_alloc W _ b hb)
end Go.Proofs.YtdnmhhohcedjbaaGreat
namespace Go.Proofs.YtdnmhhohcedjbaaGreat
open Go.RowKit Go.Sort
theorem zQ22x0 {p:Prop}(h:p:=by
 go_quiet (first|(go_at_call 111;exact Calls.quiet_of_same (dF _ _))|(go_at_call 113;exact Calls.quiet_of_same (cQ _ _))|(go_at_call 31;exact Calls.quiet_of_same (dG _ _ _ _)))
 go_wp2_with fail
 go_ret
 exact⟨qr (by simp_all [aW]),Below.drewN' HL.o _⟩):p:=h
theorem zQ22x2 {p:Prop}(h:p:=by
 go_enter Tryz.func81,Tryz.ntmps81
 go_upto_region 14 with fail
 exact zQ22x0):p:=h
theorem Df (d fb fa tb ta c r:Int)(g o:Nat)(w:World)(H:Hq (oI w g o 7 d fb fa tb ta c r)):
 Calls Tryz.prog 81 #[.pointer (some ⟨g,o,none⟩)] w fun e w'=>e=.returned (.bool (aW 7 d fb fa tb ta c r))∧Below w.heap.size w w':=by
 have h0:=H.o.c0;have hg:=H.o.lt;have hL:=(Below.refl w.heap.size w).alloc ql (.cells #[.int .i64 0,.int .i64 0] 65);have HL:=qh hL;have HW:=qh (H.o.below hL);have k0:=HW.o.c0;have k1:=HW.o.c1;have k2:=HW.o.c2;have k3:=HW.o.c3;have k4:=HW.o.c4;have k5:=HW.o.c5;have k6:=HW.o.c6;have k7:=HW.o.c7;clear hL
 by_cases zd:d=0
 ·subst zd
  by_cases RJ:fb=0
  ·subst RJ
   by_cases RK:fa=0
   ·subst RK
    by_cases rP:tb=0
    ·subst rP
     by_cases rQ:ta=0
     ·subst rQ
      by_cases zc:c=0
      ·subst zc
       cases hRK:aK r (-3) 3
       ·go_enter Tryz.func81,Tryz.ntmps81
        go_upto_region 14 with fail
        exact zQ22x0
       ·go_enter Tryz.func81,Tryz.ntmps81
        go_upto_region 14 with fail
        exact zQ22x0
      ·have yc:(c==0)=false:=by simpa using zc
       exact zQ22x2
     ·have ou:(ta==0)=false:=by simpa using rQ
      exact zQ22x2
    ·have oh:(tb==0)=false:=by simpa using rP
     exact zQ22x2
   ·have yfa:(fa==0)=false:=by simpa using RK
    exact zQ22x2
  ·have yfb:(fb==0)=false:=by simpa using RJ
   exact zQ22x2
 ·have yd:(d==0)=false:=by simpa using zd
  exact zQ22x2
theorem zQ22x5 {p:Prop}(h:p:=by
 go_enter Tryz.func81,Tryz.ntmps81
 go_upto_region 16 with fail
 exact zQ22x0):p:=h
theorem Dc (d fb fa tb ta c r:Int)(g o:Nat)(w:World)(H:Hq (oI w g o 8 d fb fa tb ta c r)):
 Calls Tryz.prog 81 #[.pointer (some ⟨g,o,none⟩)] w fun e w'=>e=.returned (.bool (aW 8 d fb fa tb ta c r))∧Below w.heap.size w w':=by
 have h0:=H.o.c0;have hg:=H.o.lt;have hL:=(Below.refl w.heap.size w).alloc ql (.cells #[.int .i64 0,.int .i64 0] 65);have HL:=qh hL;have HW:=qh (H.o.below hL);have k0:=HW.o.c0;have k1:=HW.o.c1;have k2:=HW.o.c2;have k3:=HW.o.c3;have k4:=HW.o.c4;have k5:=HW.o.c5;have k6:=HW.o.c6;have k7:=HW.o.c7;clear hL
 by_cases RJ:fb=0
 ·subst RJ
  by_cases RK:fa=0
  ·subst RK
   by_cases rP:tb=0
   ·subst rP
    by_cases rQ:ta=0
    ·subst rQ
     by_cases zr:r=0
     ·subst zr
      cases hD:kA d
      ·go_enter Tryz.func81,Tryz.ntmps81
       go_upto_region 16 with fail
       exact zQ22x0
      ·cases hY:aK c 1 4
       ·go_enter Tryz.func81,Tryz.ntmps81
        go_upto_region 16 with fail
        exact zQ22x0
       ·go_enter Tryz.func81,Tryz.ntmps81
        go_upto_region 16 with fail
        exact zQ22x0
     ·have yr:(r==0)=false:=by simpa using zr
      exact zQ22x5
    ·have ou:(ta==0)=false:=by simpa using rQ
     exact zQ22x5
   ·have oh:(tb==0)=false:=by simpa using rP
    exact zQ22x5
  ·have yfa:(fa==0)=false:=by simpa using RK
   exact zQ22x5
 ·have yfb:(fb==0)=false:=by simpa using RJ
  exact zQ22x5
theorem zQ22x3 {p:Prop}(h:p:=by
 go_enter Tryz.func81,Tryz.ntmps81
 go_upto_region 18 with fail
 exact zQ22x0):p:=h
theorem Db (d fb fa tb ta c r:Int)(g o:Nat)(w:World)(H:Hq (oI w g o 9 d fb fa tb ta c r)):
 Calls Tryz.prog 81 #[.pointer (some ⟨g,o,none⟩)] w fun e w'=>e=.returned (.bool (aW 9 d fb fa tb ta c r))∧Below w.heap.size w w':=by
 have h0:=H.o.c0;have hg:=H.o.lt;have hL:=(Below.refl w.heap.size w).alloc ql (.cells #[.int .i64 0,.int .i64 0] 65);have HL:=qh hL;have HW:=qh (H.o.below hL);have k0:=HW.o.c0;have k1:=HW.o.c1;have k2:=HW.o.c2;have k3:=HW.o.c3;have k4:=HW.o.c4;have k5:=HW.o.c5;have k6:=HW.o.c6;have k7:=HW.o.c7;clear hL
 by_cases zd:d=0
 ·subst zd
  by_cases RJ:fb=0
  ·subst RJ
   by_cases RK:fa=0
   ·subst RK
    by_cases rP:tb=0
    ·subst rP
     by_cases rQ:ta=0
     ·subst rQ
      by_cases zr:r=0
      ·subst zr
       cases hY:aK c 1 4
       ·go_enter Tryz.func81,Tryz.ntmps81
        go_upto_region 18 with fail
        exact zQ22x0
       ·go_enter Tryz.func81,Tryz.ntmps81
        go_upto_region 18 with fail
        exact zQ22x0
      ·have yr:(r==0)=false:=by simpa using zr
       exact zQ22x3
     ·have ou:(ta==0)=false:=by simpa using rQ
      exact zQ22x3
    ·have oh:(tb==0)=false:=by simpa using rP
     exact zQ22x3
   ·have yfa:(fa==0)=false:=by simpa using RK
    exact zQ22x3
  ·have yfb:(fb==0)=false:=by simpa using RJ
   exact zQ22x3
 ·have yd:(d==0)=false:=by simpa using zd
  exact zQ22x3
end Go.Proofs.YtdnmhhohcedjbaaGreat
namespace Go.Proofs.YtdnmhhohcedjbaaGreat
open Go.RowKit
def pX (s x:Int):Bool:=decide (x≠0)&&aK x (1-s) (s-1)
def jS (s:Int)(z:Nat→Int):Nat→Bool
 |0=>true
 |k+1=>jS s z k&&pX s (z k)
theorem DK {s:Int}{z:Nat→Int}:∀{n k:Nat},k<n→pX s (z k)=false→jS s z n=false
 |0,k,hk,_=>absurd hk qo
 |n+1,k,hk,h=>by
  rcases Nat.lt_or_ge k n with hlt|hge
  ·simp[jS,DK hlt h]
  ·obtain rfl:k=n:=qo
   simp[jS,h]
def DY (s:Int)(n:Nat)(z:Nat→Int):Bool:=aK s 0 12&&decide (n≤40)&&jS s z n
theorem xO (n:Int)(w:World):
 Calls Tryz.prog 174 #[.int .i64 n] w fun e w'=>e=.returned (.bool (aK n 0 12))∧w=w':=by
 go_enter Tryz.func174,Tryz.ntmps174
 go_wp2_with ((go_at_call 37;refine(eB _ _ _ _).mono ?_;rintro e w' ⟨rfl,rfl⟩))
 go_ret
 exact⟨rfl,rfl⟩
theorem I3 (g:Nat)(s x:Int)(w:World)(h0:w.cell? ⟨g,0,none⟩=some (.int .i64 s))(hs0:0≤s)(hs:s≤1000000):
 Calls Tryz.prog 197 #[.int .i64 x,.pointer (some ⟨g,0,none⟩)] w fun e w'=>e=.returned (.bool (!pX s x))∧w=w':=by
 by_cases hz:x=0
 ·subst hz
  go_enter Tryz.func197,Tryz.ntmps197
  go_wp2_with ((go_at_call 37;refine(eB _ _ _ _).mono ?_;rintro e w' ⟨rfl,rfl⟩))
  go_ret
  exact⟨by simp[pX],rfl⟩
 ·have hz':(x==0)=false:=by simpa using hz
  go_enter Tryz.func197,Tryz.ntmps197
  go_wp2_with ((go_at_call 37;refine(eB _ _ _ _).mono ?_;rintro e w' ⟨rfl,rfl⟩))
  all_goals go_ret
  all_goals exact⟨by simp[pX,hz],rfl⟩
def ah1 (w:World)(b:Bool)(e:Ending)(w':World):Prop:=∃r:Int,e=.returned (.int .i64 r)∧(r= -1∧b=true∨0≤r∧b=false)∧w=w'
theorem QV (g:Nat)(A:OA)(n c:Nat)(s:Int)(z:Nat→Int)(w:World)(h0:w.cell? ⟨g,0,none⟩=some (.int .i64 s))(ha:Rd w A n (fun j=>.int .i64 (z j)))(hn:n≤1048576)(hs0:0≤s)(hs:s≤1000000):
 Calls Tryz.prog 212 #[.slice A n c,.func (.func 197) #[] #[.pointer (some ⟨g,0,none⟩)]] w (ah1 w (jS s z n)):=by
 have HA:=qh ha;have H0:=qh h0;clear ha h0
 go_enter Tryz.func212,Tryz.ntmps212
 go_wp2_with fail
 go_loop [8] (fun i=>∃k:Nat,k≤n∧i=.int .i64 k∧Hq (jS s z k=true)) (fun i=>n-(intOf i).toNat)
 case atStart=>exact⟨0,Nat.zero_le _,rfl,rfl⟩
 case round=>
  obtain⟨k,hk,rfl,HK⟩:=hrel
  by_cases hlt:k<n
  ·obtain⟨ga,o,rfl,hg,hr⟩:=HA.o qo
   have hc:=hr k hlt;clear hr;obtain⟨x,hx⟩:=qx (z k)
   simp only[←hx]at hc
   have hq:∀b,pX s x=b→pX s (z k)=b:=fun b h=>by rw[←hx];exact h
   have HQ:=qh hq;clear hq hx
   cases hl:pX s x
   ·have HL:=qh hl
    clear hl
    go_wp2_with ((go_at_call 197;refine(I3 g s x _ H0.o hs0 hs).mono ?_;rintro e w' ⟨rfl,rfl⟩;rw[HL.o]))
    go_ret
    exact⟨_,rfl,.inr ⟨by omega,DK hlt (HQ.o false HL.o)⟩,rfl⟩
   ·have HL:=qh hl
    clear hl
    go_wp2_with ((go_at_call 197;refine(I3 g s x _ H0.o hs0 hs).mono ?_;rintro e w' ⟨rfl,rfl⟩;rw[HL.o]))
    go_round
    case rel=>exact⟨k+1,by omega,qg,by unfold Hq;simp only[jS];rw[HK.o,HQ.o true HL.o];rfl⟩
    case measure=>exact qs
  ·obtain rfl:n=k:=qo
   go_wp2
   go_ret
   exact⟨_,rfl,.inl ⟨rfl,HK.o⟩,rfl⟩
theorem GL (g:Nat)(A:OA)(n c:Nat)(s:Int)(z:Nat→Int)(w:World)(h0:w.cell? ⟨g,0,none⟩=some (.int .i64 s))(ha:Rd w A n (fun j=>.int .i64 (z j)))(hn:n≤1048576)(hs0:0≤s)(hs:s≤1000000):
 Calls Tryz.prog 196 #[.slice A n c,.func (.func 197) #[] #[.pointer (some ⟨g,0,none⟩)]] w fun e w'=>e=.returned (.bool (!jS s z n))∧w=w':=by
 go_enter Tryz.func196,Tryz.ntmps196
 go_wp2_with fail
 refine(QV g A n c s z _ h0 ha hn hs0 hs).mono ?_;rintro e w' ⟨r,rfl,h,rfl⟩
 rcases h with⟨rfl,hb⟩|⟨hr,hb⟩
 ·have HB:=qh hb
  clear hb
  go_wp2
  go_ret
  exact⟨by rw[HB.o];rfl,rfl⟩
 ·have HB:=qh hb
  clear hb;have hr':decide (0≤r)=true:=by simpa using hr
  go_wp2
  go_ret
  exact⟨by rw[HB.o];simp,rfl⟩
theorem R8 (A:OA)(n c:Nat)(s:Int)(z:Nat→Int)(w:World)(ha:Rd w A n (fun j=>.int .i64 (z j)))(hn:n≤1048576)(hs0:0≤s)(hs:s≤1000000):
 Calls Tryz.prog 175 #[.int .i64 s,.slice A n c] w fun e w'=>e=.returned (.bool (jS s z n))∧Below w.heap.size w w':=by
 go_enter Tryz.func175,Tryz.ntmps175
 go_wp2_with fail
 have hb:Below w.heap.size w (w.alloc (.cells #[.int .i64 s] 2)):=qb;refine(GL w.heap.size A n c s z _ (rH rfl 0) (ha.below hb) hn hs0 hs).mono ?_;rintro e w' ⟨rfl,rfl⟩;have HB:=qh hb;clear hb
 go_wp2_with fail
 go_ret
 exact⟨by simp,HB.o⟩
theorem DE (s:Int)(A:OA)(n c:Nat)(z:Nat→Int)(w:World)(ha:Rd w A n (fun j=>.int .i64 (z j)))(hn:n≤1048576):
 Calls Tryz.prog 146 #[.agg #[.int .i64 s,.slice A n c]] w fun e w'=>e=.returned (.bool (DY s n z))∧Below w.heap.size w w':=by
 have hb:Below w.heap.size w (w.alloc (.cells #[.int .i64 s,.slice A n c] 111)):=qb;have HA:=qh (ha.below hb);have HB:=qh hb;clear ha hb
 cases hin:aK s 0 12
 ·have iK:=qh hin
  clear hin
  go_enter Tryz.func146,Tryz.ntmps146
  go_wp2_with ((go_at_call 174;refine(xO _ _).mono ?_;rintro e w' ⟨rfl,rfl⟩;rw[iK.o]))
  go_ret
  exact⟨by simp[DY,iK.o],HB.o⟩
 ·have hsb:=EX hin
  have iK:=qh hin;clear hin
  by_cases hle:n≤40
  ·have hle':decide ((n:Int)≤40)=true:=by simp;omega
   go_enter Tryz.func146,Tryz.ntmps146
   go_wp2_with (first
    |(go_at_call 174;refine(xO _ _).mono ?_;rintro e w' ⟨rfl,rfl⟩;rw[iK.o])
    |(go_at_call 175;refine(R8 A n c s z _ HA.o hn hsb.1 qo).mono ?_;rintro e w1 ⟨rfl,hb1⟩;have HB1:=HB.st hb1;clear hb1)
    |fail)
   go_ret
   exact⟨by simp[DY,iK.o,hle],HB1.o⟩
  ·have hle':decide ((n:Int)≤40)=false:=by simp;omega
   go_enter Tryz.func146,Tryz.ntmps146
   go_wp2_with ((go_at_call 174;refine(xO _ _).mono ?_;rintro e w' ⟨rfl,rfl⟩;rw[iK.o]))
   go_ret
   exact⟨by simp[DY,iK.o,hle],HB.o⟩
end Go.Proofs.YtdnmhhohcedjbaaGreat
namespace Go.Proofs.YtdnmhhohcedjbaaGreat
open Go.RowKit
theorem vC {B:Nat}{w w':World}{e:TypeId}{size n:Nat}{v:Value}{xs:List Value}(ho:w.ownsRow B e size v n xs)(h:∀b,v.ownBlock=some b→w'.heap[b]?=w.heap[b]?):w'.ownsRow B e size v n xs:=by
 refine⟨ho.1,?_⟩
 rcases ho.2 with hn|⟨g,cap,cur,rfl,hb,hgg,rest⟩
 ·exact .inl hn
 ·exact .inr ⟨g,cap,cur,rfl,hb,(h g rfl).trans hgg,rest⟩
def YT (tg:Nat→Nat)(v:Value)(c:Nat):Prop:=∀b,v.ownBlock=some b→tg b=c
def Gd (B:Nat)(tg:Nat→Nat)(c:Nat)(w:World)(u:Value)(L:List Int):Prop:=(∃A k,u=.slice A 0 k∧L=[])∨(w.ownsRow B 2 1 u L.length (ints L)∧YT tg u c)
structure fJ where
 P:World→Prop
 F:Nat→Prop
 loc:∀w w',P w→(∀b,F b→w'.heap[b]?=w.heap[b]?)→P w'
structure fE [Inhabited fJ](T:TypeId)(mk:Value→Value→Array Value)(B g:Nat)(tg:Nat→Nat)(ev cl:Value)(n q:Nat)(E:List Int)(U:Nat→Value)(C:Nat→List Int)(w:World):Prop where
 b:aB w g T (mk ev cl)
 e:w.ownsRow B 91 6 ev n (ints E)
 c:w.ownsRow B 34 1 cl q ((List.range q).map U)
 u:∀i,i<q→Gd B tg (4+i) w (U i) (C i)
 tb:tg g=1
 te:YT tg ev 2
 tc:YT tg cl 3
 lt:∀b,tg b≠0→b<w.heap.size
 lo:B≤g
 k:(default:fJ).P w
 kf:∀b,(default:fJ).F b→tg b=1∧b≠g
def PG [Inhabited fJ](T:TypeId)(mk:Value→Value→Array Value)(B g q:Nat)(E:List Int)(C:Nat→List Int)(w:World):Prop:=∃tg ev cl n U,fE T mk B g tg ev cl n q E U C w
section
variable {tg:Nat→Nat}{u v:Value}{c x:Nat}{B:Nat}{w w':World}{L:List Int}
theorem Gd.blk (h:Gd B tg x w u L)(hk:∀b,tg b=x→w'.heap[b]?=w.heap[b]?):Gd B tg x w' u L:=by
 rcases h with h|⟨h1,h2⟩
 ·exact .inl h
 ·exact .inr ⟨vC h1 fun b hb=>hk b (h2 b hb),h2⟩
end
theorem Lh (w:World)(p:Addr)(v:Value)(b:Nat)(h:b≠p.block):(w.setCell p v).heap[b]?=w.heap[b]?:=Below.heap_setCell w p v b h
theorem Lg (w:World)(p:Addr)(v:Value):(w.setCell p v).heap.size=w.heap.size:=by simp[World.setCell]
section
variable [Inhabited fJ]{T:TypeId}{mk:Value→Value→Array Value}{B g:Nat}{tg:Nat→Nat}{ev cl:Value}{n q:Nat}{E:List Int}{U:Nat→Value}{C:Nat→List Int}{w w':World}
theorem fE.same (h:fE T mk B g tg ev cl n q E U C w)(hk:∀b,tg b≠0→w'.heap[b]?=w.heap[b]?)(hz:w.heap.size≤w'.heap.size):fE T mk B g tg ev cl n q E U C w' where
 b:=(hk g (by rw[h.tb];omega)).trans h.b
 e:=vC h.e fun b hb=>hk b (by rw[h.te b hb];omega)
 c:=vC h.c fun b hb=>hk b (by rw[h.tc b hb];omega)
 u:=fun i hi=>(h.u i hi).blk fun b hb=>hk b qo
 tb:=h.tb
 te:=h.te
 tc:=h.tc
 lt:=fun b hb=>Nat.lt_of_lt_of_le (h.lt b hb) hz
 lo:=h.lo
 k:=fJ.loc _ _ _ h.k fun b hb=>hk b (by rw[(h.kf b hb).1];omega)
 kf:=h.kf
theorem fE.below (h:fE T mk B g tg ev cl n q E U C w)(hb:Below w.heap.size w w'):fE T mk B g tg ev cl n q E U C w':=h.same (fun b ht=>hb.block b (h.lt b ht)) hb.size
theorem fE.drewN (h:fE T mk B g tg ev cl n q E U C w)(k:Nat):fE T mk B g tg ev cl n q E U C (w.drewN k):=h.same (fun _ _=>rfl) ql
theorem fE.gA {gi cap:Nat}(h:fE T mk B g tg ev cl n q E U C w){i k:Nat}(hi:i<q)(hU:U i=.slice (some ⟨gi,0,none⟩) (C i).length cap)(hk:k<(C i).length)(x:Int):
 fE T mk B g tg ev cl n q E U (fun j=>if j=i then(C i).set k x else C j) (w.setCell ⟨gi,k,none⟩ (.int .i64 x)):=by
 have hc:=h.u i hi;rw[hU]at hc
 rcases hc with⟨A,c,e,hL⟩|⟨ho,ht⟩
 ·rw[hL]at hk
  simp at hk
 have hgi:tg gi=4+i:=ht gi rfl;have hkp:∀b,tg b≠4+i→(w.setCell ⟨gi,k,none⟩ (.int .i64 x)).heap[b]?=w.heap[b]?:=fun b hb=>Lh _ _ _ _ (by rintro rfl;exact hb hgi);refine⟨(hkp g (by rw[h.tb];omega)).trans h.b,vC h.e fun b hb=>hkp b (by rw[h.te b hb];omega),vC h.c fun b hb=>hkp b (by rw[h.tc b hb];omega),fun j hj=>?_,h.tb,h.te,h.tc,fun b hb=>by rw[Lg];exact h.lt b hb,h.lo,fJ.loc _ _ _ h.k fun b hb=>hkp b (by rw[(h.kf b hb).1];omega),h.kf⟩
 by_cases hji:j=i
 ·subst hji
  simp only[if_true]
  refine .inr ⟨?_,by rw[hU];exact ht⟩;have:=(ho.stored k (.int .i64 x)).1;rw[hU,List.length_set];have h2:ints ((C j).set k x)=(ints (C j)).set k (.int .i64 x):=by simp[ints,List.map_set]
  rw[h2];exact this
 ·simp only[if_neg hji]
  exact(h.u j hj).blk fun b hb=>hkp b qo
theorem fE.cellAt {gc cap:Nat}(h:fE T mk B g tg ev (.slice (some ⟨gc,0,none⟩) q cap) n q E U C w){i:Nat}(hi:i<q):w.cell? ⟨gc,i,none⟩=some (U i):=by
 rw[h.c.cellAt i qo]
 simp[hi]
theorem fE.form (h:fE T mk B g tg ev cl n q E U C w)(hq:0<q):∃gc cap,cl=.slice (some ⟨gc,0,none⟩) q cap:=by
 rcases h.c.2 with⟨_,h0⟩|⟨gc,cap,_,rfl,_⟩
 ·omega
 ·exact⟨gc,cap,rfl⟩
theorem fE.len (h:fE T mk B g tg ev cl n q E U C w):E.length=6*n:=by
 have:=h.e.1
 simp[ints]at this
 omega
theorem fE.read (h:fE T mk B g tg ev cl n q E U C w){i:Nat}(hi:i<q):∃A c,U i=.slice A (C i).length c∧Rd w A (C i).length (fun j=>.int .i64 ((C i).getD j 0)):=by
 rcases h.u i hi with⟨A,c,e,hL⟩|⟨ho,_⟩
 ·refine⟨A,c,?_,?_⟩
  ·rw[e,hL];rfl
  ·rw[hL]
   intro h0
   simp at h0
 ·obtain⟨A,c,e⟩:=aF ho
  refine⟨A,c,e,fun h0=>?_⟩;rw[e]at ho
  rcases ho.2 with⟨_,h1⟩|⟨g',cap,_,hg,_⟩
  ·omega
  injection hg with hA _ hc;subst hA;refine⟨g',0,rfl,(ho.lt g' rfl).2,fun j hj=>?_⟩;rw[Nat.zero_add,ho.cellAt j qo]
  simp[ints,List.getD,hj]
end
instance kN:Inhabited fJ:=⟨⟨fun _=>True,fun _=>False,fun _ _ _ _=>trivial⟩⟩
open Classical in
theorem PG.keep {T:TypeId}{mk:Value→Value→Array Value}{B g q:Nat}{E:List Int}{C:Nat→List Int}{w w':World}(h:@PG kN T mk B g q E C w)(hb:Below w.heap.size w w')(K:Inhabited fJ)(hk:K.default.P w')(hf:∀b,K.default.F b→w.heap.size≤b∧b<w'.heap.size):@PG K T mk B g q E C w':=by
 obtain⟨tg,ev,cl,n,U,H⟩:=h;have hlt:=@fE.lt kN _ _ _ _ _ _ _ _ _ _ _ _ _ H;have hH:=@fE.below kN _ _ _ _ _ _ _ _ _ _ _ _ _ _ H hb;have h0:∀b,K.default.F b→tg b=0:=fun b hb=>Decidable.byContradiction fun hn=>by have:=hlt b hn;have:=(hf b hb).1;omega
 have hold:∀b,tg b≠0→(if K.default.F b then 1 else tg b)=tg b:=fun b hb=>if_neg fun hF=>hb (h0 b hF);have htag:∀(v:Value) (c:Nat),c≠0→YT tg v c→YT (fun b=>if K.default.F b then 1 else tg b) v c:=fun v c hc hv b hb=>by
  have:=hv b hb;exact(hold b qo).trans this
 refine⟨fun b=>if K.default.F b then 1 else tg b,ev,cl,n,U,?_⟩;have hb1:=@fE.b kN _ _ _ _ _ _ _ _ _ _ _ _ _ hH;have he1:=@fE.e kN _ _ _ _ _ _ _ _ _ _ _ _ _ hH;have hc1:=@fE.c kN _ _ _ _ _ _ _ _ _ _ _ _ _ hH;have hu1:=@fE.u kN _ _ _ _ _ _ _ _ _ _ _ _ _ hH;have htb:=@fE.tb kN _ _ _ _ _ _ _ _ _ _ _ _ _ hH;have hte:=@fE.te kN _ _ _ _ _ _ _ _ _ _ _ _ _ hH;have htc:=@fE.tc kN _ _ _ _ _ _ _ _ _ _ _ _ _ hH;have hlt2:=@fE.lt kN _ _ _ _ _ _ _ _ _ _ _ _ _ hH;have hlo:=@fE.lo kN _ _ _ _ _ _ _ _ _ _ _ _ _ hH;refine @fE.mk K _ _ _ _ _ _ _ _ _ _ _ _ _ hb1 he1 hc1 (fun i hi=>?_) ((hold g qo).trans htb) (htag _ _ qo hte) (htag _ _ qo htc) (fun b hb=>?_) hlo hk (fun b hb=>⟨if_pos hb,fun e=>?_⟩)
 ·rcases hu1 i hi with h|⟨h1,h2⟩
  ·exact .inl h
  ·exact .inr ⟨h1,htag _ _ qo h2⟩
 ·by_cases hF:K.default.F b
  ·exact(hf b hF).2
  ·rw[if_neg hF]at hb
   exact hlt2 b hb
 ·have:=h0 b hb
  rw[e]at this;omega
theorem fE.free (K:Inhabited fJ){T:TypeId}{mk:Value→Value→Array Value}{B g:Nat}{tg:Nat→Nat}{ev cl:Value}{n q:Nat}{E:List Int}{U:Nat→Value}{C:Nat→List Int}{w:World}(h:@fE K T mk B g tg ev cl n q E U C w):@fE kN T mk B g tg ev cl n q E U C w:=
 @fE.mk kN _ _ _ _ _ _ _ _ _ _ _ _ _ (@fE.b K _ _ _ _ _ _ _ _ _ _ _ _ _ h) (@fE.e K _ _ _ _ _ _ _ _ _ _ _ _ _ h) (@fE.c K _ _ _ _ _ _ _ _ _ _ _ _ _ h) (@fE.u K _ _ _ _ _ _ _ _ _ _ _ _ _ h) (@fE.tb K _ _ _ _ _ _ _ _ _ _ _ _ _ h) (@fE.te K _ _ _ _ _ _ _ _ _ _ _ _ _ h) (@fE.tc K _ _ _ _ _ _ _ _ _ _ _ _ _ h) (@fE.lt K _ _ _ _ _ _ _ _ _ _ _ _ _ h) (@fE.lo K _ _ _ _ _ _ _ _ _ _ _ _ _ h) trivial (fun _ hb=>hb.elim)
theorem PG.free (K:Inhabited fJ){T:TypeId}{mk:Value→Value→Array Value}{B g q:Nat}{E:List Int}{C:Nat→List Int}{w:World}(h:@PG K T mk B g q E C w):@PG kN T mk B g q E C w∧K.default.P w:=by
 obtain⟨tg,ev,cl,n,U,H⟩:=h;exact⟨⟨tg,ev,cl,n,U,fE.free K H⟩,@fE.k K _ _ _ _ _ _ _ _ _ _ _ _ _ H⟩
end Go.Proofs.YtdnmhhohcedjbaaGreat
namespace Go.Proofs.YtdnmhhohcedjbaaGreat
open Go.RowKit
def G6 (L:List Int):Prop:=L.length≤1000∧∀x∈L,0≤x∧x≤1000
theorem G6.take {L:List Int}(h:G6 L)(k:Nat):G6 (L.take k):=⟨by have:=h.1;simp;omega,fun x hx=>h.2 x (List.mem_of_mem_take hx)⟩
theorem G6.drop {L:List Int}(h:G6 L)(k:Nat):G6 (L.drop k):=⟨by have:=h.1;simp;omega,fun x hx=>h.2 x (List.mem_of_mem_drop hx)⟩
theorem G6.sum {L:List Int}(h:G6 L):0≤oE L∧oE L≤1000000:=by
 have h1:=KC h.2;have h2:=h.1;omega
theorem G6.get {L:List Int}(h:G6 L)(k:Nat):0≤L.getD k 0∧L.getD k 0≤1000:=by
 by_cases hk:k<L.length
 ·have:=h.2 L[k] (List.getElem_mem hk)
  simp only[List.getD,List.getElem?_eq_getElem hk,Option.getD_some]
  exact this
 ·simp[List.getD,List.getElem?_eq_none (Nat.le_of_not_lt hk)]
def adO (C:Nat→List Int)(q:Nat):Prop:=q≤1000∧∀i,i<q→G6 (C i)
theorem adO.eA {C:Nat→List Int}{q:Nat}(h:adO C q){i:Nat}(hi:i≤q):0≤AS C i∧AS C i≤1000000000:=by
 have h1:=acK (C:=C) (q:=i) (b:=1000000) fun j hj=>(h.2 j qo).sum;have:=h.1;omega
section
variable [Inhabited fJ]{B g:Nat}{tg:Nat→Nat}{ev cl:Value}{n q:Nat}{E:List Int}{U:Nat→Value}{C:Nat→List Int}{w:World}
end
structure Fp (w:World)(g o:Nat)(d c:Int)(A:OA)(n q:Nat):Prop where
 c0:w.cell? ⟨g,o,none⟩=some (.int .i64 d)
 c1:w.cell? ⟨g,o+1,none⟩=some (.int .i64 c)
 c2:w.cell? ⟨g,o+2,none⟩=some (.slice A n q)
theorem Fp.below {w w':World}{g o:Nat}{d c:Int}{A:Option Addr}{n q:Nat}(h:Fp w g o d c A n q)(hb:Below w.heap.size w w'):Fp w' g o d c A n q:=by
 have hg:g<w.heap.size:=World.block_lt_of_cell? w _ h.c0;exact⟨AT hb hg h.c0,AT hb hg h.c1,AT hb hg h.c2⟩
section
variable [Inhabited fJ]{B g:Nat}{tg:Nat→Nat}{ev cl:Value}{n q:Nat}{E:List Int}{U:Nat→Value}{C:Nat→List Int}{w:World}
end
section
variable [Inhabited fJ]{B g q:Nat}{E:List Int}{C:Nat→List Int}{w:World}
end
section
variable [Inhabited fJ]{B g q:Nat}{E:List Int}{C:Nat→List Int}{w:World}
end
theorem fE.drew [Inhabited fJ]{T:TypeId}{mk:Value→Value→Array Value}{B g:Nat}{tg:Nat→Nat}{ev cl:Value}{n q:Nat}{E:List Int}{U:Nat→Value}{C:Nat→List Int}{w:World}(h:fE T mk B g tg ev cl n q E U C w):fE T mk B g tg ev cl n q E U C w.drew:=h.same (fun _ _=>rfl) ql
section
variable [Inhabited fJ]{B g q:Nat}{E:List Int}{C:Nat→List Int}{w:World}
end
section
variable [Inhabited fJ]{B g q:Nat}{E:List Int}{C:Nat→List Int}{w:World}
end
section
variable [Inhabited fJ]{B g q:Nat}{E:List Int}{C:Nat→List Int}{w:World}
end
theorem Ro (s:Int)(l m:List Int):oF s (l++m)=oF s l++oF s m:=List.map_append
theorem jk (s:Int)(l:List Int):(oF s l).length=l.length:=List.length_map _
section
variable [Inhabited fJ]{B g q:Nat}{E:List Int}{C:Nat→List Int}{w:World}
end
section
variable [Inhabited fJ]{B g q:Nat}{E:List Int}{C:Nat→List Int}{w:World}
end
section
variable [Inhabited fJ]{B g q:Nat}{E:List Int}{C:Nat→List Int}{w:World}
end
structure RA (B:Nat)(z:Nat→Int)(v:Value)(t:Nat)(As:Nat→OA)(cs:Nat→Nat)(w:World):Prop where
 own:w.ownsRow B 34 1 v t ((List.range t).map fun j=>.slice (As j) (GT (z j)) (cs j))
 rd:∀j,j<t→Rd w (As j) (GT (z j)) (fun x=>.int .i64 ((qJ z j:Int)+x))
 far:∀j,j<t→∀b,Fb (As j) (GT (z j)) b→B≤b∧b<w.heap.size∧¬v.ownBlock=some b
theorem RA.below {B:Nat}{z:Nat→Int}{v:Value}{t:Nat}{As:Nat→Option Addr}{cs:Nat→Nat}{w w':World}(h:RA B z v t As cs w)(hb:Below w.heap.size w w'):RA B z v t As cs w':=
 ⟨own_below h.own hb,fun j hj=>(h.rd j hj).below hb,fun j hj b hF=>⟨(h.far j hj b hF).1,Nat.lt_of_lt_of_le (h.far j hj b hF).2.1 hb.size,(h.far j hj b hF).2.2⟩⟩
theorem PG.congr [Inhabited fJ]{T:TypeId}{mk:Value→Value→Array Value}{B g q:Nat}{E:List Int}{C D:Nat→List Int}{w:World}(h:PG T mk B g q E C w)(hc:∀i,i<q→C i=D i):PG T mk B g q E D w:=by
 obtain⟨tg,ev,cl,n,U,H⟩:=h;exact⟨tg,ev,cl,n,U,⟨H.b,H.e,H.c,fun i hi=>by rw[←hc i hi];exact H.u i hi,H.tb,H.te,H.tc,H.lt,H.lo,H.k,H.kf⟩⟩
structure nY (s z:Nat→Int)(n m:Nat):Prop where
 hz:∀j,j<m→1≤z j∧z j≤11
 hs:∀j,j<n→1≤s j∧s j≤4
 m8:m≤8
 n8:n≤8
 t:qJ z m=n
theorem nY.of {s z:Nat→Int}{n m:Nat}(h:Wh s n z m=0):nY s z n m:=by
 obtain⟨h1,h2,h3,h4,_⟩:=Qv h;have hz:=(VH h2).2;refine⟨hz,(NG h1).2,?_,(NG h1).1,h3⟩;have:∀i,i≤m→i≤LM z i:=by
  intro i hi
  induction i with
  |zero=>omega
  |succ i ih=>
   have h1:=ih qo;have h0:=hz i qo;have h2:1≤Jo (z i):=by
    unfold Jo
    repeat' split
    all_goals omega
   simp only[LM]
   omega
 have:=this m ql;omega
section
variable {s z:Nat→Int}{n m:Nat}
theorem nY.seg (h:nY s z n m){i:Nat}(hi:i<m):(∀x∈seg s z i,1≤x∧x≤4)∧(seg s z i).length≤4:=by
 refine⟨fun x hx=>?_,by rw[seg_length];exact Hr _⟩;unfold Go.Proofs.YtdnmhhohcedjbaaGreat.seg at hx;obtain⟨t,ht,rfl⟩:=List.mem_map.1 hx;have h1:=List.mem_range.1 ht;have h2:=Ie z (show i+1≤m by omega);have h3:=h.t
 simp only[qJ]at h2
 exact h.hs _ qo
theorem nY.vI (h:nY s z n m){i:Nat}(hi:i<m):(∀x∈vI s z i,1≤x∧x≤4)∧(vI s z i).length≤4:=⟨fun x hx=>(h.seg hi).1 x (abf hx),by rw[nu];exact Hr _⟩
theorem Er {k:Int}{L:List Int}(h:(∀x∈L,1≤x∧x≤4)∧L.length≤4):(∀x∈Es k L,1≤x∧x≤5)∧(Es k L).length≤4:=by
 have h0:∀x∈L,1≤x∧x≤5:=fun x hx=>by have:=h.1 x hx;omega
 have h1:1≤L.getD 0 0+1∧L.getD 0 0+1≤5:=by
  cases L with
  |nil=>simp
  |cons x L=>have:=h.1 x List.mem_cons_self;simp;omega
 have h2:=h.2;unfold Es
 repeat' split
 ·exact⟨fun x hx=>by have:=List.mem_singleton.1 hx;omega,by simp⟩
 ·refine⟨fun x hx=>?_,by simpa using h2⟩
  rcases List.mem_or_eq_of_mem_set hx with hx|rfl
  ·exact h0 x hx
  ·exact h1
 ·exact⟨h0,h2⟩
 ·exact⟨fun x hx=>by have:=(List.mem_replicate.1 hx).2;omega,by simpa using h2⟩
theorem nY.R6 (h:nY s z n m){d:Int}{t i:Nat}(hi:i<m):(∀x∈R6 s z d m t i,1≤x∧x≤5)∧(R6 s z d m t i).length≤4:=by
 unfold Go.Proofs.YtdnmhhohcedjbaaGreat.R6
 split
 ·exact Er (h.vI hi)
 ·exact⟨fun x hx=>by have:=(h.vI hi).1 x hx;omega,(h.vI hi).2⟩
theorem RV {L:List Int}(h:(∀x∈L,1≤x∧x≤5)∧L.length≤4):G6 L∧0≤oE L∧oE L≤20:=by
 have h1:=KC (l:=L) (b:=5) fun x hx=>by have:=h.1 x hx;omega
 have h2:=h.2;exact⟨⟨by omega,fun x hx=>by have:=h.1 x hx;omega⟩,by omega,by omega⟩
theorem mg {p k:Int}{L:List Int}(h:(∀x∈L,1≤x∧x≤4)∧L.length≤4):(Tv p k L).length≤2400:=by
 unfold Tv
 split
 ·simp
 ·rw[UT,EK]
  have h1:=(RV (L:=L.take (L.length/2)) ⟨fun x hx=>by have:=h.1 x (List.mem_of_mem_take hx);omega,by have:=h.2;simp;omega⟩).2;have h2:=(RV (L:=L.drop (L.length/2)) ⟨fun x hx=>by have:=h.1 x (List.mem_of_mem_drop hx);omega,by have:=h.2;simp;omega⟩).2;have h3:(oE (L.drop (L.length/2))).toNat*(oE (L.take (L.length/2))).toNat≤20*20:=Nat.mul_le_mul qo qo;omega
theorem nY.YB (h:nY s z n m){i:Nat}(hi:i≤m):(YB s z i).length≤2400*i:=by
 induction i with
 |zero=>simp[Go.Proofs.YtdnmhhohcedjbaaGreat.YB]
 |succ i ih=>
  have h1:=ih qo;have h2:=mg (p:=AS (Go.Proofs.YtdnmhhohcedjbaaGreat.seg s z) i) (k:=z i) (h.seg (show i<m by omega))
  simp only[Go.Proofs.YtdnmhhohcedjbaaGreat.YB,List.length_append]
  omega
theorem nY.VQ (h:nY s z n m){c d:Int}{t:Nat}(ht:t≤m):(VQ s z c d m t).length≤2400*m+30*t:=by
 induction t with
 |zero=>exact h.YB ql
 |succ t ih=>
  have h1:=ih qo;have h2:=(Br (p:=AS (Go.Proofs.YtdnmhhohcedjbaaGreat.R6 s z d m t) (EL d m t)) (c:=c) (d:=d) (k:=z (EL d m t)) (L:=Go.Proofs.YtdnmhhohcedjbaaGreat.vI s z (EL d m t))).1;have h3:=(h.vI (aaE (d:=d) (show t<m by omega))).2
  simp only[Go.Proofs.YtdnmhhohcedjbaaGreat.VQ,List.length_append]
  omega
end
section
variable [Inhabited fJ]{B g q:Nat}{E:List Int}{C:Nat→List Int}{w:World}
end
theorem RA.keep {B:Nat}{z:Nat→Int}{v:Value}{t:Nat}{As:Nat→Option Addr}{cs:Nat→Nat}{w w':World}(h:RA B z v t As cs w)(hz:w.heap.size≤w'.heap.size)(hk:∀b,(v.ownBlock=some b∨∃j,j<t∧Fb (As j) (GT (z j)) b)→w'.heap[b]?=w.heap[b]?):RA B z v t As cs w':=
 ⟨vC h.own fun b hb=>hk b (.inl hb),fun j hj=>(aQ _ _ _).1 _ _ (h.rd j hj) fun b hb=>hk b (.inr ⟨j,hj,hb⟩),fun j hj b hF=>⟨(h.far j hj b hF).1,Nat.lt_of_lt_of_le (h.far j hj b hF).2.1 hz,(h.far j hj b hF).2.2⟩⟩
structure RI (w:World)(g o:Nat)(eO:Int)(A:OA)(n q:Nat):Prop where
 c0:w.cell? ⟨g,o,none⟩=some (.int .i64 eO)
 c1:w.cell? ⟨g,o+1,none⟩=some (.slice A n q)
theorem RI.below {w w':World}{g o:Nat}{eO:Int}{A:Option Addr}{n q:Nat}(h:RI w g o eO A n q)(hb:Below w.heap.size w w'):RI w' g o eO A n q:=by
 have hg:g<w.heap.size:=World.block_lt_of_cell? w _ h.c0;exact⟨AT hb hg h.c0,AT hb hg h.c1⟩
def ones (k:Nat):List Int:=List.replicate k 1
def afw (carrier:Int)(n:Nat):List Int:=(List.range (n*6)).map (afv carrier)
def ahU (w:World)(n:Nat)(L:List Int)(e:Ending)(w':World):Prop:=∃v,e=.returned v∧w'.ownsRow w.heap.size 91 6 v n (ints L)∧Below w.heap.size w w'
def hkE (eO:Nat)(d c:Nat→Int)(ns:Nat→Nat)(z:Nat→Nat→Int):Nat→List Int
 |0=>afw (c 0) eO
 |k+1=>hkE eO d c ns z k++VQ (stF eO ns z k) (z k) (c k) (d k) (ns k) (ns k)
def hkN (eO:Int)(n:Nat)(d c:Nat→Int)(ns:Nat→Nat)(z:Nat→Nat→Int):Nat:=if Y3 eO n d c ns z=true then(hkE eO.toNat d c ns z n).length/6 else 0
def WZ (eO:Int)(n:Nat)(d c:Nat→Int)(ns:Nat→Nat)(z:Nat→Nat→Int):Int:=if Y3 eO n d c ns z=true then 0 else 1
def HkR (eO:Int)(n:Nat)(d c:Nat→Int)(ns:Nat→Nat)(z:Nat→Nat→Int)(w:World):Ending→World→Prop:=q7 w (hkN eO n d c ns z) (hkN eO n d c ns z*6) (fun j=>.int .i64 ((hkE eO.toNat d c ns z n).getD j 0)) (WZ eO n d c ns z)
theorem HkR.no {eO:Int}{n:Nat}{d c:Nat→Int}{ns:Nat→Nat}{z:Nat→Nat→Int}{w w':World}(h:Y3 eO n d c ns z=false)(hb:Below w.heap.size w w'):HkR eO n d c ns z w (.returned (.tuple #[.slice none 0 0,.int .i64 1])) w':=by
 have h1:hkN eO n d c ns z=0:=by simp[hkN,h]
 have h2:WZ eO n d c ns z=1:=by simp[WZ,h]
 unfold HkR;rw[h1,h2];exact⟨none,0,rfl,New.none_ hb _⟩
theorem MV (p:Int)(a b:Nat)(s:Int)(w:World)(hp:0≤p∧p≤1000000000)(ha:a≤1000)(hb:b≤1000)(hs:s=1∨s= -1):
 Calls Tryz.prog 198 #[.int .i64 p,.int .i64 a,.int .i64 b,.int .i64 s] w (afL w (b*a) (b*a) (fun j=>.int .i64 ((oF s (hJ p a b)).getD j 0))):=by
 obtain⟨i0,hi,iz,is,ib⟩:=info_parts info64;have HS:=qh hs;clear hs
 go_enter Tryz.func198,Tryz.ntmps198
 go_wp2
 go_loopg [9,14] b (fun q v i wr=>∃t:Nat,t≤b∧q+t=b∧i=.int .i64 t∧wr.ownsRow w.heap.size 2 1 v (t*a) (ints (oF s (hJ p a t)))∧Below w.heap.size w wr)
 case atStart=>exact⟨0,Nat.zero_le _,rfl,rfl,by rw[Nat.zero_mul];exact World.ownsRow_made _ #[] 0 ql qm rfl,qb⟩
 case round=>
  obtain⟨t,ht,hq,rfl,hown,hbl⟩:=hrel;have HB:=qh hbl;have HOWN:=qh hown;clear hbl hown
  by_cases hlt:t<b
  ·have hta:t*a≤1000000:=Nat.le_trans (Nat.mul_le_mul (show t≤1000 by omega) ha) qo
   have Oy:=qh (show(t+1)*a=t*a+a from Nat.succ_mul t a);have HE:=qh (show oF s (hJ p a (t+1))=oF s (hJ p a t)++oF s (H7 p t a)by simp only[hJ,Ro]);obtain⟨N,hN⟩:=qx (t*a);rw[←hN]at hta HOWN Oy;have xA:=qh hN;clear hN
   go_wp2_with fail
   go_loopg [9,11] a (fun q2 v i wi=>∃(r:Nat) (xs:List Int),r≤a∧q2=r∧i=.int .i64 ((r:Int)-1)∧wi.ownsRow w.heap.size 2 1 v (N+(a-r)) (ints xs)∧Hq (xs++oF s (H7 p t r)=oF s (hJ p a (t+1)))∧Below w.heap.size w wi)
   case atStart=>exact⟨a,oF s (hJ p a t),Nat.le_refl _,rfl,qg,by rw[Nat.sub_self,Nat.add_zero];exact HOWN.o,qh HE.o.symm,HB.o⟩
   case round=>
    obtain⟨r,xs,hr,hq2,rfl,hown2,HX,adg⟩:=hrel;have HB2:=qh adg;have f9:=qh hown2;clear hown2 adg
    by_cases hr0:0<r
    ·obtain⟨r',rfl⟩:∃r',r=r'+1:=⟨r-1,by omega⟩
     have e1:((r'+1:Nat):Int)-1=(r':Int):=qo;rw[e1];have hV:∃V,V=s*(p+t+r'+1)∧ -2000000000≤V∧V≤2000000000:=⟨_,rfl,by rcases HS.o with h|h<;>rw[h]<;>omega,by rcases HS.o with h|h<;>rw[h]<;>omega⟩;obtain⟨V,hV,hV1,hV2⟩:=hV;have s1:IntKind.i64.wrap (s*(p+t+r'+1))=V:=by rw[←hV];exact IntWalk.i64_in _ qo
     have s2:wrap64 (s*(p+t+r'+1))=V:=(IntWalk.i64_left _).symm.trans s1;have HV:=qh hV;clear hV
     go_wp2_with (at_builtin;go_must (refine bV _ rfl (.tmp 23) (.tmp 32) _ rfl w.heap.size 2 i0 _ 1 8 Tryz.underlying34 hi iz is ib rfl qo u9 (N+(a-(r'+1))) (ints xs) rfl f9.o _ 1 1 _ rfl rfl (by simp[Value.oneCell']) qm qo HB2.o.size ?_);intro v' w' hown' hb';have HOWN':=qh hown';have EA:=qh (HB2.o.trans hb');clear hown' hb')
     go_wp2
     go_roundg r'
     case measure=>omega
     case rel=>exact⟨r',xs++[V],by omega,rfl,qg,by have:=HOWN'.o;rw[aT,show N+(a-r')=N+(a-(r'+1))+1 by omega];exact this,qh (by rw[List.append_assoc,HV.o];exact HX.o),EA.o⟩
    ·obtain rfl:r=0:=qo
     go_wp2
     go_roundg (b-(t+1))
     case measure=>omega
     case rel=>exact⟨t+1,by omega,by omega,qg,by have h1:=HX.o;simp only[H7,oF,List.map_nil,List.append_nil]at h1;have h2:=f9.o;rw[h1]at h2;rw[Oy.o];simpa [oF]using h2,HB2.o⟩
  ·obtain rfl:b=t:=qo
   obtain⟨A4,c4,rfl,hc4,hnew⟩:=New.Ri (w:=w) HB.o HOWN.o;have HN:=qh hnew;clear hnew
   go_wp2
   go_ret
   refine⟨A4,c4,rfl,hc4,?_⟩;have:=HN.o;rw[Nat.mul_one]at this;exact this.congr fun j hj=>by rw[←zL (oF s (hJ p a b)) (b*a) (by rw[jk,EK])];simp[List.getD,hj]
theorem Rn (s:Int)(l:List Int){j:Nat}(hj:j<l.length):(oF s l).getD j 0=s*(l.getD j 0+1):=by
 simp[oF,List.getD,hj]
theorem mh (s:Int)(l:List Int){j:Nat}(hj:j<l.length):cE s (l.take (j+1))=cE s (l.take j)++jQ 1 (l.getD j 0) s 0 0 0:=by
 rw[List.take_succ_eq_append_getElem hj,Ez]
 simp[cE,List.getD,hj]
theorem G4 (p:Int)(a b:Nat)(s:Int)(w:World)(hp:0≤p∧p≤1000000000)(ha:a≤100)(hb:b≤100):
 Calls Tryz.prog 178 #[.int .i64 p,.int .i64 a,.int .i64 b,.int .i64 s] w (ahU w (b*a) (cE s (hJ p a b))):=by
 obtain⟨i0,hi,iz,is,ib⟩:=info_parts iF;have ahP:b*a≤10000:=Nat.le_trans (Nat.mul_le_mul hb ha) qo;have Z0:=qh (EK p a b);have HPB:=qh (fun x hx=>Ch (p:=p) (a:=a) (t:=b) x hx);have HW0:=qh ((Below.refl w.heap.size w).alloc ql (.cells #[] 91));have Z9:=qh (World.ownsRow_made (e:=91) (size:=6) w #[] 0 ql qm rfl)
 go_enter Tryz.func178,Tryz.ntmps178
 go_wp2_with fail
 refine(MV p a b 1 _ hp qo qo (.inl rfl)).mono ?_;rintro e w1 ⟨A1,c1,rfl,hc1,hn1⟩;have rA:=qh hn1;have HB1:=qh (HW0.o.trans (hn1.bl.mono qj));have aO:=qh (own_below Z9.o hn1.bl);obtain⟨N,hN⟩:=qx (b*a);rw[←hN]at ahP Z0 rA hc1 ⊢;have xA:=qh hN;clear hn1 hN
 go_wp2_with fail
 go_loopw [9,18] (fun v x wr=>∃k:Nat,k≤N∧x=.int .i64 k∧Hq (wr.ownsRow w.heap.size 91 6 v k (ints (cE s ((hJ p a b).take k))))∧Hq (Rd wr A1 N (fun j=>.int .i64 ((oF 1 (hJ p a b)).getD j 0)))∧Hq (∀q,v.ownBlock=some q→¬Fb A1 N q)∧Hq (∀q,Fb A1 N q→q<wr.heap.size)∧Hq (Below w.heap.size w wr)) (fun _ x _=>N-(intOf x).toNat)
 case atStart=>exact⟨0,Nat.zero_le _,rfl,qh (by simp only[List.take_zero,cE];exact aO.o),qh rA.o.rd,qh (fun q hq hF=>by
  injection hq with hq;subst hq;obtain⟨_,ad,e,hb⟩:=hF;have h1:=rA.o.ab ad e;have h2:ad.block=w.heap.size:=hb
  simp only[World.size_alloc]at h1
  omega),qh (fun q ⟨_,ad,e,hb⟩=>hb▸rA.o.bb ad e),HB1⟩
 case round=>
  obtain⟨k,hk,rfl,aH,HR2,HD2,bX,HB2⟩:=hrel
  by_cases hlt:k<N
  ·obtain⟨g4,o4,rfl,hg4,hr4⟩:=HR2.o qo
   have hkl:k<(hJ p a b).length:=by rw[Z0.o];exact hlt
   have c4:=hr4 k hlt
   simp only[Rn 1 (hJ p a b) hkl,Int.one_mul]at c4
   have hxb:=HPB.o ((hJ p a b).getD k 0) (by simp[List.getD,hkl]);have HT:=qh (mh s (hJ p a b) hkl);obtain⟨y,hy⟩:∃y,y=(hJ p a b).getD k 0:=⟨_,rfl⟩;rw[←hy]at hxb HT
   simp only[←hy]at c4
   have b1:(0:Int)≤(k:Int):=qo;have b2:(k:Int)<(N:Int):=qo;have e1:y+1-1=y:=qo;have HK4:=qh c4;clear hr4 hy
   go_wp2_with (at_builtin;go_must (refine cB wr rfl (.tmp 22) (.tmp 27) _ rfl w.heap.size 91 i0 _ 6 48 Tryz.underlying49 hi iz is ib rfl qo u9 k _ rfl aH.o _ 1 1 [.int .i64 1,.int .i64 y,.int .i64 s,.int .i64 0,.int .i64 0,.int .i64 0] rfl rfl (by simp[Value.oneCell']) qm qo HB2.o.size ?_);intro v' w' hown' hf' hat';have bS:=qh hown';have nZ:=qh hf';have gY:=qh hat';clear hown' hf' hat')
   go_roundw
   case rel=>exact⟨k+1,by omega,qg,qh (by
    have h:=bS.o;rw[HT.o,aT];exact h),qh ((aQ _ _ _).fr HR2.o nZ.o fun q hq e=>HD2.o q e hq),qh (fun q hq hF=>by
    rcases gY.o with h|h
    ·exact HD2.o q (h.symm.trans hq) hF
    ·have:=bX.o q hF
     rw[hq]at h;injection h with h;omega),qh (fun q hq=>Nat.lt_of_lt_of_le (bX.o q hq) nZ.o.size),qh (HB2.o.trans (nZ.o.own aH.o HB2.o.size))⟩
   case measure=>exact qs
  ·obtain rfl:N=k:=qo
   go_wp2
   go_ret
   refine⟨_,rfl,?_,HB2.o⟩;have h:=aH.o;have e:(hJ p a b).take N=hJ p a b:=by rw[←Z0.o,List.take_length]
   rw[e]at h;rw[←xA.o];exact h
theorem GR (z0 z1:Int)(w:World):
 Calls Tryz.prog 65 #[.agg #[.int .i64 z0,.int .i64 z1]] w fun e w'=>e=.returned (.agg #[.int .i64 z0,.int .i64 z1])∧Below w.heap.size w w':=by
 go_enter Tryz.func65,Tryz.ntmps65
 go_wp2
 refine bodyPost_ret (v:=.agg #[.int .i64 z0,.int .i64 z1]) (by simp[results,Tryz.results65,go_sem]) rfl ⟨rfl,?_⟩;exact qz
theorem GV (A:OA)(n c L:Nat)(w:World)(hn:n≤maxLen)(hL:L≤1048576):
 Calls Tryz.prog 7 #[.slice A n c,.int .i64 L] w fun e w'=>∃r:Int,(r<0∨(n≤L∧r=L-n))∧e=.returned (.int .i64 r)∧w=w':=by
 unfold maxLen at hn
 by_cases hle:n≤L
 ·go_enter Tryz.func7,Tryz.ntmps7
  go_wp2
  go_ret
  exact⟨(L:Int)-n,.inr ⟨hle,rfl⟩,rfl,rfl⟩
 ·go_enter Tryz.func7,Tryz.ntmps7
  go_wp2
  go_ret
  exact⟨-1,.inl qo,rfl,rfl⟩
theorem Qq (z0 z1 z2 z3 z4 z5 z6 z7:Int)(w:World):
 Calls Tryz.prog 35 #[.agg #[.int .i64 z0,.int .i64 z1,.int .i64 z2,.int .i64 z3,.int .i64 z4,.int .i64 z5,.int .i64 z6,.int .i64 z7]] w fun e w'=>e=.returned (.agg #[.int .i64 z0,.int .i64 z1,.int .i64 z2,.int .i64 z3,.int .i64 z4,.int .i64 z5,.int .i64 z6,.int .i64 z7])∧Below w.heap.size w w':=by
 go_enter Tryz.func35,Tryz.ntmps35
 go_wp2_with fail
 refine(GR z2 z3 _).mono ?_;rintro e w1 ⟨rfl,hb1⟩;have A1:=qh (aB.below (((aB.at_ w 75 #[.int .i64 z0,.int .i64 z1,.int .i64 z2,.int .i64 z3,.int .i64 z4,.int .i64 z5,.int .i64 z6,.int .i64 z7] rfl).alloc _).alloc _) hb1 (by first|(simp;done)|(simp;omega)|omega));have B1:=qh (aB.below ((aB.at_ (g':=w.heap.size+1) _ 67 #[.int .i64 0,.int .i64 0,.int .i64 0,.int .i64 0,.int .i64 0,.int .i64 0,.int .i64 0,.int .i64 0] qj).alloc _) hb1 (by first|(simp;done)|(simp;omega)|omega));have C1:=qh (aB.below (aB.at_ (g':=w.heap.size+1+1) _ 67 #[.int .i64 z0,.int .i64 z1,.int .i64 0,.int .i64 0,.int .i64 0,.int .i64 0,.int .i64 0,.int .i64 0] qj) hb1 (by first|(simp;done)|(simp;omega)|omega));have hz1:w.heap.size+1+1<w1.heap.size:=blt hb1 qj;have HB1:=qh hb1;have x1:=fun o=>A1.out.cell o;have z1':=fun o=>C1.out.cell o;have z1f:=fun o=>C1.out.frozen o;clear hb1
 go_wp2_with fail
 refine(GR z4 z5 _).mono ?_;rintro e w2 ⟨rfl,hb2⟩;have A2:=qh (aB.below ((A1.out.far (p:=⟨w.heap.size+1+1,2,none⟩) (by simp;omega) _).far (p:=⟨w.heap.size+1+1,3,none⟩) (by simp;omega) _) hb2 (by first|(simp;done)|(simp;omega)|omega));have B2:=qh (aB.below ((B1.out.far (p:=⟨w.heap.size+1+1,2,none⟩) qj _).far (p:=⟨w.heap.size+1+1,3,none⟩) qj _) hb2 (by first|(simp;done)|(simp;omega)|omega));have C2:=qh (aB.below ((C1.out.bJ 2 _).bJ 3 _) hb2 (by first|(simp;done)|(simp;omega)|omega));have HB2:=qh hb2;have x2:=fun o=>A2.out.cell o;have y2f:=fun o=>B2.out.frozen o;have z2':=fun o=>C2.out.cell o;have z2f:=fun o=>C2.out.frozen o;have y2:=fun o=>B2.out.cell o;clear hb2 x1 z1' z1f
 go_wp2
 refine bodyPost_ret (v:=.agg #[.int .i64 z0,.int .i64 z1,.int .i64 z2,.int .i64 z3,.int .i64 z4,.int .i64 z5,.int .i64 z6,.int .i64 z7]) (by simp[results,Tryz.results35,go_sem,y2]) rfl ⟨rfl,?_⟩;have hb1:=HB1.o;have hb2:=HB2.o;exact qz
theorem aaZ:(Tryz.prog.info? 67).map (fun i=>(i.zero,i.size,i.bytes))=some (some (.agg #[.int .i64 0,.int .i64 0,.int .i64 0,.int .i64 0,.int .i64 0,.int .i64 0,.int .i64 0,.int .i64 0]),8,64):=by kernel_rfl
def afI (w:World)(n N:Nat)(f:Nat→Value)(e:Ending)(w':World):Prop:=∃A c,e=.returned (.slice A n c)∧n≤c∧New w w' A N f
theorem jY (A:OA)(n c:Nat)(z:Nat→Int)(w:World)(ha:Rd w A (n*8) (fun j=>.int .i64 (z j)))(hn:n≤1048576):
 Calls Tryz.prog 9 #[.slice A n c] w (afI w n (n*8) (fun j=>.int .i64 (z j))):=by
 have HA:=qh ha;clear ha;obtain⟨i0,hi,hz0,hz1,hz2⟩:=info_parts aaZ
 go_enter Tryz.func9,Tryz.ntmps9
 go_wp2_with (at_make;refine wpList_make_full _ rfl _ _ 28 rfl w.heap.size 67 i0 (.agg #[.int .i64 0,.int .i64 0,.int .i64 0,.int .i64 0,.int .i64 0,.int .i64 0,.int .i64 0,.int .i64 0]) 8 Tryz.underlying28 hi hz0 hz1 .i64 .i64 n n n rfl rfl rfl rfl (by rw[hz2];omega) qm ql ?_;intro w1 hown hg1)
 have hb1:=(Below.refl w.heap.size w).grown hg1 ql (fun k e=>by cases e);have hw1:=dS.kM hown;have hg1:w.heap.size<w1.heap.size:=(hown.lt _ rfl).2;have HB:=qh hb1;have HW:=qh hw1;clear hb1 hw1 hown
 go_loopw [4] (fun i wr=>∃k:Nat,k≤n∧i=.int .i64 k∧Below w.heap.size w wr∧w.heap.size<wr.heap.size∧dS wr w.heap.size 0 (n*8)∧bI wr w.heap.size 0 (k*8) (fun j=>.int .i64 (z j))) (fun i _=>n-(intOf i).toNat)
 case atStart=>exact⟨0,Nat.zero_le _,rfl,HB.o,hg1,HW.o,fun j hj=>absurd hj qo⟩
 case round=>
  obtain⟨k,hk,rfl,hb,hgr,hw,hr⟩:=hrel;have HB:=qh hb;have HW:=qh hw;have HR:=qh hr;clear hb hw hr
  by_cases hlt:k<n
  ·obtain⟨g,o,rfl,hg,hra⟩:=HA.o qo
   have hc0:=((aA HB.o).1 _ _ hg).trans (hra (k*8+0) qo);obtain⟨x0,hx0⟩:=qx (z (k*8))
   simp only[←hx0,Nat.add_zero]at hc0
   have HX0:=qh hx0;clear hx0;have hc1:=((aA HB.o).1 _ _ hg).trans (hra (k*8+1) qo);obtain⟨x1,hx1⟩:=qx (z (k*8+1))
   simp only[←hx1,←Nat.add_assoc]at hc1
   have dN:=qh hx1;clear hx1;have hc2:=((aA HB.o).1 _ _ hg).trans (hra (k*8+2) qo);obtain⟨x2,hx2⟩:=qx (z (k*8+2))
   simp only[←hx2,←Nat.add_assoc]at hc2
   have eI:=qh hx2;clear hx2;have hc3:=((aA HB.o).1 _ _ hg).trans (hra (k*8+3) qo);obtain⟨x3,hx3⟩:=qx (z (k*8+3))
   simp only[←hx3,←Nat.add_assoc]at hc3
   have CE:=qh hx3;clear hx3;have hc4:=((aA HB.o).1 _ _ hg).trans (hra (k*8+4) qo);obtain⟨x4,hx4⟩:=qx (z (k*8+4))
   simp only[←hx4,←Nat.add_assoc]at hc4
   have Om:=qh hx4;clear hx4;have oM:=((aA HB.o).1 _ _ hg).trans (hra (k*8+5) qo);obtain⟨x5,hx5⟩:=qx (z (k*8+5))
   simp only[←hx5,←Nat.add_assoc]at oM
   have Ol:=qh hx5;clear hx5;have hc6:=((aA HB.o).1 _ _ hg).trans (hra (k*8+6) qo);obtain⟨x6,hx6⟩:=qx (z (k*8+6))
   simp only[←hx6,←Nat.add_assoc]at hc6
   have IW:=qh hx6;clear hx6;have Yo:=((aA HB.o).1 _ _ hg).trans (hra (k*8+7) qo);obtain⟨x7,hx7⟩:=qx (z (k*8+7))
   simp only[←hx7,←Nat.add_assoc]at Yo
   have GA:=qh hx7;clear hx7;clear hra
   go_wp2_with fail
   refine(Qq x0 x1 x2 x3 x4 x5 x6 x7 _).mono ?_;rintro e w2 ⟨rfl,hb2⟩;have hw2:=HW.o.below (hb2.mono ql);have HR2:=qh (HR.o.below hgr hb2);have HB2:=HB.st hb2;have ahJ:w.heap.size<w2.heap.size:=blt hb2 hgr;obtain⟨⟨u0,hu0⟩,hf0⟩:=hw2 (k*8+0) qo
   simp only[Nat.zero_add,Nat.add_zero]at hu0 hf0
   obtain⟨⟨u1,hu1⟩,hf1⟩:=hw2 (k*8+1) qo
   simp only[Nat.zero_add]at hu1 hf1
   obtain⟨⟨u2,hu2⟩,hf2⟩:=hw2 (k*8+2) qo
   simp only[Nat.zero_add]at hu2 hf2
   obtain⟨⟨u3,hu3⟩,hf3⟩:=hw2 (k*8+3) qo
   simp only[Nat.zero_add]at hu3 hf3
   obtain⟨⟨u4,hu4⟩,fW⟩:=hw2 (k*8+4) qo
   simp only[Nat.zero_add]at hu4 fW
   obtain⟨⟨u5,tu⟩,rY⟩:=hw2 (k*8+5) qo
   simp only[Nat.zero_add]at tu rY
   obtain⟨⟨u6,hu6⟩,nG⟩:=hw2 (k*8+6) qo
   simp only[Nat.zero_add]at hu6 nG
   obtain⟨⟨u7,hu7⟩,wN⟩:=hw2 (k*8+7) qo
   simp only[Nat.zero_add]at hu7 wN
   have HW2:=qh hw2;clear hw2 hb2 hc0 hc1 hc2 hc3 hc4 oM hc6 Yo
   go_wp2
   go_roundw
   case rel=>
    refine⟨k+1,by omega,qg,by exact((((((((HB2.o.setCell ql _).setCell ql _).setCell ql _).setCell ql _).setCell ql _).setCell ql _).setCell ql _).setCell ql _),by simp[World.setCell];exact ahJ,by exact((((((((HW2.o.set _ _).set _ _).set _ _).set _ _).set _ _).set _ _).set _ _).set _ _),?_⟩;have h0:=HR2.o;have h1:=h0.step (a:=k*8+0) (u:=.int .i64 x0) (HW2.o) qo qo (by rw[HX0.o]);have h2:=h1.step (a:=k*8+1) (u:=.int .i64 x1) ((HW2.o.set _ _)) qo qo (by rw[dN.o]);have h3:=h2.step (a:=k*8+2) (u:=.int .i64 x2) (((HW2.o.set _ _).set _ _)) qo qo (by rw[eI.o]);have h4:=h3.step (a:=k*8+3) (u:=.int .i64 x3) ((((HW2.o.set _ _).set _ _).set _ _)) qo qo (by rw[CE.o]);have h5:=h4.step (a:=k*8+4) (u:=.int .i64 x4) (((((HW2.o.set _ _).set _ _).set _ _).set _ _)) qo qo (by rw[Om.o]);have h6:=h5.step (a:=k*8+5) (u:=.int .i64 x5) ((((((HW2.o.set _ _).set _ _).set _ _).set _ _).set _ _)) qo qo (by rw[Ol.o]);have h7:=h6.step (a:=k*8+6) (u:=.int .i64 x6) (((((((HW2.o.set _ _).set _ _).set _ _).set _ _).set _ _).set _ _)) qo qo (by rw[IW.o]);have h8:=h7.step (a:=k*8+7) (u:=.int .i64 x7) ((((((((HW2.o.set _ _).set _ _).set _ _).set _ _).set _ _).set _ _).set _ _)) qo qo (by rw[GA.o]);exact bI.cast qo h8
   case measure=>exact qs
  ·obtain rfl:k=n:=qo
   go_wp2
   go_ret
   exact⟨_,_,rfl,Nat.le_refl _,New.ab7 HB.o ql hgr HW.o HR.o⟩
theorem GQ (A:OA)(n c:Nat)(z:Nat→Int)(w:World)(ha:Rd w A (n*8) (fun j=>.int .i64 (z j)))(hn:n≤1048576):
 Calls Tryz.prog 9 #[.slice A n c] w (ahV w n (n*8) (fun j=>.int .i64 (z j))):=
 (jY A n c z w ha hn).mono fun _ _ ⟨A,c,he,_,hp⟩=>⟨A,c,he,hp⟩
theorem IP (x y:Int)(w:World):
 Calls Tryz.prog 71 #[.agg #[.int .i64 x,.int .i64 y],.agg #[.int .i64 x,.int .i64 y]] w fun e w'=>e=.returned (.bool true)∧Below w.heap.size w w':=by
 go_enter Tryz.func71,Tryz.ntmps71
 go_wp2
 go_ret
 exact⟨rfl,qz⟩
theorem Tk (z0 z1 z2 z3 z4 z5 z6 z7:Int)(w:World):
 Calls Tryz.prog 42 #[.agg #[.int .i64 z0,.int .i64 z1,.int .i64 z2,.int .i64 z3,.int .i64 z4,.int .i64 z5,.int .i64 z6,.int .i64 z7],.agg #[.int .i64 z0,.int .i64 z1,.int .i64 z2,.int .i64 z3,.int .i64 z4,.int .i64 z5,.int .i64 z6,.int .i64 z7]] w fun e w'=>e=.returned (.bool true)∧Below w.heap.size w w':=by
 go_enter Tryz.func42,Tryz.ntmps42
 have hL:Below w.heap.size w ((w.alloc (.cells #[.int .i64 z0,.int .i64 z1,.int .i64 z2,.int .i64 z3,.int .i64 z4,.int .i64 z5,.int .i64 z6,.int .i64 z7] 67)).alloc (.cells #[.int .i64 z0,.int .i64 z1,.int .i64 z2,.int .i64 z3,.int .i64 z4,.int .i64 z5,.int .i64 z6,.int .i64 z7] 67)):=(qb).alloc qj _;have HL:=qh hL;have X:=qh (vJ w #[.int .i64 z0,.int .i64 z1,.int .i64 z2,.int .i64 z3,.int .i64 z4,.int .i64 z5,.int .i64 z6,.int .i64 z7] 67);clear hL
 go_wp2_with fail
 refine(IP z2 z3 _).mono ?_;rintro e w1 ⟨rfl,hb1⟩;have x1:∀o,w1.cell? ⟨w.heap.size,o,none⟩=(#[.int .i64 z0,.int .i64 z1,.int .i64 z2,.int .i64 z3,.int .i64 z4,.int .i64 z5,.int .i64 z6,.int .i64 z7]:Array Value)[o]?:=(R7 _ _ qj).below ((R7 w.heap.size #[.int .i64 z0,.int .i64 z1,.int .i64 z2,.int .i64 z3,.int .i64 z4,.int .i64 z5,.int .i64 z6,.int .i64 z7] qj).below X.out (qb)) hb1;have y1:∀o,w1.cell? ⟨w.heap.size+1,o,none⟩=(#[.int .i64 z0,.int .i64 z1,.int .i64 z2,.int .i64 z3,.int .i64 z4,.int .i64 z5,.int .i64 z6,.int .i64 z7]:Array Value)[o]?:=fun o=>((aA hb1).1 (w.heap.size+1) o qj).trans (rH qj o);have hz1:w.heap.size+1<w1.heap.size:=blt hb1 qj;have X1:=qh x1;have Y1:=qh y1;have HB1:=HL.st hb1;clear hb1
 go_wp2_with fail
 refine(IP z4 z5 _).mono ?_;rintro e w2 ⟨rfl,hb2⟩;have x2:=fun o=>((aA hb2).1 w.heap.size o qo).trans (X1.out o);have y2:=fun o=>((aA hb2).1 (w.heap.size+1) o qo).trans (Y1.out o);have HB2:=HB1.st hb2;clear hb2 x1 y1
 go_wp2_with fail
 go_ret
 exact⟨rfl,HB2.o⟩
theorem zQ22x6 {p:Prop}(h:p:=by
 go_wp2
 go_roundw
 case rel=>exact⟨k+1,by omega,qg,(Below.drewN' HL.o 1).trans (hb1.mono HL.o.size)⟩
 case measure=>exact qs):p:=h
theorem IN (A A':OA)(n c c':Nat)(z:Nat→Int)(w:World)(ha:Rd w A (n*8) (fun j=>.int .i64 (z j)))(hb:Rd w A' (n*8) (fun j=>.int .i64 (z j)))(hn:n≤1000000000):
 Calls Tryz.prog 12 #[.slice A n c,.slice A' n c'] w fun e w'=>e=.returned (.bool true)∧Below w.heap.size w w':=by
 have HA:=qh ha;have HB:=qh hb;clear ha hb
 go_enter Tryz.func12,Tryz.ntmps12
 go_wp2
 go_loopw [5] (fun i wr=>∃k:Nat,k≤n∧i=.int .i64 k∧Below w.heap.size w wr) (fun i _=>n-(intOf i).toNat)
 case atStart=>exact⟨0,Nat.zero_le _,rfl,Below.refl _ _⟩
 case round=>
  obtain⟨k,hk,rfl,hbl⟩:=hrel;have HL:=qh hbl;clear hbl
  by_cases hlt:k<n
  ·obtain⟨g,o,rfl,hg,hc⟩:=HA.o qo
   obtain⟨g',o',rfl,hg',hc'⟩:=HB.o qo;have a0:=((aA HL.o).1 g _ hg).trans (hc (k*8+0) qo);have b0:=((aA HL.o).1 g' _ hg').trans (hc' (k*8+0) qo);have a1:=((aA HL.o).1 g _ hg).trans (hc (k*8+1) qo);have b1:=((aA HL.o).1 g' _ hg').trans (hc' (k*8+1) qo);have a2:=((aA HL.o).1 g _ hg).trans (hc (k*8+2) qo);have b2:=((aA HL.o).1 g' _ hg').trans (hc' (k*8+2) qo);have a3:=((aA HL.o).1 g _ hg).trans (hc (k*8+3) qo);have b3:=((aA HL.o).1 g' _ hg').trans (hc' (k*8+3) qo);have a4:=((aA HL.o).1 g _ hg).trans (hc (k*8+4) qo);have b4:=((aA HL.o).1 g' _ hg').trans (hc' (k*8+4) qo);have a5:=((aA HL.o).1 g _ hg).trans (hc (k*8+5) qo);have b5:=((aA HL.o).1 g' _ hg').trans (hc' (k*8+5) qo);have a6:=((aA HL.o).1 g _ hg).trans (hc (k*8+6) qo);have b6:=((aA HL.o).1 g' _ hg').trans (hc' (k*8+6) qo);have a7:=((aA HL.o).1 g _ hg).trans (hc (k*8+7) qo);have b7:=((aA HL.o).1 g' _ hg').trans (hc' (k*8+7) qo)
   simp only[←Nat.add_assoc]at a0 b0 a1 b1 a2 b2 a3 b3 a4 b4 a5 b5 a6 b6 a7 b7
   obtain⟨y0,hy0⟩:=qx (z (k*8+0));obtain⟨y1,hy1⟩:=qx (z (k*8+1));obtain⟨y2,hy2⟩:=qx (z (k*8+2));obtain⟨y3,hy3⟩:=qx (z (k*8+3));obtain⟨y4,hy4⟩:=qx (z (k*8+4));obtain⟨y5,KM⟩:=qx (z (k*8+5));obtain⟨y6,hy6⟩:=qx (z (k*8+6));obtain⟨y7,hy7⟩:=qx (z (k*8+7))
   simp only[Nat.add_zero]at a0 b0 hy0
   simp only[←hy0,←hy1,←hy2,←hy3,←hy4,←KM,←hy6,←hy7]at a0 b0 a1 b1 a2 b2 a3 b3 a4 b4 a5 b5 a6 b6 a7 b7
   clear hy0 hy1 hy2 hy3 hy4 KM hy6 hy7 hc hc';have hgr:g<wr.heap.size:=blt HL.o hg;have Eh:g'<wr.heap.size:=blt HL.o hg'
   go_wp2
   go_region_held3 (fun w'=>w'.cell? ⟨g,o+k*8,none⟩=some (.int .i64 y0)∧w'.cell? ⟨g',o'+k*8,none⟩=some (.int .i64 y0)∧w'.cell? ⟨g,o+k*8+1,none⟩=some (.int .i64 y1)∧w'.cell? ⟨g',o'+k*8+1,none⟩=some (.int .i64 y1)∧w'.cell? ⟨g,o+k*8+2,none⟩=some (.int .i64 y2)∧w'.cell? ⟨g',o'+k*8+2,none⟩=some (.int .i64 y2)∧w'.cell? ⟨g,o+k*8+3,none⟩=some (.int .i64 y3)∧w'.cell? ⟨g',o'+k*8+3,none⟩=some (.int .i64 y3)∧w'.cell? ⟨g,o+k*8+4,none⟩=some (.int .i64 y4)∧w'.cell? ⟨g',o'+k*8+4,none⟩=some (.int .i64 y4)∧w'.cell? ⟨g,o+k*8+5,none⟩=some (.int .i64 y5)∧w'.cell? ⟨g',o'+k*8+5,none⟩=some (.int .i64 y5)∧w'.cell? ⟨g,o+k*8+6,none⟩=some (.int .i64 y6)∧w'.cell? ⟨g',o'+k*8+6,none⟩=some (.int .i64 y6)∧w'.cell? ⟨g,o+k*8+7,none⟩=some (.int .i64 y7)∧w'.cell? ⟨g',o'+k*8+7,none⟩=some (.int .i64 y7)) (go_keep) (first|(go_at_call 42;refine(Tk y0 y1 y2 y3 y4 y5 y6 y7 _).mono ?_;rintro e w1 ⟨rfl,hb1⟩;have hk1:=fun x=>(aA hb1).1 g x (by simpa using hgr);have hk2:=fun x=>(aA hb1).1 g' x (by simpa using Eh)))
   exact zQ22x6
  ·obtain rfl:k=n:=qo
   go_wp2
   go_ret
   exact⟨rfl,HL.o⟩
theorem zQ22x1 {p:Prop}(h:p:=by
 go_wp2
 go_loop [1,5] (fun kk i=>kk=.int .i64 k∧i=.int .i64 0) (fun _ _=>0)
 case atStart=>exact⟨rfl,rfl⟩
 case round=>
  obtain⟨rfl,rfl⟩:=hrel
  go_wp2
  go_ret
  exact⟨QF qj,Nat.le_refl _,fun _=>rfl,fun _ _ _ h=>absurd h qo⟩):p:=h
theorem zQ22x4 {p:Prop}(h:p:=by
 go_wp2
 go_ret
 exact⟨rfl,HO.o.size,fun h=>absurd h qo,fun g' o' e _=>by injection e with e;injection e with e1 e2;subst e1 e2;exact⟨HO.o,l7.o,HR.o⟩⟩):p:=h
theorem KI (A:OA)(n c:Nat)(k:Int)(w:World)(h:Wr w A (n*8))(hn:n≤1000000000)(h0:0≤k)(hk:k≤2000000000):
 Calls Tryz.prog 16 #[.slice A n c,.int .i64 k] w (q8 w A (n*8) (k+n*8) (fun j=>.int .i64 (k+j))):=by
 by_cases hz:n=0
 ·subst hz
  go_enter Tryz.func16,Tryz.ntmps16
  exact zQ22x1
 ·obtain⟨g,o,rfl,hw⟩:=h qo
  clear h;have hg:=hw.lt qo;have HW:=qh hw;clear hw
  go_enter Tryz.func16,Tryz.ntmps16
  go_wp2
  go_loopw [1,5] (fun kk i wr=>∃q:Nat,q≤n∧i=.int .i64 q∧kk=.int .i64 (k+q*8)∧g<wr.heap.size∧Only w wr g∧dS wr g o (n*8)∧bI wr g o (q*8) (fun j=>.int .i64 (k+j))) (fun _ i _=>n-(intOf i).toNat)
  case atStart=>exact⟨0,Nat.zero_le _,rfl,by simp,hg,Only.refl _ _,HW.o,fun j hj=>absurd hj qo⟩
  case round=>
   obtain⟨q,hq,rfl,rfl,hgr,ho,hw,hr⟩:=hrel;have HO:=qh ho;have l7:=qh hw;have HR:=qh hr;clear ho hw hr
   by_cases hlt:q<n
   ·obtain⟨⟨u100,hu0⟩,hf0⟩:=l7.o (q*8+0) qo
    obtain⟨⟨u101,hu1⟩,hf1⟩:=l7.o (q*8+1) qo;obtain⟨⟨u102,hu2⟩,hf2⟩:=l7.o (q*8+2) qo;obtain⟨⟨u103,hu3⟩,hf3⟩:=l7.o (q*8+3) qo;obtain⟨⟨u104,hu4⟩,fW⟩:=l7.o (q*8+4) qo;obtain⟨⟨u105,tu⟩,rY⟩:=l7.o (q*8+5) qo;obtain⟨⟨u106,hu6⟩,nG⟩:=l7.o (q*8+6) qo;obtain⟨⟨u107,hu7⟩,wN⟩:=l7.o (q*8+7) qo
    simp only[←Nat.add_assoc,Nat.add_zero]at hu0 hf0 hu1 hf1 hu2 hf2 hu3 hf3 hu4 fW tu rY hu6 nG hu7 wN
    go_wp2
    go_roundw
    case rel=>
     refine⟨q+1,by omega,qg,qg,by simp;exact hgr,((((((((HO.o.set _ _).set _ _).set _ _).set _ _).set _ _).set _ _).set _ _).set _ _),((((((((l7.o.set _ _).set _ _).set _ _).set _ _).set _ _).set _ _).set _ _).set _ _),?_⟩;have r0:=bI.step (m:=q*8) (a:=o+q*8) (u:=.int .i64 (k+q*8)) HR.o l7.o qo qo (by simp only[Value.int.injEq,true_and];omega);have r1:=bI.step (m:=q*8+1) (a:=o+q*8+1) (u:=.int .i64 (k+q*8+1)) r0 (l7.o.set ⟨g,o+q*8,none⟩ (.int .i64 (k+q*8))) qo qo (by simp only[Value.int.injEq,true_and];omega);have r2:=bI.step (m:=q*8+2) (a:=o+q*8+2) (u:=.int .i64 (k+q*8+1+1)) r1 ((l7.o.set ⟨g,o+q*8,none⟩ (.int .i64 (k+q*8))).set ⟨g,o+q*8+1,none⟩ (.int .i64 (k+q*8+1))) qo qo (by simp only[Value.int.injEq,true_and];omega);have r3:=bI.step (m:=q*8+3) (a:=o+q*8+3) (u:=.int .i64 (k+q*8+1+1+1)) r2 (((l7.o.set ⟨g,o+q*8,none⟩ (.int .i64 (k+q*8))).set ⟨g,o+q*8+1,none⟩ (.int .i64 (k+q*8+1))).set ⟨g,o+q*8+2,none⟩ (.int .i64 (k+q*8+1+1))) qo qo (by simp only[Value.int.injEq,true_and];omega);have r4:=bI.step (m:=q*8+4) (a:=o+q*8+4) (u:=.int .i64 (k+q*8+1+1+1+1)) r3 ((((l7.o.set ⟨g,o+q*8,none⟩ (.int .i64 (k+q*8))).set ⟨g,o+q*8+1,none⟩ (.int .i64 (k+q*8+1))).set ⟨g,o+q*8+2,none⟩ (.int .i64 (k+q*8+1+1))).set ⟨g,o+q*8+3,none⟩ (.int .i64 (k+q*8+1+1+1))) qo qo (by simp only[Value.int.injEq,true_and];omega);have r5:=bI.step (m:=q*8+5) (a:=o+q*8+5) (u:=.int .i64 (k+q*8+1+1+1+1+1)) r4 (((((l7.o.set ⟨g,o+q*8,none⟩ (.int .i64 (k+q*8))).set ⟨g,o+q*8+1,none⟩ (.int .i64 (k+q*8+1))).set ⟨g,o+q*8+2,none⟩ (.int .i64 (k+q*8+1+1))).set ⟨g,o+q*8+3,none⟩ (.int .i64 (k+q*8+1+1+1))).set ⟨g,o+q*8+4,none⟩ (.int .i64 (k+q*8+1+1+1+1))) qo qo (by simp only[Value.int.injEq,true_and];omega);have r6:=bI.step (m:=q*8+6) (a:=o+q*8+6) (u:=.int .i64 (k+q*8+1+1+1+1+1+1)) r5 ((((((l7.o.set ⟨g,o+q*8,none⟩ (.int .i64 (k+q*8))).set ⟨g,o+q*8+1,none⟩ (.int .i64 (k+q*8+1))).set ⟨g,o+q*8+2,none⟩ (.int .i64 (k+q*8+1+1))).set ⟨g,o+q*8+3,none⟩ (.int .i64 (k+q*8+1+1+1))).set ⟨g,o+q*8+4,none⟩ (.int .i64 (k+q*8+1+1+1+1))).set ⟨g,o+q*8+5,none⟩ (.int .i64 (k+q*8+1+1+1+1+1))) qo qo (by simp only[Value.int.injEq,true_and];omega);have r7:=bI.step (m:=q*8+7) (a:=o+q*8+7) (u:=.int .i64 (k+q*8+1+1+1+1+1+1+1)) r6 (((((((l7.o.set ⟨g,o+q*8,none⟩ (.int .i64 (k+q*8))).set ⟨g,o+q*8+1,none⟩ (.int .i64 (k+q*8+1))).set ⟨g,o+q*8+2,none⟩ (.int .i64 (k+q*8+1+1))).set ⟨g,o+q*8+3,none⟩ (.int .i64 (k+q*8+1+1+1))).set ⟨g,o+q*8+4,none⟩ (.int .i64 (k+q*8+1+1+1+1))).set ⟨g,o+q*8+5,none⟩ (.int .i64 (k+q*8+1+1+1+1+1))).set ⟨g,o+q*8+6,none⟩ (.int .i64 (k+q*8+1+1+1+1+1+1))) qo qo (by simp only[Value.int.injEq,true_and];omega);exact bI.cast qo r7
    case measure=>exact qs
   ·obtain rfl:q=n:=qo
    exact zQ22x4
theorem lu (z0 z1:Int)(w:World):
 Calls Tryz.prog 47 #[.agg #[.int .i64 z0,.int .i64 z1],.agg #[.int .i64 z0,.int .i64 z1]] w fun e w'=>e=.returned (.bool true)∧Below w.heap.size w w':=by
 go_enter Tryz.func47,Tryz.ntmps47
 go_wp2
 go_ret
 exact⟨rfl,qz⟩
theorem AJ (A A':OA)(n c c':Nat)(z:Nat→Int)(w:World)(ha:Rd w A (n*2) (fun j=>.int .i64 (z j)))(hb:Rd w A' (n*2) (fun j=>.int .i64 (z j)))(hn:n≤1000000000):
 Calls Tryz.prog 21 #[.slice A n c,.slice A' n c'] w fun e w'=>e=.returned (.bool true)∧Below w.heap.size w w':=by
 have HA:=qh ha;have HB:=qh hb;clear ha hb
 go_enter Tryz.func21,Tryz.ntmps21
 go_wp2
 go_loopw [5] (fun i wr=>∃k:Nat,k≤n∧i=.int .i64 k∧Below w.heap.size w wr) (fun i _=>n-(intOf i).toNat)
 case atStart=>exact⟨0,Nat.zero_le _,rfl,Below.refl _ _⟩
 case round=>
  obtain⟨k,hk,rfl,hbl⟩:=hrel;have HL:=qh hbl;clear hbl
  by_cases hlt:k<n
  ·obtain⟨g,o,rfl,hg,hc⟩:=HA.o qo
   obtain⟨g',o',rfl,hg',hc'⟩:=HB.o qo;have a0:=((aA HL.o).1 g _ hg).trans (hc (k*2+0) qo);have b0:=((aA HL.o).1 g' _ hg').trans (hc' (k*2+0) qo);have a1:=((aA HL.o).1 g _ hg).trans (hc (k*2+1) qo);have b1:=((aA HL.o).1 g' _ hg').trans (hc' (k*2+1) qo)
   simp only[←Nat.add_assoc]at a0 b0 a1 b1
   obtain⟨y0,hy0⟩:=qx (z (k*2+0));obtain⟨y1,hy1⟩:=qx (z (k*2+1))
   simp only[Nat.add_zero]at a0 b0 hy0
   simp only[←hy0,←hy1]at a0 b0 a1 b1
   clear hy0 hy1 hc hc';have hgr:g<wr.heap.size:=blt HL.o hg;have Eh:g'<wr.heap.size:=blt HL.o hg'
   go_wp2
   go_region_held3 (fun w'=>w'.cell? ⟨g,o+k*2,none⟩=some (.int .i64 y0)∧w'.cell? ⟨g',o'+k*2,none⟩=some (.int .i64 y0)∧w'.cell? ⟨g,o+k*2+1,none⟩=some (.int .i64 y1)∧w'.cell? ⟨g',o'+k*2+1,none⟩=some (.int .i64 y1)) (go_keep) (first|(go_at_call 47;refine(lu y0 y1 _).mono ?_;rintro e w1 ⟨rfl,hb1⟩;have hk1:=fun x=>(aA hb1).1 g x (by simpa using hgr);have hk2:=fun x=>(aA hb1).1 g' x (by simpa using Eh)))
   exact zQ22x6
  ·obtain rfl:k=n:=qo
   go_wp2
   go_ret
   exact⟨rfl,HL.o⟩
theorem QP (A:OA)(n c:Nat)(k:Int)(w:World)(h:Wr w A (n*2))(hn:n≤1000000000)(h0:0≤k)(hk:k≤2000000000):
 Calls Tryz.prog 22 #[.slice A n c,.int .i64 k] w (q8 w A (n*2) (k+n*2) (fun j=>.int .i64 (k+j))):=by
 by_cases hz:n=0
 ·subst hz
  go_enter Tryz.func22,Tryz.ntmps22
  exact zQ22x1
 ·obtain⟨g,o,rfl,hw⟩:=h qo
  clear h;have hg:=hw.lt qo;have HW:=qh hw;clear hw
  go_enter Tryz.func22,Tryz.ntmps22
  go_wp2
  go_loopw [1,5] (fun kk i wr=>∃q:Nat,q≤n∧i=.int .i64 q∧kk=.int .i64 (k+q*2)∧g<wr.heap.size∧Only w wr g∧dS wr g o (n*2)∧bI wr g o (q*2) (fun j=>.int .i64 (k+j))) (fun _ i _=>n-(intOf i).toNat)
  case atStart=>exact⟨0,Nat.zero_le _,rfl,by simp,hg,Only.refl _ _,HW.o,fun j hj=>absurd hj qo⟩
  case round=>
   obtain⟨q,hq,rfl,rfl,hgr,ho,hw,hr⟩:=hrel;have HO:=qh ho;have l7:=qh hw;have HR:=qh hr;clear ho hw hr
   by_cases hlt:q<n
   ·obtain⟨⟨u100,hu0⟩,hf0⟩:=l7.o (q*2+0) qo
    obtain⟨⟨u101,hu1⟩,hf1⟩:=l7.o (q*2+1) qo
    simp only[←Nat.add_assoc,Nat.add_zero]at hu0 hf0 hu1 hf1
    go_wp2
    go_roundw
    case rel=>
     refine⟨q+1,by omega,qg,qg,by simp;exact hgr,((HO.o.set _ _).set _ _),((l7.o.set _ _).set _ _),?_⟩;have r0:=bI.step (m:=q*2) (a:=o+q*2) (u:=.int .i64 (k+q*2)) HR.o l7.o qo qo (by simp only[Value.int.injEq,true_and];omega);have r1:=bI.step (m:=q*2+1) (a:=o+q*2+1) (u:=.int .i64 (k+q*2+1)) r0 (l7.o.set ⟨g,o+q*2,none⟩ (.int .i64 (k+q*2))) qo qo (by simp only[Value.int.injEq,true_and];omega);exact bI.cast qo r1
    case measure=>exact qs
   ·obtain rfl:q=n:=qo
    exact zQ22x4
theorem DQ (A:OA)(n c:Nat)(k:Int)(w:World)(h:Rd w A (n*2) (fun j=>.int .i64 (k+j)))(hn:n≤1000000000)(h0:0≤k)(hk:k≤2000000000):
 Calls Tryz.prog 23 #[.slice A n c,.int .i64 k] w fun e w'=>e=.returned (.int .i64 (k+n*2))∧Below w.heap.size w w':=by
 have H:=qh h;clear h
 go_enter Tryz.func23,Tryz.ntmps23
 go_wp2
 go_loop [1,5] (fun kk i=>∃q:Nat,q≤n∧i=.int .i64 q∧kk=.int .i64 (k+q*2)) (fun _ i=>n-(intOf i).toNat)
 case atStart=>exact⟨0,Nat.zero_le _,rfl,by simp⟩
 case round=>
  obtain⟨q,hq,rfl,rfl⟩:=hrel
  by_cases hlt:q<n
  ·obtain⟨g,o,rfl,hg,hr⟩:=H.o qo
   have c0:=hr (q*2+0) qo;have c1:=hr (q*2+1) qo
   simp only[←Nat.add_assoc,Nat.add_zero]at c0 c1
   clear hr;have d0:k+((q*2:Nat):Int)=k+(q:Int)*2:=qo;have d1:k+((q*2+1:Nat):Int)=k+(q:Int)*2+1:=qo
   simp only[d0,d1]at c0 c1
   clear d0 d1
   go_wp2
   go_round
   case rel=>exact⟨q+1,by omega,qg,qg⟩
   case measure=>exact qs
  ·obtain rfl:q=n:=qo
   go_wp2
   go_ret
   exact⟨rfl,Below.refl _ _⟩
theorem acw (z0 z1 z2 z3 z4 z5:Int)(w:World):
 Calls Tryz.prog 57 #[.agg #[.int .i64 z0,.int .i64 z1,.int .i64 z2,.int .i64 z3,.int .i64 z4,.int .i64 z5],.agg #[.int .i64 z0,.int .i64 z1,.int .i64 z2,.int .i64 z3,.int .i64 z4,.int .i64 z5]] w fun e w'=>e=.returned (.bool true)∧Below w.heap.size w w':=by
 go_enter Tryz.func57,Tryz.ntmps57
 go_wp2
 go_ret
 exact⟨rfl,qz⟩
theorem acj (A A':OA)(n c c':Nat)(z:Nat→Int)(w:World)(ha:Rd w A (n*6) (fun j=>.int .i64 (z j)))(hb:Rd w A' (n*6) (fun j=>.int .i64 (z j)))(hn:n≤1000000000):
 Calls Tryz.prog 28 #[.slice A n c,.slice A' n c'] w fun e w'=>e=.returned (.bool true)∧Below w.heap.size w w':=by
 have HA:=qh ha;have HB:=qh hb;clear ha hb
 go_enter Tryz.func28,Tryz.ntmps28
 go_wp2
 go_loopw [5] (fun i wr=>∃k:Nat,k≤n∧i=.int .i64 k∧Below w.heap.size w wr) (fun i _=>n-(intOf i).toNat)
 case atStart=>exact⟨0,Nat.zero_le _,rfl,Below.refl _ _⟩
 case round=>
  obtain⟨k,hk,rfl,hbl⟩:=hrel;have HL:=qh hbl;clear hbl
  by_cases hlt:k<n
  ·obtain⟨g,o,rfl,hg,hc⟩:=HA.o qo
   obtain⟨g',o',rfl,hg',hc'⟩:=HB.o qo;have a0:=((aA HL.o).1 g _ hg).trans (hc (k*6+0) qo);have b0:=((aA HL.o).1 g' _ hg').trans (hc' (k*6+0) qo);have a1:=((aA HL.o).1 g _ hg).trans (hc (k*6+1) qo);have b1:=((aA HL.o).1 g' _ hg').trans (hc' (k*6+1) qo);have a2:=((aA HL.o).1 g _ hg).trans (hc (k*6+2) qo);have b2:=((aA HL.o).1 g' _ hg').trans (hc' (k*6+2) qo);have a3:=((aA HL.o).1 g _ hg).trans (hc (k*6+3) qo);have b3:=((aA HL.o).1 g' _ hg').trans (hc' (k*6+3) qo);have a4:=((aA HL.o).1 g _ hg).trans (hc (k*6+4) qo);have b4:=((aA HL.o).1 g' _ hg').trans (hc' (k*6+4) qo);have a5:=((aA HL.o).1 g _ hg).trans (hc (k*6+5) qo);have b5:=((aA HL.o).1 g' _ hg').trans (hc' (k*6+5) qo)
   simp only[←Nat.add_assoc]at a0 b0 a1 b1 a2 b2 a3 b3 a4 b4 a5 b5
   obtain⟨y0,hy0⟩:=qx (z (k*6+0));obtain⟨y1,hy1⟩:=qx (z (k*6+1));obtain⟨y2,hy2⟩:=qx (z (k*6+2));obtain⟨y3,hy3⟩:=qx (z (k*6+3));obtain⟨y4,hy4⟩:=qx (z (k*6+4));obtain⟨y5,KM⟩:=qx (z (k*6+5))
   simp only[Nat.add_zero]at a0 b0 hy0
   simp only[←hy0,←hy1,←hy2,←hy3,←hy4,←KM]at a0 b0 a1 b1 a2 b2 a3 b3 a4 b4 a5 b5
   clear hy0 hy1 hy2 hy3 hy4 KM hc hc';have hgr:g<wr.heap.size:=blt HL.o hg;have Eh:g'<wr.heap.size:=blt HL.o hg'
   go_wp2
   go_region_held3 (fun w'=>w'.cell? ⟨g,o+k*6,none⟩=some (.int .i64 y0)∧w'.cell? ⟨g',o'+k*6,none⟩=some (.int .i64 y0)∧w'.cell? ⟨g,o+k*6+1,none⟩=some (.int .i64 y1)∧w'.cell? ⟨g',o'+k*6+1,none⟩=some (.int .i64 y1)∧w'.cell? ⟨g,o+k*6+2,none⟩=some (.int .i64 y2)∧w'.cell? ⟨g',o'+k*6+2,none⟩=some (.int .i64 y2)∧w'.cell? ⟨g,o+k*6+3,none⟩=some (.int .i64 y3)∧w'.cell? ⟨g',o'+k*6+3,none⟩=some (.int .i64 y3)∧w'.cell? ⟨g,o+k*6+4,none⟩=some (.int .i64 y4)∧w'.cell? ⟨g',o'+k*6+4,none⟩=some (.int .i64 y4)∧w'.cell? ⟨g,o+k*6+5,none⟩=some (.int .i64 y5)∧w'.cell? ⟨g',o'+k*6+5,none⟩=some (.int .i64 y5)) (go_keep) (first|(go_at_call 57;refine(acw y0 y1 y2 y3 y4 y5 _).mono ?_;rintro e w1 ⟨rfl,hb1⟩;have hk1:=fun x=>(aA hb1).1 g x (by simpa using hgr);have hk2:=fun x=>(aA hb1).1 g' x (by simpa using Eh)))
   exact zQ22x6
  ·obtain rfl:k=n:=qo
   go_wp2
   go_ret
   exact⟨rfl,HL.o⟩
theorem abU (A:OA)(n c:Nat)(k:Int)(w:World)(h:Wr w A (n*6))(hn:n≤1000000000)(h0:0≤k)(hk:k≤2000000000):
 Calls Tryz.prog 29 #[.slice A n c,.int .i64 k] w (q8 w A (n*6) (k+n*6) (fun j=>.int .i64 (k+j))):=by
 by_cases hz:n=0
 ·subst hz
  go_enter Tryz.func29,Tryz.ntmps29
  exact zQ22x1
 ·obtain⟨g,o,rfl,hw⟩:=h qo
  clear h;have hg:=hw.lt qo;have HW:=qh hw;clear hw
  go_enter Tryz.func29,Tryz.ntmps29
  go_wp2
  go_loopw [1,5] (fun kk i wr=>∃q:Nat,q≤n∧i=.int .i64 q∧kk=.int .i64 (k+q*6)∧g<wr.heap.size∧Only w wr g∧dS wr g o (n*6)∧bI wr g o (q*6) (fun j=>.int .i64 (k+j))) (fun _ i _=>n-(intOf i).toNat)
  case atStart=>exact⟨0,Nat.zero_le _,rfl,by simp,hg,Only.refl _ _,HW.o,fun j hj=>absurd hj qo⟩
  case round=>
   obtain⟨q,hq,rfl,rfl,hgr,ho,hw,hr⟩:=hrel;have HO:=qh ho;have l7:=qh hw;have HR:=qh hr;clear ho hw hr
   by_cases hlt:q<n
   ·obtain⟨⟨u100,hu0⟩,hf0⟩:=l7.o (q*6+0) qo
    obtain⟨⟨u101,hu1⟩,hf1⟩:=l7.o (q*6+1) qo;obtain⟨⟨u102,hu2⟩,hf2⟩:=l7.o (q*6+2) qo;obtain⟨⟨u103,hu3⟩,hf3⟩:=l7.o (q*6+3) qo;obtain⟨⟨u104,hu4⟩,fW⟩:=l7.o (q*6+4) qo;obtain⟨⟨u105,tu⟩,rY⟩:=l7.o (q*6+5) qo
    simp only[←Nat.add_assoc,Nat.add_zero]at hu0 hf0 hu1 hf1 hu2 hf2 hu3 hf3 hu4 fW tu rY
    go_wp2
    go_roundw
    case rel=>
     refine⟨q+1,by omega,qg,qg,by simp;exact hgr,((((((HO.o.set _ _).set _ _).set _ _).set _ _).set _ _).set _ _),((((((l7.o.set _ _).set _ _).set _ _).set _ _).set _ _).set _ _),?_⟩;have r0:=bI.step (m:=q*6) (a:=o+q*6) (u:=.int .i64 (k+q*6)) HR.o l7.o qo qo (by simp only[Value.int.injEq,true_and];omega);have r1:=bI.step (m:=q*6+1) (a:=o+q*6+1) (u:=.int .i64 (k+q*6+1)) r0 (l7.o.set ⟨g,o+q*6,none⟩ (.int .i64 (k+q*6))) qo qo (by simp only[Value.int.injEq,true_and];omega);have r2:=bI.step (m:=q*6+2) (a:=o+q*6+2) (u:=.int .i64 (k+q*6+1+1)) r1 ((l7.o.set ⟨g,o+q*6,none⟩ (.int .i64 (k+q*6))).set ⟨g,o+q*6+1,none⟩ (.int .i64 (k+q*6+1))) qo qo (by simp only[Value.int.injEq,true_and];omega);have r3:=bI.step (m:=q*6+3) (a:=o+q*6+3) (u:=.int .i64 (k+q*6+1+1+1)) r2 (((l7.o.set ⟨g,o+q*6,none⟩ (.int .i64 (k+q*6))).set ⟨g,o+q*6+1,none⟩ (.int .i64 (k+q*6+1))).set ⟨g,o+q*6+2,none⟩ (.int .i64 (k+q*6+1+1))) qo qo (by simp only[Value.int.injEq,true_and];omega);have r4:=bI.step (m:=q*6+4) (a:=o+q*6+4) (u:=.int .i64 (k+q*6+1+1+1+1)) r3 ((((l7.o.set ⟨g,o+q*6,none⟩ (.int .i64 (k+q*6))).set ⟨g,o+q*6+1,none⟩ (.int .i64 (k+q*6+1))).set ⟨g,o+q*6+2,none⟩ (.int .i64 (k+q*6+1+1))).set ⟨g,o+q*6+3,none⟩ (.int .i64 (k+q*6+1+1+1))) qo qo (by simp only[Value.int.injEq,true_and];omega);have r5:=bI.step (m:=q*6+5) (a:=o+q*6+5) (u:=.int .i64 (k+q*6+1+1+1+1+1)) r4 (((((l7.o.set ⟨g,o+q*6,none⟩ (.int .i64 (k+q*6))).set ⟨g,o+q*6+1,none⟩ (.int .i64 (k+q*6+1))).set ⟨g,o+q*6+2,none⟩ (.int .i64 (k+q*6+1+1))).set ⟨g,o+q*6+3,none⟩ (.int .i64 (k+q*6+1+1+1))).set ⟨g,o+q*6+4,none⟩ (.int .i64 (k+q*6+1+1+1+1))) qo qo (by simp only[Value.int.injEq,true_and];omega);exact bI.cast qo r5
    case measure=>exact qs
   ·obtain rfl:q=n:=qo
    exact zQ22x4
theorem abX (A:OA)(n c L:Nat)(w:World)(hn:n≤maxLen)(hL:L≤1048576):
 Calls Tryz.prog 24 #[.slice A n c,.int .i64 L] w fun e w'=>∃r:Int,(r<0∨(n≤L∧r=L-n))∧e=.returned (.int .i64 r)∧w=w':=by
 unfold maxLen at hn
 by_cases hle:n≤L
 ·go_enter Tryz.func24,Tryz.ntmps24
  go_wp2
  go_ret
  exact⟨(L:Int)-n,.inr ⟨hle,rfl⟩,rfl,rfl⟩
 ·go_enter Tryz.func24,Tryz.ntmps24
  go_wp2
  go_ret
  exact⟨-1,.inl qo,rfl,rfl⟩
theorem acv (z0 z1 z2 z3 z4 z5:Int)(w:World):
 Calls Tryz.prog 51 #[.agg #[.int .i64 z0,.int .i64 z1,.int .i64 z2,.int .i64 z3,.int .i64 z4,.int .i64 z5]] w fun e w'=>e=.returned (.agg #[.int .i64 z0,.int .i64 z1,.int .i64 z2,.int .i64 z3,.int .i64 z4,.int .i64 z5])∧Below w.heap.size w w':=by
 go_enter Tryz.func51,Tryz.ntmps51
 go_wp2
 refine bodyPost_ret (v:=.agg #[.int .i64 z0,.int .i64 z1,.int .i64 z2,.int .i64 z3,.int .i64 z4,.int .i64 z5]) (by simp[results,Tryz.results51,go_sem]) rfl ⟨rfl,?_⟩;exact qz
theorem ac2:(Tryz.prog.info? 91).map (fun i=>(i.zero,i.size,i.bytes))=some (some (.agg #[.int .i64 0,.int .i64 0,.int .i64 0,.int .i64 0,.int .i64 0,.int .i64 0]),6,48):=by kernel_rfl
theorem oo (A:OA)(n c:Nat)(z:Nat→Int)(w:World)(ha:Rd w A (n*6) (fun j=>.int .i64 (z j)))(hn:n≤1048576):
 Calls Tryz.prog 26 #[.slice A n c] w (ahV w n (n*6) (fun j=>.int .i64 (z j))):=by
 have HA:=qh ha;clear ha;obtain⟨i0,hi,hz0,hz1,hz2⟩:=info_parts ac2
 go_enter Tryz.func26,Tryz.ntmps26
 go_wp2_with (at_make;refine wpList_make_full _ rfl _ _ 49 rfl w.heap.size 91 i0 (.agg #[.int .i64 0,.int .i64 0,.int .i64 0,.int .i64 0,.int .i64 0,.int .i64 0]) 6 Tryz.underlying49 hi hz0 hz1 .i64 .i64 n n n rfl rfl rfl rfl (by rw[hz2];omega) qm ql ?_;intro w1 hown hg1)
 have hb1:=(Below.refl w.heap.size w).grown hg1 ql (fun k e=>by cases e);have hw1:=dS.kM hown;have hg1:w.heap.size<w1.heap.size:=(hown.lt _ rfl).2;have HB:=qh hb1;have HW:=qh hw1;clear hb1 hw1 hown
 go_loopw [4] (fun i wr=>∃k:Nat,k≤n∧i=.int .i64 k∧Below w.heap.size w wr∧w.heap.size<wr.heap.size∧dS wr w.heap.size 0 (n*6)∧bI wr w.heap.size 0 (k*6) (fun j=>.int .i64 (z j))) (fun i _=>n-(intOf i).toNat)
 case atStart=>exact⟨0,Nat.zero_le _,rfl,HB.o,hg1,HW.o,fun j hj=>absurd hj qo⟩
 case round=>
  obtain⟨k,hk,rfl,hb,hgr,hw,hr⟩:=hrel;have HB:=qh hb;have HW:=qh hw;have HR:=qh hr;clear hb hw hr
  by_cases hlt:k<n
  ·obtain⟨g,o,rfl,hg,hra⟩:=HA.o qo
   have hc0:=((aA HB.o).1 _ _ hg).trans (hra (k*6+0) qo);obtain⟨x0,hx0⟩:=qx (z (k*6))
   simp only[←hx0,Nat.add_zero]at hc0
   have HX0:=qh hx0;clear hx0;have hc1:=((aA HB.o).1 _ _ hg).trans (hra (k*6+1) qo);obtain⟨x1,hx1⟩:=qx (z (k*6+1))
   simp only[←hx1,←Nat.add_assoc]at hc1
   have dN:=qh hx1;clear hx1;have hc2:=((aA HB.o).1 _ _ hg).trans (hra (k*6+2) qo);obtain⟨x2,hx2⟩:=qx (z (k*6+2))
   simp only[←hx2,←Nat.add_assoc]at hc2
   have eI:=qh hx2;clear hx2;have hc3:=((aA HB.o).1 _ _ hg).trans (hra (k*6+3) qo);obtain⟨x3,hx3⟩:=qx (z (k*6+3))
   simp only[←hx3,←Nat.add_assoc]at hc3
   have CE:=qh hx3;clear hx3;have hc4:=((aA HB.o).1 _ _ hg).trans (hra (k*6+4) qo);obtain⟨x4,hx4⟩:=qx (z (k*6+4))
   simp only[←hx4,←Nat.add_assoc]at hc4
   have Om:=qh hx4;clear hx4;have oM:=((aA HB.o).1 _ _ hg).trans (hra (k*6+5) qo);obtain⟨x5,hx5⟩:=qx (z (k*6+5))
   simp only[←hx5,←Nat.add_assoc]at oM
   have Ol:=qh hx5;clear hx5;clear hra
   go_wp2_with fail
   refine(acv x0 x1 x2 x3 x4 x5 _).mono ?_;rintro e w2 ⟨rfl,hb2⟩;have hw2:=HW.o.below (hb2.mono ql);have HR2:=qh (HR.o.below hgr hb2);have HB2:=HB.st hb2;have ahJ:w.heap.size<w2.heap.size:=blt hb2 hgr;obtain⟨⟨u0,hu0⟩,hf0⟩:=hw2 (k*6+0) qo
   simp only[Nat.zero_add,Nat.add_zero]at hu0 hf0
   obtain⟨⟨u1,hu1⟩,hf1⟩:=hw2 (k*6+1) qo
   simp only[Nat.zero_add]at hu1 hf1
   obtain⟨⟨u2,hu2⟩,hf2⟩:=hw2 (k*6+2) qo
   simp only[Nat.zero_add]at hu2 hf2
   obtain⟨⟨u3,hu3⟩,hf3⟩:=hw2 (k*6+3) qo
   simp only[Nat.zero_add]at hu3 hf3
   obtain⟨⟨u4,hu4⟩,fW⟩:=hw2 (k*6+4) qo
   simp only[Nat.zero_add]at hu4 fW
   obtain⟨⟨u5,tu⟩,rY⟩:=hw2 (k*6+5) qo
   simp only[Nat.zero_add]at tu rY
   have HW2:=qh hw2;clear hw2 hb2 hc0 hc1 hc2 hc3 hc4 oM
   go_wp2
   go_roundw
   case rel=>
    refine⟨k+1,by omega,qg,by exact((((((HB2.o.setCell ql _).setCell ql _).setCell ql _).setCell ql _).setCell ql _).setCell ql _),by simp[World.setCell];exact ahJ,by exact((((((HW2.o.set _ _).set _ _).set _ _).set _ _).set _ _).set _ _),?_⟩;have h0:=HR2.o;have h1:=h0.step (a:=k*6+0) (u:=.int .i64 x0) (HW2.o) qo qo (by rw[HX0.o]);have h2:=h1.step (a:=k*6+1) (u:=.int .i64 x1) ((HW2.o.set _ _)) qo qo (by rw[dN.o]);have h3:=h2.step (a:=k*6+2) (u:=.int .i64 x2) (((HW2.o.set _ _).set _ _)) qo qo (by rw[eI.o]);have h4:=h3.step (a:=k*6+3) (u:=.int .i64 x3) ((((HW2.o.set _ _).set _ _).set _ _)) qo qo (by rw[CE.o]);have h5:=h4.step (a:=k*6+4) (u:=.int .i64 x4) (((((HW2.o.set _ _).set _ _).set _ _).set _ _)) qo qo (by rw[Om.o]);have h6:=h5.step (a:=k*6+5) (u:=.int .i64 x5) ((((((HW2.o.set _ _).set _ _).set _ _).set _ _).set _ _)) qo qo (by rw[Ol.o]);exact bI.cast qo h6
   case measure=>exact qs
  ·obtain rfl:k=n:=qo
   go_wp2
   go_ret
   exact⟨_,_,rfl,New.ab7 HB.o ql hgr HW.o HR.o⟩
end Go.Proofs.YtdnmhhohcedjbaaGreat
namespace Go.Proofs.YtdnmhhohcedjbaaGreat
open Go.RowKit Go.WideShapes Go.ChangeShapes Go.Deep Go.Joins Go.ChangeAt
theorem own:ownKnob Tryz.prog.godebug=none:=by kernel_rfl
theorem laidOut:laidOutB Tryz.prog=true:=by kernel_rfl
theorem GO {H:Type}{enc:TypeId×Value→H}{P:Program}(hl:laidOutB P=true){W W':World}(hb:Below W.heap.size W W'):
 ∀(ts:List TypeId) (vs:List Value) (ds:List (DataW H)) (ps:List MemPlace),(∀t∈ts,P.readableRec t=true∧t<P.types.size)→(∀x∈ps,x.block<W.heap.size)→
  DataW.TrodAll enc P W 0 (fun _=>true) true ts vs ds ps→DataW.TrodAll enc P W' 0 (fun b=>decide (b<W.heap.size)) true ts vs ds ps
 |[],vs,ds,ps,_,_,h=>by
  obtain⟨rfl,rfl,rfl⟩:=trodAll_nil h;exact trodAll_mk0
 |t::ts,vs,ds,ps,ht,hlt,h=>by
  obtain⟨v,vs',d,ds',p,q,rfl,rfl,rfl,h0,h1⟩:=trodAll_cons h;exact trodAll_cons_mk (Below.trod hl (ht t (by simp)).1 (ht t (by simp)).2 h0 hb (fun x hx=>hlt x (by simp[hx])))
   (GO hl hb ts vs' ds' q (fun u hu=>ht u (by simp[hu])) (fun x hx=>hlt x (by simp[hx])) h1)
theorem LS {H:Type}{enc:TypeId×Value→H}{P:Program}(hl:laidOutB P=true){f:Func}{s:ChangeSpec}{W W':World}{args:Array Value}{ds:List (DataW H)}{before:List MemPlace}{tb:TypeId}
 (hv:s.vars=[]) (hfn:s.fn H (ds++[])={results:=[.lit (.bool true)],args:=ds}) (hrt:f.resultTypes=#[tb]) (htb:P.underlying tb=some .bool)
 (hread:∀t∈f.params.toList,P.readableRec t=true∧t<P.types.size)
 (hW:DataW.Whole enc P f.params.toList s.vars false W args.toList ds [] before) (hb:Below W.heap.size W W'):
 ∃v,Ending.returned (.bool true)=.returned v∧s.post enc P f false true false false W args v W':=by
 have hlt:∀p∈before,p.block<W.heap.size:=fun p hp=>hW.lt p hp;have hW':=hW;obtain⟨p,q,hA,hV,rfl,hfz,hnd⟩:=hW';rw[hv]at hV;obtain⟨_,rfl⟩:=trodVars_none hV;refine⟨_,rfl,ds,[],_,[],p,[],hW,?_,?_,?_,hb.frame _,fun h=>by cases h⟩
 ·rw[hfn,hrt]
  exact trodAll_mk1 (shut_bool htb _)
 ·rw[hfn]
  exact GO hl hb _ _ _ _ hread (fun x hx=>hlt x (by simp[hx])) hA
 ·rw[hfn,hv]
  rfl
section
variable {H:Type}{enc:TypeId×Value→H}{P:Program}{w:World}{base:Nat}{spare:Nat→Bool}{held:Bool}
theorem abO {t e:TypeId}{fs:Array Field}{fuel:Nat}{cs:List Value}{x:DataW H×List MemPlace}(ht:P.underlying t=some (.slice e))(he:P.underlying e=some (.struct fs))
 (hone:oneCellFields P fs=true) (hC:P.cellsOf e=fs.size) (h:DataW.trod enc P w base spare held fuel t cs=some x):
 (cs=[.slice none 0 0]∧x=(.nil,[]))∨
 ∃(a:Addr) (len cap m:Nat) (D:Nat→DataW H) (Pl:Nat→List MemPlace),cs=[.slice (some a) len cap]∧base≤a.block∧len≤cap∧cap≤maxLen∧m=(if spare a.block then cap else len)∧
  x=(.slice ((List.range len).map D) ((List.range (m-len)).map fun j=>D (len+j)),MemPlace.row a (m*fs.size)++(List.range m).flatMap Pl)∧
  ∀i,i<m→∃(ys:List (DataW H×List MemPlace)) (n:Nat),D i=.agg (ys.map (·.1))∧Pl i=ys.flatMap (·.2)∧ys.length=fs.size∧
   ∀(j:Nat) (f:Field),fs[j]?=some f→∃(v:Value) (y:DataW H×List MemPlace),w.cell? (a.add (i*fs.size+j))=some v∧ys[j]?=some y∧DataW.trod enc P w base spare held n f.type [v]=some y:=by
 rcases open_slice ht h with h0|⟨a,len,cap,m,n,D,Pl,hcs,hb,hl,hm,hmm,hx,hi⟩
 ·exact .inl h0
 ·refine .inr ⟨a,len,cap,m,D,Pl,hcs,hb,hl,hm,hmm,by rw[hC]at hx;exact hx,fun i him=>?_⟩
  obtain⟨cs',hc,ht'⟩:=hi i him;rw[hC]at hc;obtain⟨ys,n',hn',hy,hlen,hyl,hf⟩:=DataW.trod_struct he ht';obtain⟨_,hcl,hat⟩:=World.cells?_some hc
  simp only[Prod.mk.injEq]at hy
  refine⟨ys,n',hy.1,hy.2,hyl,fun j f hj=>?_⟩;obtain⟨ho,hk⟩:=hone_of hone j f hj;have hjl:j<fs.size:=(Array.getElem?_eq_some_iff.1 hj).1;have hcell:=hat j hjl;have hv:cs'[j]?=some (cs'[j]'(by omega)):=List.getElem?_eq_getElem (by omega);have h1:=hf j f hj;rw[ho,hk]at h1;have ag0:(cs'.drop j).take 1=[cs'[j]'(by omega)]:=by
   rw[List.drop_eq_getElem_cons (by omega)]
   rfl
  rw[ag0]at h1;have hys:ys[j]?=some (ys[j]'(by omega)):=List.getElem?_eq_getElem (by omega);refine⟨_,_,?_,hys,h1.trans hys⟩;rw[←Go.Deep.add_add,hcell,hv]
end
section
variable {H:Type}{enc:TypeId×Value→H}{P:Program}{w:World}{base:Nat}{spare:Nat→Bool}{held:Bool}
end
theorem Ia {w:World}{a:Addr}{v:Value}(h:w.cell? a=some v):∃g o,a=⟨g,o,none⟩:=by
 obtain⟨g,o,sp⟩:=a;obtain rfl:sp=none:=by simpa using World.cell?_spot h
 exact⟨g,o,rfl⟩
end Go.Proofs.YtdnmhhohcedjbaaGreat
namespace Go.Proofs.YtdnmhhohcedjbaaGreat
open Go.RowKit Go.WideShapes Go.ChangeShapes Go.Deep Go.Joins Go.ChangeAt
variable {H:Type}{enc:TypeId×Value→H}{P:Program}{W:World}{spare:Nat→Bool}{held:Bool}
theorem aaG {e en:TypeId}{f0 f1 f2 f3 f4 f5 g0 g1:Field}{m:Nat}{cs:List Value}{x:DataW H×List MemPlace}(he:P.underlying e=some (.struct #[f0,f1,f2,f3,f4,f5]))(hC:P.cellsOf e=8)
 (ho:[f0.offset,f1.offset,f2.offset,f3.offset,f4.offset,f5.offset]=[0,1,2,4,6,7]) (hk:[P.cellsOf f0.type,P.cellsOf f1.type,P.cellsOf en,P.cellsOf f4.type,P.cellsOf f5.type]=[1,1,2,1,1])
 (h0:P.underlying f0.type=some (.int .i64)) (h1:P.underlying f1.type=some (.int .i64)) (h2:f2.type=en) (h3:f3.type=en) (h4:P.underlying f4.type=some (.int .i64)) (h5:P.underlying f5.type=some (.int .i64))
 (hn:P.underlying en=some (.struct #[g0,g1])) (hon:oneCellFields P #[g0,g1]=true) (hg0:P.underlying g0.type=some (.int .i64)) (hg1:P.underlying g1.type=some (.int .i64))
 (h:DataW.trod enc P W 0 spare held m e cs=some x):
 ∃z0 z1 z2 z3 z4 z5 z6 z7:Int,cs=[.int .i64 z0,.int .i64 z1,.int .i64 z2,.int .i64 z3,.int .i64 z4,.int .i64 z5,.int .i64 z6,.int .i64 z7]:=by
 obtain⟨xs,n,_,_,hcl,hxl,hf⟩:=DataW.trod_struct he h
 simp only[List.cons.injEq,and_true]at ho hk
 obtain⟨o0,o1,o2,o3,o4,o5⟩:=ho;obtain⟨k0,k1,k2,k4,k5⟩:=hk;obtain⟨p0,q0⟩:=hone_of hon 0 g0 rfl;obtain⟨p1,q1⟩:=hone_of hon 1 g1 rfl
 match cs,hcl.trans hC,xs,hxl with
 |[c0,c1,c2,c3,c4,c5,c6,c7],_,[y0,y1,y2,y3,y4,y5],_=>
  have t0:=hf 0 f0 rfl;have t1:=hf 1 f1 rfl;have t2:=hf 2 f2 rfl;have t3:=hf 3 f3 rfl;have t4:=hf 4 f4 rfl;have t5:=hf 5 f5 rfl;rw[o0,k0]at t0;rw[o1,k1]at t1;rw[o2,h2,k2]at t2;rw[o3,h3,k2]at t3;rw[o4,k4]at t4;rw[o5,k5]at t5;obtain⟨u0,u1,n2,_,_,s0,s1⟩:=trod_struct2 hn (show DataW.trod enc P W 0 spare held n en [c2,c3]=some y2 from t2);obtain⟨v0,v1,n3,_,_,r0,r1⟩:=trod_struct2 hn (show DataW.trod enc P W 0 spare held n en [c4,c5]=some y3 from t3);rw[p0,q0]at s0 r0;rw[p1,q1]at s1 r1;obtain⟨z0,e0,_,_⟩:=DataW.trod_int h0 (show DataW.trod enc P W 0 spare held n f0.type [c0]=some y0 from t0);obtain⟨z1,e1,_,_⟩:=DataW.trod_int h1 (show DataW.trod enc P W 0 spare held n f1.type [c1]=some y1 from t1);obtain⟨z2,e2,_,_⟩:=DataW.trod_int hg0 (show DataW.trod enc P W 0 spare held n2 g0.type [c2]=some u0 from s0);obtain⟨z3,e3,_,_⟩:=DataW.trod_int hg1 (show DataW.trod enc P W 0 spare held n2 g1.type [c3]=some u1 from s1);obtain⟨z4,e4,_,_⟩:=DataW.trod_int hg0 (show DataW.trod enc P W 0 spare held n3 g0.type [c4]=some v0 from r0);obtain⟨z5,e5,_,_⟩:=DataW.trod_int hg1 (show DataW.trod enc P W 0 spare held n3 g1.type [c5]=some v1 from r1);obtain⟨z6,e6,_,_⟩:=DataW.trod_int h4 (show DataW.trod enc P W 0 spare held n f4.type [c6]=some y4 from t4);obtain⟨z7,e7,_,_⟩:=DataW.trod_int h5 (show DataW.trod enc P W 0 spare held n f5.type [c7]=some y5 from t5)
  simp at e0 e1 e2 e3 e4 e5 e6 e7
  subst e0 e1 e2 e3 e4 e5 e6 e7;exact⟨z0,z1,z2,z3,z4,z5,z6,z7,rfl⟩
theorem zQ22x7 {p:Prop}(h:p:=by
 refine⟨g,o,rfl,by simpa [Addr.add_lit]using World.block_lt_of_cell? W _ h00,fun q hq=>?_⟩;have:=hz q hq;rw[Addr.add_lit]at this;exact this):p:=h
theorem iw {t e en:TypeId}{f0 f1 f2 f3 f4 f5 g0 g1:Field}{fuel:Nat}{u:Value}{x:DataW H×List MemPlace}(ht:P.underlying t=some (.slice e))(he:P.underlying e=some (.struct #[f0,f1,f2,f3,f4,f5]))(hC:P.cellsOf e=8)
 (ho:[f0.offset,f1.offset,f2.offset,f3.offset,f4.offset,f5.offset]=[0,1,2,4,6,7]) (hk:[P.cellsOf f0.type,P.cellsOf f1.type,P.cellsOf en,P.cellsOf f4.type,P.cellsOf f5.type]=[1,1,2,1,1])
 (h0:P.underlying f0.type=some (.int .i64)) (h1:P.underlying f1.type=some (.int .i64)) (h2:f2.type=en) (h3:f3.type=en) (h4:P.underlying f4.type=some (.int .i64)) (h5:P.underlying f5.type=some (.int .i64))
 (hn:P.underlying en=some (.struct #[g0,g1])) (hon:oneCellFields P #[g0,g1]=true) (hg0:P.underlying g0.type=some (.int .i64)) (hg1:P.underlying g1.type=some (.int .i64))
 (hf:DataW.trod enc P W 0 spare held fuel t [u]=some x):
 ∃(A:OA) (n q:Nat) (z:Nat→Int),u=.slice A n q∧Rd W A (n*8) (fun j=>.int .i64 (z j))∧n≤maxLen:=by
 rcases open_slice ht hf with⟨hcs,_⟩|⟨a,len,cap,m,k,D,Pl,hcs,_,hl,hm,hmm,_,hel⟩
 ·simp at hcs
  subst hcs;exact⟨none,0,0,fun _=>0,rfl,fun h=>absurd h qo,by simp⟩
 ·simp at hcs
  subst hcs;have hle:len≤m:=by rw[hmm];split<;>omega
  have hall:∀q,∃z:Int,q<len*8→W.cell? (a.add q)=some (.int .i64 z):=by
   intro q
   by_cases hq:q<len*8
   ·obtain⟨cs',hcells,htr⟩:=hel (q/8) qo
    obtain⟨z0,z1,z2,z3,z4,z5,z6,z7,rfl⟩:=aaG he hC ho hk h0 h1 h2 h3 h4 h5 hn hon hg0 hg1 htr;rw[hC]at hcells;obtain⟨_,_,hat⟩:=World.cells?_some hcells;have:=hat (q%8) qo;rw[Go.Deep.add_add,show q/8*8+q%8=q by omega]at this;rw[this]
    rcases(show q%8=0∨q%8=1∨q%8=2∨q%8=3∨q%8=4∨q%8=5∨q%8=6∨q%8=7 by omega)with h|h|h|h|h|h|h|h<;>rw[h]<;>exact⟨_,fun _=>rfl⟩
   ·exact⟨0,fun h=>absurd h hq⟩
  obtain⟨z,hz⟩:=Classical.axiomOfChoice hall;refine⟨some a,len,cap,z,rfl,fun hN=>?_,by omega⟩;have h00:=hz 0 qo;obtain⟨g,o,rfl⟩:∃g o,a=⟨g,o,none⟩:=by
   rw[show a.add 0=a by simp[Addr.add]]at h00;exact Ia h00
  exact zQ22x7
end Go.Proofs.YtdnmhhohcedjbaaGreat
namespace Go.Proofs.YtdnmhhohcedjbaaGreat
open Go.ChangeShapes Go.WideShapes Go.ChangeAt Go.RowKit Go.Deep Go.Joins
section
variable {H:Type}{enc:TypeId×Value→H}{P:Program}{W:World}{spare:Nat→Bool}{held:Bool}
theorem LV {r:Reach}{b0:Nat}{t e en:TypeId}{f0 f1 f2 f3 f4 f5 g0 g1:Field}{v:Value}{d:DataW H}{p:List MemPlace}(ht:P.underlying t=some (.slice e))(he:P.underlying e=some (.struct #[f0,f1,f2,f3,f4,f5]))(hC:P.cellsOf e=8)
 (ho:[f0.offset,f1.offset,f2.offset,f3.offset,f4.offset,f5.offset]=[0,1,2,4,6,7]) (hk:[P.cellsOf f0.type,P.cellsOf f1.type,P.cellsOf en,P.cellsOf f4.type,P.cellsOf f5.type]=[1,1,2,1,1])
 (h0:P.underlying f0.type=some (.int .i64)) (h1:P.underlying f1.type=some (.int .i64)) (h2:f2.type=en) (h3:f3.type=en) (h4:P.underlying f4.type=some (.int .i64)) (h5:P.underlying f5.type=some (.int .i64))
 (hn:P.underlying en=some (.struct #[g0,g1])) (hon:oneCellFields P #[g0,g1]=true) (hg0:P.underlying g0.type=some (.int .i64)) (hg1:P.underlying g1.type=some (.int .i64))
 (hv:Value.okWide P W r b0 t v) (h:DataW.Trod enc P W 0 spare held t v d p):
 ∃(A:OA) (n q:Nat) (z:Nat→Int),v=.slice A n q∧Rd W A (n*8) (fun j=>.int .i64 (z j))∧n≤maxLen:=by
 obtain⟨a0,aht,cap0,rfl⟩:=okWide_slice ht hv;obtain⟨fuel,hf⟩:=h;exact iw ht he hC ho hk h0 h1 h2 h3 h4 h5 hn hon hg0 hg1 (show DataW.trod enc P W 0 spare held fuel t [.slice a0 aht cap0]=some _ by simpa [Value.cells]using hf)
end
end Go.Proofs.YtdnmhhohcedjbaaGreat
namespace Go.Proofs.YtdnmhhohcedjbaaGreat
open Go.RowKit Go.WideShapes Go.ChangeShapes Go.Deep Go.Joins Go.ChangeAt
variable {H:Type}{enc:TypeId×Value→H}{P:Program}{W:World}{spare:Nat→Bool}{held:Bool}
theorem ab2 {S:Nat}{t e:TypeId}{fs:Array Field}{fuel:Nat}{u:Value}{x:DataW H×List MemPlace}(ht:P.underlying t=some (.slice e))(he:P.underlying e=some (.struct fs))(hone:oneCellFields P fs=true)(hC:P.cellsOf e=fs.size)
 (hi:fs.toList.map (fun f=>P.underlying f.type)=List.replicate S (some (.int .i64))) (hS:fs.size=S) (h0:0<S) (hf:DataW.trod enc P W 0 spare held fuel t [u]=some x):
 ∃(A:OA) (n q:Nat) (z:Nat→Int),u=.slice A n q∧Rd W A (n*S) (fun j=>.int .i64 (z j))∧n≤maxLen:=by
 subst hS
 rcases abO ht he hone hC hf with⟨hcs,_⟩|⟨a,len,cap,m,D,Pl,hcs,_,hl,hm,hmm,_,hel⟩
 ·simp at hcs
  subst hcs;exact⟨none,0,0,fun _=>0,rfl,fun h=>absurd h qo,by simp⟩
 ·simp at hcs
  subst hcs;have hle:len≤m:=by rw[hmm];split<;>omega
  have hall:∀q,∃z:Int,q<len*fs.size→W.cell? (a.add q)=some (.int .i64 z):=by
   intro q
   by_cases hq:q<len*fs.size
   ·have SR:q/fs.size<len:=Nat.div_lt_of_lt_mul (by rw[Nat.mul_comm];exact hq)
    have hqm:q%fs.size<fs.size:=Nat.mod_lt _ h0;obtain⟨ys,k,_,_,_,hfl⟩:=hel (q/fs.size) qo;obtain⟨v,y,hc,_,htr⟩:=hfl (q%fs.size) (fs[q%fs.size]'hqm) (Array.getElem?_eq_getElem hqm);have hu:P.underlying (fs[q%fs.size]'hqm).type=some (.int .i64):=by
     have:=congrArg (fun l=>l[q%fs.size]?) hi
     simp only[List.getElem?_map,List.getElem?_replicate]at this
     rw[if_pos hqm,Array.getElem?_toList,Array.getElem?_eq_getElem hqm]at this
     simpa using this
    obtain⟨z,ez,_,_⟩:=DataW.trod_int hu htr
    simp at ez
    subst ez;rw[show q/fs.size*fs.size+q%fs.size=q from Nat.div_add_mod' q fs.size]at hc;exact⟨z,fun _=>hc⟩
   ·exact⟨0,fun h=>absurd h hq⟩
  obtain⟨z,hz⟩:=Classical.axiomOfChoice hall;refine⟨some a,len,cap,z,rfl,fun hN=>?_,by omega⟩;have h00:=hz 0 hN;obtain⟨g,o,rfl⟩:∃g o,a=⟨g,o,none⟩:=by
   rw[show a.add 0=a by simp[Addr.add]]at h00;exact Ia h00
  exact zQ22x7
theorem adi {S:Nat}{r:Reach}{b0:Nat}{t e:TypeId}{fs:Array Field}{v:Value}{d:DataW H}{p:List MemPlace}(ht:P.underlying t=some (.slice e))(he:P.underlying e=some (.struct fs))(hone:oneCellFields P fs=true)(hC:P.cellsOf e=fs.size)
 (hi:fs.toList.map (fun f=>P.underlying f.type)=List.replicate S (some (.int .i64))) (hS:fs.size=S) (h0:0<S) (hv:Value.okWide P W r b0 t v) (h:DataW.Trod enc P W 0 spare held t v d p):
 ∃(A:OA) (n q:Nat) (z:Nat→Int),v=.slice A n q∧Rd W A (n*S) (fun j=>.int .i64 (z j))∧n≤maxLen:=by
 obtain⟨a0,aht,cap0,rfl⟩:=okWide_slice ht hv;obtain⟨fuel,hf⟩:=h;exact ab2 ht he hone hC hi hS h0 (show DataW.trod enc P W 0 spare held fuel t [.slice a0 aht cap0]=some _ by simpa [Value.cells]using hf)
end Go.Proofs.YtdnmhhohcedjbaaGreat
