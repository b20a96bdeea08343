/- Walks and plain lemmas. -/
import Derived.Test.YtimlpmbabbbcaaaGreatP10
import Derived.Shelf.SlSortCmp.QuietGrown
import Derived.Deep.CutRange
import Derived.Shelf.Bits.Mul64
import Derived.Lib.MakeNoZero
import Derived.Laws.CopyOwn
import Derived.Test.YtimlpmbabbbcaaaGreatP04
import Derived.Lib.AppendZeros
import Derived.Shelf.SortM.Plain
import Derived.Shelf.SortM.SortNone
set_option linter.unusedVariables false
set_option linter.unusedSimpArgs false
set_option maxHeartbeats 4000000
set_option maxRecDepth 20000
namespace Go.Proofs.YtimlpmbabbbcaaaGreat
open Go.RowKit
theorem kR {P:Program}{o:Oper}{cond:Bool}{a:Act}{K:Act→World→Prop}{Q:Exit→Act→World→Prop}{E:Prop}(W:World)(hcond:cond=true)(s x:Operand)(t:TypeId)
 (ho:o.op=.call {callee:=.builtin .append,args:=#[s,x],argTypes:=#[t,t]})
 (base:Nat) (e:TypeId) (i:TypeInfo) (z:Value) (size bytes:Nat) (ht:P.underlying t=some (.slice e)) (hi:P.info? e=some i) (hz:i.zero=some z)
 (hsize:i.size=size) (hby:i.bytes=bytes) (hzs:z.cells.size=size) (hsz:0<size)
 (v:Value) (n:Nat) (xs:List Value) (hs:a.eval s=v) (hown:W.ownsRow base e size v n xs)
 (te:TypeId) (m c:Nat) (news:List Value) (hx:a.eval x=.slice (some ⟨W.heap.size,0,none⟩) m c) (hl:news.length=m*size) (h1:∀u∈news,u.oneCell'=true)
 (h63:n+m≤maxLen) (hbytes:(n+m)*bytes≤140737488355328) (hbase:base≤W.heap.size)
 (h:∀v' w',w'.ownsRow base e size v' (n+m) (xs++news)→Fr W w' (fun b=>v.ownBlock=some b)→(v'.ownBlock=v.ownBlock∨v'.ownBlock=some (W.heap.size+1))→K (a.put o.dst v') w'):
 if cond=true then Oper.wp P o a (W.alloc (.cells news.toArray te)) K Q else E:=by
 rw[if_pos hcond];have hn:=heap_alloc_new W (.cells news.toArray te);obtain⟨v',w',hr,h2,h3,_,h5⟩:=run_append_own_at (P:=P) (W.alloc (.cells news.toArray te)) base t o.type e i z size bytes ht hi hz hsize hby hzs hsz v n xs (hown.alloc _) ⟨W.heap.size,0,none⟩ m c news hl (by
  intro j u hu;rw[Addr.add_lit,cell_of_row _ _ _ _ _ _ hn]
  simpa using hu) h1 h63 hbytes (by simp;omega)
 unfold Oper.wp execOp
 simp only[ho,resolve,invoke,builtin,Sem.run_bind,Sem.run_pure,Result.andThen_ok,List.map_toArray,List.map_cons,List.map_nil,hs,hx,hr]
 refine h v' w' h2 ⟨h3.os,h3.tape,h3.output,Nat.le_trans qj h3.size,fun b hb hne=>?_⟩ (by simpa using h5);exact(h3.block b (by simp;omega) (fun e=>hne e.symm)).trans (Below.heap_alloc W _ b hb)
end Go.Proofs.YtimlpmbabbbcaaaGreat
namespace Go.Proofs.YtimlpmbabbbcaaaGreat
open Go.RowKit Go.Sort
theorem below_grown {B:Nat}{w W:World}(h:Below B w W)(hB:B≤W.heap.size)(n:Nat)(os:Array Obj):Below B w (grow (W.drewN n) os):=by
 have h':=Below.drewN' h n;refine⟨h'.os,h'.tape,h'.output,?_,fun k hk=>?_⟩
 ·have:=h.size
  simp[grow]
  omega
 ·have hk':k<W.heap.size:=qo
  refine Eq.trans ?_ (h'.block k hk);show(W.heap++os)[k]?=W.heap[k]?;rw[Array.getElem?_append_left hk']
structure pJ (w:World)(g o:Nat)(k d fb fa tb ta c r:Int):Prop where
 c0:w.cell? ⟨g,o,none⟩=some (.int .i64 k)
 c1:w.cell? ⟨g,o+1,none⟩=some (.int .i64 d)
 c2:w.cell? ⟨g,o+2,none⟩=some (.int .i64 fb)
 c3:w.cell? ⟨g,o+3,none⟩=some (.int .i64 fa)
 c4:w.cell? ⟨g,o+4,none⟩=some (.int .i64 tb)
 c5:w.cell? ⟨g,o+5,none⟩=some (.int .i64 ta)
 c6:w.cell? ⟨g,o+6,none⟩=some (.int .i64 c)
 c7:w.cell? ⟨g,o+7,none⟩=some (.int .i64 r)
theorem pJ.lt {w:World}{g o:Nat}{k d fb fa tb ta c r:Int}(h:pJ w g o k d fb fa tb ta c r):g<w.heap.size:=World.block_lt_of_cell? w _ h.c0
theorem pJ.below {w w':World}{g o:Nat}{k d fb fa tb ta c r:Int}(h:pJ w g o k d fb fa tb ta c r)(hb:Below w.heap.size w w'):pJ w' g o k d fb fa tb ta c r:=
 ⟨mQ hb h.lt h.c0,mQ hb h.lt h.c1,mQ hb h.lt h.c2,mQ hb h.lt h.c3,mQ hb h.lt h.c4,mQ hb h.lt h.c5,mQ hb h.lt h.c6,mQ hb h.lt h.c7⟩
theorem aH (b a:Int)(w:World)(n:Nat)(os:Array Obj):Calls Tryz.prog 76 #[.agg #[.int .i64 b,.int .i64 a]] (grow (w.drewN n) os) fun e w'=>e=.returned (.bool (nB b a))∧∃q os',w'=grow ((grow (w.drewN n) os).drewN q) os':=by
 go_enter Tryz.func76,Tryz.ntmps76
 go_wp2_with (first|(go_at_call 125;refine(mJ _ _).mono ?_;rintro e w' ⟨rfl,rfl⟩)|(go_at_call 47;refine(cH _ _ _ _).mono ?_;rintro e w' ⟨rfl,rfl⟩))
 all_goals go_ret
 all_goals exact⟨qr (by simp_all [nB]),0,#[_],rfl⟩
theorem aN (d:Int)(w:World)(n:Nat)(os:Array Obj):Calls Tryz.prog 75 #[.int .i64 d] (grow (w.drewN n) os) fun e w'=>e=.returned (.bool (gQ d))∧∃q os',w'=grow ((grow (w.drewN n) os).drewN q) os':=
 (lJ d _).mono fun _ _ h=>⟨h.1,0,#[],by rw[←h.2,grow_empty];rfl⟩
theorem aK (c:Int)(w:World)(n:Nat)(os:Array Obj):Calls Tryz.prog 77 #[.int .i64 c] (grow (w.drewN n) os) fun e w'=>e=.returned (.bool (aJ c 1 4))∧∃q os',w'=grow ((grow (w.drewN n) os).drewN q) os':=
 (kV c _).mono fun _ _ h=>⟨h.1,0,#[],by rw[←h.2,grow_empty];rfl⟩
theorem aV (x lo hi:Int)(w:World)(n:Nat)(os:Array Obj):Calls Tryz.prog 47 #[.int .i64 x,.int .i64 lo,.int .i64 hi] (grow (w.drewN n) os) fun e w'=>e=.returned (.bool (aJ x lo hi))∧∃q os',w'=grow ((grow (w.drewN n) os).drewN q) os':=
 (cH x lo hi _).mono fun _ _ h=>⟨h.1,0,#[],by rw[←h.2,grow_empty];rfl⟩
theorem eF (d:Int)(w:World):Calls Tryz.prog 75 #[.int .i64 d] w fun e w'=>e=.returned (.bool (gQ d))∧w'=w:=(lJ d w).mono fun _ _ h=>⟨h.1,h.2.symm⟩
theorem dH (c:Int)(w:World):Calls Tryz.prog 77 #[.int .i64 c] w fun e w'=>e=.returned (.bool (aJ c 1 4))∧w'=w:=(kV c w).mono fun _ _ h=>⟨h.1,h.2.symm⟩
theorem eG (x lo hi:Int)(w:World):Calls Tryz.prog 47 #[.int .i64 x,.int .i64 lo,.int .i64 hi] w fun e w'=>e=.returned (.bool (aJ x lo hi))∧w'=w:=(cH x lo hi w).mono fun _ _ h=>⟨h.1,h.2.symm⟩
theorem qu {p:Prop}(h:p:=by first|(go_at_call 75;exact Calls.grown_of (aN _ _ _ _))|(go_at_call 77;exact Calls.grown_of (aK _ _ _ _))|(go_at_call 47;exact Calls.grown_of (aV _ _ _ _ _ _))|(go_at_call 76;exact Calls.grown_of (aH _ _ _ _ _))):p:=h
end Go.Proofs.YtimlpmbabbbcaaaGreat
namespace Go.Proofs.YtimlpmbabbbcaaaGreat
open Go.RowKit
def bN (k:Int):Nat:=if k=3 then 0 else if k=4∨k=5∨k=8∨k=9 then 2 else if k=10∨k=11 then 4 else if 1≤k∧k≤11 then 1 else 0
def dU (k:Int):Nat:=if k=8∨k=9 then 2 else if k=10∨k=11 then 4 else if 1≤k∧k≤11 then 1 else 0
theorem kW (k:Int):bN k≤4:=by
 unfold bN
 repeat' split
 all_goals omega
theorem xU (k:Int):dU k≤4:=by
 unfold dU
 repeat' split
 all_goals omega
theorem BE {k:Int}(h:1≤k∧k≤11):k=1∨k=2∨k=3∨k=4∨k=5∨k=6∨k=7∨k=8∨k=9∨k=10∨k=11:=qo
def l2 (p:Int→Bool)(z:Nat→Int):Nat→Bool
 |0=>true
 |k+1=>l2 p z k&&p (z k)
theorem zV {p:Int→Bool}{z:Nat→Int}{n k:Nat}(hk:k<n)(h:p (z k)=false):l2 p z n=false:=by
 induction n with
 |zero=>omega
 |succ n ih=>
  simp only[l2]
  by_cases hkn:k=n
  ·subst hkn;rw[h];simp
  ·rw[ih qo];rfl
theorem YJ {p:Int→Bool}{z:Nat→Int}{n:Nat}(h:l2 p z n=true):∀j,j<n→p (z j)=true:=by
 induction n with
 |zero=>intro j hj;omega
 |succ n ih=>
  simp only[l2,Bool.and_eq_true]at h
  intro j hj
  by_cases hjn:j=n
  ·subst hjn;exact h.2
  ·exact ih h.1 j qo
def kH (k:Int):Bool:=aJ k 1 11
def fG (n:Int):Bool:=aJ n 1 4
theorem Qe {k:Int}(h:kH k=true):1≤k∧k≤11:=by simpa [kH,aJ]using h
theorem Gr {k:Int}(h:fG k=true):1≤k∧k≤4:=by simpa [fG,aJ]using h
def cM (z:Nat→Int)(m:Nat):Bool:=decide (m≤16)&&l2 kH z m
def fF (s:Nat→Int)(n:Nat):Bool:=decide (n≤8)&&l2 fG s n
theorem fN {z:Nat→Int}{m:Nat}(h:cM z m=true):m≤16∧∀j,j<m→1≤z j∧z j≤11:=by
 simp only[cM,Bool.and_eq_true,decide_eq_true_eq]at h
 exact⟨h.1,fun j hj=>Qe (YJ h.2 j hj)⟩
theorem kT {s:Nat→Int}{n:Nat}(h:fF s n=true):n≤8∧∀j,j<n→1≤s j∧s j≤4:=by
 simp only[fF,Bool.and_eq_true,decide_eq_true_eq]at h
 exact⟨h.1,fun j hj=>Gr (YJ h.2 j hj)⟩
def aF (z:Nat→Int):Nat→Nat
 |0=>0
 |i+1=>aF z i+bN (z i)
def bH (z:Nat→Int):Nat→Nat
 |0=>0
 |i+1=>bH z i+dU (z i)
theorem nO (z:Nat→Int)(i:Nat):aF z i≤4*i:=by
 induction i with
 |zero=>simp[aF]
 |succ i ih=>simp only[aF];have:=kW (z i);omega
theorem EE (z:Nat→Int)(i:Nat):bH z i≤4*i:=by
 induction i with
 |zero=>simp[bH]
 |succ i ih=>simp only[bH];have:=xU (z i);omega
theorem gU (z:Nat→Int){i j:Nat}(h:i≤j):aF z i≤aF z j:=by
 induction j with
 |zero=>
  obtain rfl:i=0:=qo;exact Nat.le_refl _
 |succ j ih=>
  rcases Nat.lt_or_ge j i with h1|h1
  ·obtain rfl:i=j+1:=qo
   exact Nat.le_refl _
  ·have:=ih h1
   simp only[aF]
   omega
theorem CX (z:Nat→Int){i j:Nat}(h:i≤j):bH z i≤bH z j:=by
 induction j with
 |zero=>
  obtain rfl:i=0:=qo;exact Nat.le_refl _
 |succ j ih=>
  rcases Nat.lt_or_ge j i with h1|h1
  ·obtain rfl:i=j+1:=qo
   exact Nat.le_refl _
  ·have:=ih h1
   simp only[bH]
   omega
theorem zP13x6 {p:Prop}(h:p:=by
 go_wp2_with ((go_at_call 58;refine(bX _ _ _ _).mono ?_;rintro e w' ⟨rfl,rfl⟩))
 go_ret
 exact⟨rfl,rfl⟩):p:=h
theorem BH (k:Int)(w:World):Calls Tryz.prog 183 #[.int .i64 k] w fun e w'=>e=.returned (.bool (kH k))∧w=w':=by
 go_enter Tryz.func183,Tryz.ntmps183
 exact zP13x6
theorem xF (k:Int)(w:World):Calls Tryz.prog 174 #[.int .i64 k] w fun e w'=>e=.returned (.bool (kH k))∧w=w':=by
 go_enter Tryz.func174,Tryz.ntmps174
 go_wp2_with ((go_at_call 47;refine(cH _ _ _ _).mono ?_;rintro e w' ⟨rfl,rfl⟩))
 go_ret
 exact⟨rfl,rfl⟩
theorem zP13x3 {p:Prop}(h:p:=by
 go_wp2_with ((go_at_call 183;refine(BH _ _).mono ?_;rintro e w' ⟨rfl,rfl⟩;rw[show∀k:Int,kH k=aJ k 1 11 from fun _=>rfl];simp only[aJ]))
 go_ret
 exact⟨rfl,rfl⟩):p:=h
theorem lK (k:Int)(w:World)(h:1≤k∧k≤11):Calls Tryz.prog 148 #[.int .i64 k] w fun e w'=>e=.returned (.int .i64 (bN k))∧w=w':=by
 rcases BE h with rfl|rfl|rfl|rfl|rfl|rfl|rfl|rfl|rfl|rfl|rfl
 all_goals
  clear h
  go_enter Tryz.func148,Tryz.ntmps148
  exact zP13x3
theorem IF (k:Int)(w:World)(h:1≤k∧k≤11):Calls Tryz.prog 185 #[.int .i64 k] w fun e w'=>e=.returned (.int .i64 (dU k))∧w=w':=by
 rcases BE h with rfl|rfl|rfl|rfl|rfl|rfl|rfl|rfl|rfl|rfl|rfl
 all_goals
  clear h
  go_enter Tryz.func185,Tryz.ntmps185
  exact zP13x3
theorem zP13x4 {p:Prop}(h:p:=by
 go_wp2_with ((go_at_call 174;refine(xF _ _).mono ?_;rintro e w' ⟨rfl,rfl⟩;rw[show∀k:Int,kH k=aJ k 1 11 from fun _=>rfl];simp only[aJ]))
 go_ret
 exact⟨rfl,qb⟩):p:=h
theorem cE (k:Int)(w:World)(h:1≤k∧k≤11):Calls Tryz.prog 126 #[.int .i64 k] w fun e w'=>e=.returned (.int .i64 (bN k))∧Below w.heap.size w w':=by
 rcases BE h with rfl|rfl|rfl|rfl|rfl|rfl|rfl|rfl|rfl|rfl|rfl
 all_goals
  clear h
  go_enter Tryz.func126,Tryz.ntmps126
  exact zP13x4
theorem gM (k:Int)(w:World)(h:1≤k∧k≤11):Calls Tryz.prog 173 #[.int .i64 k] w fun e w'=>e=.returned (.int .i64 (dU k))∧Below w.heap.size w w':=by
 rcases BE h with rfl|rfl|rfl|rfl|rfl|rfl|rfl|rfl|rfl|rfl|rfl
 all_goals
  clear h
  go_enter Tryz.func173,Tryz.ntmps173
  exact zP13x4
theorem LS (x:Int)(w:World):Calls Tryz.prog 182 #[.int .i64 x] w fun e w'=>e=.returned (.bool (!kH x))∧w=w':=by
 go_enter Tryz.func182,Tryz.ntmps182
 go_wp2_with ((go_at_call 183;refine(BH _ _).mono ?_;rintro e w' ⟨rfl,rfl⟩))
 go_ret
 exact⟨rfl,rfl⟩
def Tk (w:World)(b:Bool)(e:Ending)(w':World):Prop:=∃r:Int,e=.returned (.int .i64 r)∧(r= -1∧b=true∨0≤r∧b=false)∧w=w'
theorem zP13x0 {p:Prop}(h:p:=by
 go_round
 case rel=>exact⟨k+1,by omega,qg,by unfold Hq;simp only[l2];rw[HK.o,HQ.o true HL.o];rfl⟩
 case measure=>exact qs):p:=h
theorem WV (A:OA)(n c:Nat)(z:Nat→Int)(w:World)(ha:Rd w A n (fun j=>.int .i64 (z j)))(hn:n≤1048576):
 Calls Tryz.prog 215 #[.slice A n c,.func (.func 182) #[] #[]] w (Tk w (l2 kH z n)):=by
 have HA:=qh ha;clear ha
 go_enter Tryz.func215,Tryz.ntmps215
 go_wp2_with fail
 go_loop [8] (fun i=>∃k:Nat,k≤n∧i=.int .i64 k∧Hq (l2 kH z k=true)) (fun i=>n-(intOf i).toNat)
 case atStart=>exact⟨0,Nat.zero_le _,rfl,rfl⟩
 case round=>
  obtain⟨k,hk,rfl,HK⟩:=hrel
  by_cases hlt:k<n
  ·obtain⟨ga,o,rfl,hg,hr⟩:=HA.o qo
   have hc:=hr k hlt;clear hr;obtain⟨x,hx⟩:=qx (z k)
   simp only[←hx]at hc
   have hq:∀b,kH x=b→kH (z k)=b:=fun b h=>by rw[←hx];exact h
   have HQ:=qh hq;clear hq hx
   cases hl:kH x
   ·have HL:=qh hl
    clear hl
    go_wp2_with ((go_at_call 182;refine(LS x _).mono ?_;rintro e w' ⟨rfl,rfl⟩;rw[HL.o]))
    go_ret
    exact⟨_,rfl,.inr ⟨by omega,zV hlt (HQ.o false HL.o)⟩,rfl⟩
   ·have HL:=qh hl
    clear hl
    go_wp2_with ((go_at_call 182;refine(LS x _).mono ?_;rintro e w' ⟨rfl,rfl⟩;rw[HL.o]))
    exact zP13x0
  ·obtain rfl:n=k:=qo
   go_wp2
   go_ret
   exact⟨_,rfl,.inl ⟨rfl,HK.o⟩,rfl⟩
theorem zP13x2 {p:Prop}(h:p:=by
 rcases h with⟨rfl,hb⟩|⟨hr,hb⟩
 ·have HB:=qh hb
  clear hb
  go_wp2
  go_ret
  exact⟨by rw[HB.o];rfl,rfl⟩
 ·have HB:=qh hb
  clear hb;have hr':decide (0≤r)=true:=by simpa using hr
  go_wp2
  go_ret
  exact⟨by rw[HB.o];simp,rfl⟩):p:=h
theorem LJ (A:OA)(n c:Nat)(z:Nat→Int)(w:World)(ha:Rd w A n (fun j=>.int .i64 (z j)))(hn:n≤1048576):
 Calls Tryz.prog 181 #[.slice A n c,.func (.func 182) #[] #[]] w fun e w'=>e=.returned (.bool (!l2 kH z n))∧w=w':=by
 go_enter Tryz.func181,Tryz.ntmps181
 go_wp2_with fail
 refine(WV A n c z _ ha hn).mono ?_;rintro e w' ⟨r,rfl,h,rfl⟩
 exact zP13x2
theorem pM (A:OA)(n c:Nat)(z:Nat→Int)(w:World)(ha:Rd w A n (fun j=>.int .i64 (z j)))(hn:n≤1048576):
 Calls Tryz.prog 146 #[.slice A n c] w fun e w'=>e=.returned (.bool (cM z n))∧w=w':=by
 have HC:=qh (LJ A n c z w ha hn);clear ha
 by_cases h:n≤16
 ·go_enter Tryz.func146,Tryz.ntmps146
  go_wp2_with fail
  refine HC.o.mono ?_;rintro e w' ⟨rfl,rfl⟩
  go_wp2
  go_ret
  exact⟨eT (by simp[cM,h]),rfl⟩
 ·go_enter Tryz.func146,Tryz.ntmps146
  go_wp2
  go_ret
  exact⟨eT (by simp[cM,h]),rfl⟩
theorem J4 (x:Int)(w:World):Calls Tryz.prog 184 #[.int .i64 x] w fun e w'=>e=.returned (.bool (!fG x))∧w=w':=by
 go_enter Tryz.func184,Tryz.ntmps184
 exact zP13x6
def Mw (w:World)(b:Bool)(e:Ending)(w':World):Prop:=∃r:Int,e=.returned (.int .i64 r)∧(r= -1∧b=true∨0≤r∧b=false)∧w=w'
theorem UT (A:OA)(n c:Nat)(z:Nat→Int)(w:World)(ha:Rd w A n (fun j=>.int .i64 (z j)))(hn:n≤1048576):
 Calls Tryz.prog 215 #[.slice A n c,.func (.func 184) #[] #[]] w (Mw w (l2 fG z n)):=by
 have HA:=qh ha;clear ha
 go_enter Tryz.func215,Tryz.ntmps215
 go_wp2_with fail
 go_loop [8] (fun i=>∃k:Nat,k≤n∧i=.int .i64 k∧Hq (l2 fG z k=true)) (fun i=>n-(intOf i).toNat)
 case atStart=>exact⟨0,Nat.zero_le _,rfl,rfl⟩
 case round=>
  obtain⟨k,hk,rfl,HK⟩:=hrel
  by_cases hlt:k<n
  ·obtain⟨ga,o,rfl,hg,hr⟩:=HA.o qo
   have hc:=hr k hlt;clear hr;obtain⟨x,hx⟩:=qx (z k)
   simp only[←hx]at hc
   have hq:∀b,fG x=b→fG (z k)=b:=fun b h=>by rw[←hx];exact h
   have HQ:=qh hq;clear hq hx
   cases hl:fG x
   ·have HL:=qh hl
    clear hl
    go_wp2_with ((go_at_call 184;refine(J4 x _).mono ?_;rintro e w' ⟨rfl,rfl⟩;rw[HL.o]))
    go_ret
    exact⟨_,rfl,.inr ⟨by omega,zV hlt (HQ.o false HL.o)⟩,rfl⟩
   ·have HL:=qh hl
    clear hl
    go_wp2_with ((go_at_call 184;refine(J4 x _).mono ?_;rintro e w' ⟨rfl,rfl⟩;rw[HL.o]))
    exact zP13x0
  ·obtain rfl:n=k:=qo
   go_wp2
   go_ret
   exact⟨_,rfl,.inl ⟨rfl,HK.o⟩,rfl⟩
theorem JY (A:OA)(n c:Nat)(z:Nat→Int)(w:World)(ha:Rd w A n (fun j=>.int .i64 (z j)))(hn:n≤1048576):
 Calls Tryz.prog 181 #[.slice A n c,.func (.func 184) #[] #[]] w fun e w'=>e=.returned (.bool (!l2 fG z n))∧w=w':=by
 go_enter Tryz.func181,Tryz.ntmps181
 go_wp2_with fail
 refine(UT A n c z _ ha hn).mono ?_;rintro e w' ⟨r,rfl,h,rfl⟩
 exact zP13x2
theorem rW (A:OA)(n c:Nat)(z:Nat→Int)(w:World)(ha:Rd w A n (fun j=>.int .i64 (z j)))(hn:n≤1048576):
 Calls Tryz.prog 147 #[.slice A n c] w fun e w'=>e=.returned (.bool (fF z n))∧w=w':=by
 have HC:=qh (JY A n c z w ha hn);clear ha
 by_cases h:n≤8
 ·go_enter Tryz.func147,Tryz.ntmps147
  go_wp2_with fail
  refine HC.o.mono ?_;rintro e w' ⟨rfl,rfl⟩
  go_wp2
  go_ret
  exact⟨eT (by simp[fF,h]),rfl⟩
 ·go_enter Tryz.func147,Tryz.ntmps147
  go_wp2
  go_ret
  exact⟨eT (by simp[fF,h]),rfl⟩
theorem xW (A:OA)(n c:Nat)(z:Nat→Int)(w:World)(ha:Rd w A n (fun j=>.int .i64 (z j)))(hn:n≤1048576):
 Calls Tryz.prog 168 #[.slice A n c] w fun e w'=>e=.returned (.bool (cM z n))∧w=w':=by
 have HA:=qh ha;clear ha
 go_enter Tryz.func168,Tryz.ntmps168
 go_wp2_with fail
 go_loop [3] (fun i=>∃k:Nat,k≤n∧i=.int .i64 k∧Hq (l2 kH z k=true)) (fun i=>n-(intOf i).toNat)
 case atStart=>exact⟨0,Nat.zero_le _,rfl,rfl⟩
 case round=>
  obtain⟨k,hk,rfl,HK⟩:=hrel
  by_cases hlt:k<n
  ·obtain⟨ga,o,rfl,hg,hr⟩:=HA.o qo
   have hc:=hr k hlt;clear hr;obtain⟨x,hx⟩:=qx (z k)
   simp only[←hx]at hc
   have hq:∀b,kH x=b→kH (z k)=b:=fun b h=>by rw[←hx];exact h
   have HQ:=qh hq;clear hq hx
   cases hl:kH x
   ·have HL:=qh hl
    clear hl
    go_wp2_with ((go_at_call 174;refine(xF x _).mono ?_;rintro e w' ⟨rfl,rfl⟩;rw[HL.o]))
    go_ret
    exact⟨eT (by rw[show cM z n=(decide (n≤16)&&l2 kH z n)from rfl,zV hlt (HQ.o false HL.o)];simp),rfl⟩
   ·have HL:=qh hl
    clear hl
    go_wp2_with ((go_at_call 174;refine(xF x _).mono ?_;rintro e w' ⟨rfl,rfl⟩;rw[HL.o]))
    exact zP13x0
  ·obtain rfl:n=k:=qo
   go_wp2
   go_ret
   exact⟨eT (by rw[show cM z n=(decide (n≤16)&&l2 kH z n)from rfl,HK.o];simp;omega),rfl⟩
theorem mE (A:OA)(n c:Nat)(z:Nat→Int)(w:World)(ha:Rd w A n (fun j=>.int .i64 (z j)))(hn:n≤1048576):
 Calls Tryz.prog 169 #[.slice A n c] w fun e w'=>e=.returned (.bool (fF z n))∧w=w':=by
 have HA:=qh ha;clear ha
 go_enter Tryz.func169,Tryz.ntmps169
 go_wp2_with fail
 go_loop [3] (fun i=>∃k:Nat,k≤n∧i=.int .i64 k∧Hq (l2 fG z k=true)) (fun i=>n-(intOf i).toNat)
 case atStart=>exact⟨0,Nat.zero_le _,rfl,rfl⟩
 case round=>
  obtain⟨k,hk,rfl,HK⟩:=hrel
  by_cases hlt:k<n
  ·obtain⟨ga,o,rfl,hg,hr⟩:=HA.o qo
   have hc:=hr k hlt;clear hr;obtain⟨x,hx⟩:=qx (z k)
   simp only[←hx]at hc
   have hq:∀b,fG x=b→fG (z k)=b:=fun b h=>by rw[←hx];exact h
   have HQ:=qh hq;clear hq hx
   cases hl:fG x
   ·have HL:=qh hl
    clear hl
    go_wp2_with ((go_at_call 47;refine(cH x _ _ _).mono ?_;rintro e w' ⟨rfl,rfl⟩;rw[show aJ x 1 4=fG x from rfl,HL.o]))
    go_ret
    exact⟨eT (by rw[show fF z n=(decide (n≤8)&&l2 fG z n)from rfl,zV hlt (HQ.o false HL.o)];simp),rfl⟩
   ·have HL:=qh hl
    clear hl
    go_wp2_with ((go_at_call 47;refine(cH x _ _ _).mono ?_;rintro e w' ⟨rfl,rfl⟩;rw[show aJ x 1 4=fG x from rfl,HL.o]))
    exact zP13x0
  ·obtain rfl:n=k:=qo
   go_wp2
   go_ret
   exact⟨eT (by rw[show fF z n=(decide (n≤8)&&l2 fG z n)from rfl,HK.o];simp;omega),rfl⟩
theorem DS (A:OA)(n c:Nat)(z:Nat→Int)(w:World)(ha:Rd w A n (fun j=>.int .i64 (z j)))(hz:cM z n=true):
 Calls Tryz.prog 111 #[.slice A n c] w fun e w'=>e=.returned (.int .i64 (aF z n))∧w=w':=by
 have HA:=qh ha;obtain⟨hn,hz'⟩:=fN hz;have HZ:=qh hz';clear ha hz hz'
 go_enter Tryz.func111,Tryz.ntmps111
 go_wp2_with fail
 go_loop [3,8] (fun s i=>∃k:Nat,k≤n∧i=.int .i64 k∧s=.int .i64 (aF z k)) (fun _ i=>n-(intOf i).toNat)
 case atStart=>exact⟨0,Nat.zero_le _,rfl,rfl⟩
 case round=>
  obtain⟨k,hk,rfl,rfl⟩:=hrel;have hs:=nO z k;have ht:=kW (z k)
  by_cases hlt:k<n
  ·obtain⟨ga,o,rfl,hg,hr⟩:=HA.o qo
   have hc:=hr k hlt;have fX:=HZ.o k hlt;clear hr
   go_wp2_with ((go_at_call 148;refine(lK _ _ fX).mono ?_;rintro e w' ⟨rfl,rfl⟩))
   go_round
   case rel=>exact⟨k+1,by omega,qg,by simp only[aF,Value.int.injEq,true_and];omega⟩
   case measure=>exact qs
  ·obtain rfl:n=k:=qo
   go_wp2
   go_ret
   exact⟨rfl,rfl⟩
theorem CW (A:OA)(n c:Nat)(z:Nat→Int)(w:World)(ha:Rd w A n (fun j=>.int .i64 (z j)))(hz:cM z n=true):
 Calls Tryz.prog 170 #[.slice A n c] w fun e w'=>e=.returned (.int .i64 (aF z n))∧Below w.heap.size w w':=by
 have HA:=qh ha;obtain⟨hn,hz'⟩:=fN hz;have HZ:=qh hz';have HZ0:=qh hz;clear ha hz hz'
 go_enter Tryz.func170,Tryz.ntmps170
 go_wp2_with ((go_at_call 168;refine(xW A n c z _ HA.o qo).mono ?_;rintro e w' ⟨rfl,rfl⟩;rw[HZ0.o]))
 go_loopw [3,4] (fun s i wr=>∃k:Nat,k≤n∧i=.int .i64 k∧s=.int .i64 (aF z k)∧Below w.heap.size w wr) (fun _ i _=>n-(intOf i).toNat)
 case atStart=>exact⟨0,Nat.zero_le _,rfl,rfl,Below.refl _ _⟩
 case round=>
  obtain⟨k,hk,rfl,rfl,hb⟩:=hrel;have HB:=qh hb;clear hb;have hs:=nO z k;have ht:=kW (z k)
  by_cases hlt:k<n
  ·obtain⟨ga,o,rfl,hg,hr⟩:=HA.o.below HB.o qo
   have hc:=hr k hlt;have fX:=HZ.o k hlt;clear hr
   go_wp2_with fail
   refine(cE _ _ fX).mono ?_;rintro e w1 ⟨rfl,hb1⟩;have HB1:=HB.st hb1;clear hb1 hc
   go_wp2
   go_roundw
   case rel=>exact⟨k+1,by omega,qg,by simp only[aF,Value.int.injEq,true_and];omega,HB1.o⟩
   case measure=>exact qs
  ·obtain rfl:n=k:=qo
   go_wp2
   go_ret
   exact⟨rfl,HB.o⟩
end Go.Proofs.YtimlpmbabbbcaaaGreat
namespace Go.Proofs
open Go.Shelf
def Tryz.lays212_ren:Go.Shelf.Ren:=⟨fun|212=>110|263=>157|264=>158|n=>n,fun|46=>160|51=>194|146=>195|53=>197|148=>198|n=>n,fun|n=>n⟩
theorem Tryz.lays212:Go.Proofs.Lays.n212 Tryz.prog Tryz.lays212_ren:={
 mixed:=by kernel_rfl
 f212:=Tryz.func110.trans (congrArg some (by kernel_rfl))
 f263:=Tryz.func157.trans (congrArg some (by kernel_rfl))
 f264:=Tryz.func158.trans (congrArg some (by kernel_rfl))
 t46:=Tryz.underlying160
 a46:=Tryz.isAgg160
 z46:=Tryz.sizeOf160
 v46:=Tryz.zeroValue160
 t51:=Tryz.underlying194
 a51:=Tryz.isAgg194
 z51:=Tryz.sizeOf194
 v51:=Tryz.zeroValue194
 t53:=Tryz.underlying197
 a53:=Tryz.isAgg197
 z53:=Tryz.sizeOf197
 v53:=Tryz.zeroValue197
 t146:=Tryz.underlying195
 a146:=Tryz.isAgg195
 z146:=Tryz.sizeOf195
 v146:=Tryz.zeroValue195
 t148:=Tryz.underlying198
 a148:=Tryz.isAgg198
 z148:=Tryz.sizeOf198
 v148:=Tryz.zeroValue198}
open Go.RowKit Go.Lib in
theorem Tryz.bits_Mul (x y:Nat)(hx:x<18446744073709551616)(hy:y<18446744073709551616)(w:World):
 Calls Tryz.prog 110 #[.int .u64 x,.int .u64 y] w fun e w'=>e=.returned (.tuple #[.int .u64 ((x*y/18446744073709551616:Nat):Int),.int .u64 ((x*y%18446744073709551616:Nat):Int)])∧w'=w:=Any.bits_Mul Tryz.lays212 x y hx hy w
end Go.Proofs
namespace Go.Proofs.YtimlpmbabbbcaaaGreat
theorem ku (x y:Nat)(hx:x<18446744073709551616)(hy:y<18446744073709551616)(w:World):
 Calls Tryz.prog 110 #[.int .u64 x,.int .u64 y] w fun e w'=>e=.returned (.tuple #[.int .u64 ((x*y/18446744073709551616:Nat):Int),.int .u64 ((x*y%18446744073709551616:Nat):Int)])∧w'=w:=Go.Proofs.Tryz.bits_Mul x y hx hy w
end Go.Proofs.YtimlpmbabbbcaaaGreat
namespace Go.Proofs.YtimlpmbabbbcaaaGreat
open Go.RowKit
theorem OJ {α:Type}(cur cs:List α)(k j:Nat)(h:k+cs.length≤cur.length):(splice cur k cs)[j]?=if j<k then cur[j]? else if j<k+cs.length then cs[j-k]? else cur[j]?:=by
 unfold splice
 by_cases h1:j<k
 ·rw[if_pos h1,List.getElem?_append_left (by simp;omega),List.getElem?_take_of_lt h1]
 ·rw[if_neg h1,List.getElem?_append_right (by simp;omega)]
  rw[show(List.take k cur).length=k by simp;omega]
  by_cases h2:j<k+cs.length
  ·rw[if_pos h2,List.getElem?_append_left qo]
  ·rw[if_neg h2,List.getElem?_append_right qo,List.getElem?_drop]
   congr 1
   omega
theorem kr (m:Nat)(hm:m≤8192)(w:World):
 Calls Tryz.prog 110 #[.int .u64 1,.int .u64 m] w fun e w'=>e=.returned (.tuple #[.int .u64 0,.int .u64 m])∧w=w':=by
 refine(ku 1 m qo qo w).mono ?_;rintro e w' ⟨rfl,rfl⟩;refine⟨?_,rfl⟩;rw[Nat.one_mul,Nat.div_eq_of_lt qo,Nat.mod_eq_of_lt qo]
 rfl
theorem info64:(Tryz.prog.info? 2).map (fun i=>(i.zero,i.size,i.bytes))=some (some (.int .i64 0),1,8):=by kernel_rfl
theorem xV (m:Nat)(hm:m≤1000000):∃cs:Array Value,cs.size=m∧(∀j,j<m→cs[j]?=some (.int .i64 0))∧∀w:World,(Instr.makeSlice 61 (.int .i64 (m:Int)) (.int .i64 (m:Int))).run Tryz.prog w=.ok (.slice (some ⟨w.heap.size,0,none⟩) m m) (w.alloc (.cells cs 2)):=by
 obtain⟨i0,hi,iz,is,ib⟩:=info_parts info64;refine⟨madeCells (Value.int .i64 0).cells m,size_madeCells _ _,fun j hj=>?_,fun w=>?_⟩
 ·simp[madeCells,hj,Value.cells,Nat.mod_one]
 ·have h:=run_makeSlice (P:=Tryz.prog) w 61 2 i0 (.int .i64 0) Tryz.underlying61 hi iz .i64 .i64 m m qo (Int.le_refl _) (by rw[is];simp;omega) (by rw[ib];omega) qo
  rw[is]at h
  simpa using h
def Uy (w:World)(G m:Nat)(x:Int)(k:Nat)(wr:World):Prop:=
 ∃cur:List Value,Hq (wr.heap[G]?=some (.cells cur.toArray 2 (0,0)))∧m≤cur.length∧(∀j,j<k→cur[j]?=some (.int .i64 x))∧Below w.heap.size w wr
theorem B5 (g:Nat)(x:Int)(m:Nat)(w:World)(h0:w.cell? ⟨g,0,none⟩=some (.int .i64 x))(hpos:0<m)(hm:m≤8192):
 Calls Tryz.prog 68 #[.slice (some ⟨g,0,none⟩) 1 1,.int .i64 m] w (LF w m m (fun _=>.int .i64 x)):=by
 obtain⟨cs,hcs,_,hmk⟩:=xV m qo;have hg:=World.block_lt_of_cell? w _ h0;have H0:=qh h0;clear h0;have hsz:(Tryz.prog.info? 2).map (·.size)=some 1:=by kernel_rfl
 have hbW:Below w.heap.size w (w.alloc (.cells cs 2)):=qb;have hGW:(w.alloc (.cells cs 2)).heap[w.heap.size]?=some (.cells cs.toList.toArray 2 (0,0)):=by rw[Array.toArray_toList];exact heap_alloc_new w _
 have hsrc:∀(j:Nat) v,[Value.int .i64 x][j]?=some v→(w.alloc (.cells cs 2)).cell? ((⟨g,0,none⟩:Addr).add j)=some v:=fun j v hj=>by
  rcases Nat.eq_zero_or_pos j with rfl|hj0
  ·have h1:(w.alloc (.cells cs 2)).cell? ⟨g,0,none⟩=some (.int .i64 x):=(World.cell?_alloc_lt w _ _ hg).trans H0.o
   rw[Addr.add_lit]
   simp at hj
   subst hj;exact h1
  ·rw[List.getElem?_eq_none (by simp;omega)]at hj
   cases hj
 have YV:=qh hsrc;have lP:=qh hbW;have HGW:=qh hGW;have zM:=qh hcs;clear hbW hGW hsrc hcs
 go_enter Tryz.func68,Tryz.ntmps68
 go_wp2_with (first
  |(with_reducible refine wpList_copy_splice rfl (.tmp 31) (.tmp 32) 61 61 rfl 2 Tryz.underlying61 hsz _ _ _ _ _ _ rfl rfl w.heap.size 0 cs.toList 2 HGW.o [.int .i64 x] (Nat.min_eq_left hpos).symm (fun _=>⟨rfl,_,rfl,YV.o⟩) (by simp[zM.o];omega) (by simp[Value.oneCell']) w.heap.size w lP.o ql ?_;intro w1 hg1 hb1)
  |(go_at_call 110;refine(kr m hm _).mono ?_;rintro e w' ⟨rfl,rfl⟩)
  |go_in
  |fail)
 go_loopw [8] (fun bp wr=>∃k:Nat,1≤k∧k≤m∧bp=.int .i64 k∧Uy w w.heap.size m x k wr) (fun bp _=>m-(intOf bp).toNat)
 case atStart=>
  refine⟨1,Nat.le_refl _,hpos,rfl,_,hg1,?_,fun j hj=>?_,hb1⟩
  ·rw[length_splice _ _ _ (by simp[zM.o];omega)]
   simp[zM.o]
  ·obtain rfl:j=0:=qo
   rw[OJ _ _ _ _ (by simp[zM.o];omega)]
   simp
 case round=>
  obtain⟨k,hk1,hk,rfl,cur,hcur,hlen,hval,hb⟩:=hrel;have HB:=qh hb;have HV:=qh hval;clear hb hval
  by_cases hlt:k<m
  ·obtain⟨q,hq⟩:=qx (Nat.min k (m-k))
   have hq1:q≤k:=hq▸Nat.min_le_left _ _;have hq2:q≤m-k:=hq▸Nat.min_le_right _ _;have hq3:1≤q:=by rw[hq];exact Nat.le_min.2 ⟨hk1,by omega⟩
   have HQ:=qh hq;clear hq;have b1:(0:Int)≤(k:Int):=qo;have b2:(k:Int)≤(m:Int):=qo;have hne:¬m=k:=qo;have hwr:IntKind.i64.wrap ((k:Int)+(q:Int))=(k:Int)+q:=IntWalk.i64_in _ qo;have hsrc:∀(j:Nat) v,(List.replicate q (Value.int .i64 x))[j]?=some v→wr.drew.cell? ((⟨w.heap.size,0,none⟩:Addr).add j)=some v:=fun j v hj=>by
    have hjq:j<q:=by
     rcases Nat.lt_or_ge j q with h|h
     ·exact h
     ·rw[List.getElem?_eq_none (by simpa using h)]at hj
      cases hj
    rw[Addr.add_lit,Nat.zero_add];have h1:wr.cell? ⟨w.heap.size,j,none⟩=cur.toArray[j]?:=cell_of_row _ _ _ _ _ _ hcur.out;refine Eq.trans (show wr.drew.cell? _=_ from h1) ?_;rw[List.getElem?_toArray,HV.o j qo];rw[List.getElem?_replicate,if_pos hjq]at hj;exact hj
   have HS:=qh hsrc;clear hsrc
   go_wp2_with fail
   go_region_held3 (fun _=>True) (trivial) (first
    |(refine step_copy_splice (w:=wr.drew) rfl (.tmp 41) (.tmp 44) 61 61 rfl 2 Tryz.underlying61 hsz (some ⟨w.heap.size,k,none⟩) (some ⟨w.heap.size,0,none⟩) (m-k) (m-k) k m (by go_simp) (by go_simp) w.heap.size k cur 2 hcur.out (List.replicate q (.int .i64 x)) (by rw[List.length_replicate];exact HQ.o) (fun _=>⟨rfl,_,rfl,HS.o⟩) (by rw[List.length_replicate];omega) (by intro v hv;rw[List.eq_of_mem_replicate hv];rfl) w.heap.size w HB.o.drew ql ?_;intro w4 hg4 hb4)
    |fail)
   go_wp2
   go_roundw
   case rel=>
    refine⟨k+q,by omega,by omega,qg,_,hg4,?_,fun j hj=>?_,hb4⟩
    ·rw[length_splice _ _ _ (by rw[List.length_replicate];omega)]
     exact hlen
    ·rw[OJ _ _ _ _ (by rw[List.length_replicate];omega),List.length_replicate]
     by_cases h1:j<k
     ·rw[if_pos h1]
      exact HV.o j h1
     ·rw[if_neg h1,if_pos qo,List.getElem?_replicate,if_pos qo]
   case measure=>exact qs
  ·obtain rfl:m=k:=qo
   go_wp2
   go_ret
   have hc:∀j,j<m→wr.cell? ⟨w.heap.size,0+j,none⟩=some (.int .i64 x):=fun j hj=>by
    rw[Nat.zero_add,cell_of_row _ _ _ _ _ _ hcur.out,List.getElem?_toArray];exact HV.o j hj
   refine⟨_,_,rfl,⟨Nat.le_refl _,by unfold maxLen;omega⟩,New.J2 HB.o ql (Array.getElem?_eq_some_iff.1 hcur.out).1 (fun j hj=>⟨⟨_,hc j hj⟩,?_⟩) hc⟩
   simp[World.frozen?,hcur.out]
def eS (k t:Int):List Int:=if k=6 then [t+1]else if k=7 then [t]else List.replicate (dU k) 1
theorem pY {k:Int}(t:Int)(_h:1≤k∧k≤11):(eS k t).length=dU k:=by
 unfold eS
 by_cases h6:k=6
 ·subst h6;rfl
 ·rw[if_neg h6]
  by_cases h7:k=7
  ·subst h7;rfl
  ·rw[if_neg h7];simp
def B9 (k a b:Int):Bool:=if k=6 then decide (a<4)else if k=4∨k=5 then decide (a+b≤4)else true
def gT (s z:Nat→Int):Nat→List Int
 |0=>[]
 |i+1=>gT s z i++eS (z i) (s (aF z i))
theorem qY {s z:Nat→Int}{m:Nat}(hz:∀j,j<m→1≤z j∧z j≤11){i:Nat}(hi:i≤m):(gT s z i).length=bH z i:=by
 induction i with
 |zero=>rfl
 |succ i ih=>
  simp only[gT,bH,List.length_append]
  rw[ih qo,pY _ (hz i qo)]
def vB (s z:Nat→Int):Nat→Bool
 |0=>true
 |i+1=>vB s z i&&B9 (z i) (s (aF z i)) (s (aF z i+1))
theorem Dz {s z:Nat→Int}{i m:Nat}(hi:i<m)(h:B9 (z i) (s (aF z i)) (s (aF z i+1))=false):vB s z m=false:=by
 induction m with
 |zero=>omega
 |succ m ih=>
  simp only[vB]
  by_cases him:i=m
  ·subst him;rw[h];simp
  ·rw[ih qo];rfl
def jK (s:Nat→Int)(n:Nat)(z:Nat→Int)(m:Nat):Int:=if fF s n&&cM z m then(if aF z m=n then(if vB s z m&&decide (bH z m≤8)then 0 else 5)else 10)else 1
def pS (s:Nat→Int)(n:Nat)(z:Nat→Int)(m:Nat):Nat:=if jK s n z m=0 then bH z m else 0
def Wv (k a b:Int)(w:World)(e:Ending)(w':World):Prop:=∃A c,e=.returned (.tuple #[.slice A (dU k) c,.bool (B9 k a b)])∧New w w' A (dU k) (fun j=>.int .i64 ((eS k a).getD j 0))
theorem OL {A:Option Addr}{n n' c:Nat}{x x':Bool}(h1:n=n')(h2:x=x'):Ending.returned (.tuple #[.slice A n c,.bool x])=.returned (.tuple #[.slice A n' c,.bool x']):=by rw[h1,h2]
theorem EG (k:Int)(A:OA)(c:Nat)(s:Nat→Int)(w:World)(ha:Rd w A (bN k) (fun j=>.int .i64 (s j)))(hk:1≤k∧k≤11)(hs:∀j,j<bN k→1≤s j∧s j≤4):
 Calls Tryz.prog 149 #[.int .i64 k,.slice A (bN k) c] w (Wv k (s 0) (s 1) w):=by
 by_cases h6:k=6
 ·subst h6
  obtain⟨g,o,rfl,hg,hr⟩:=ha (by decide);have c0:=hr 0 (by decide);have s0:=hs 0 (by decide);obtain⟨x,hx⟩:=qx (s 0)
  simp only[←hx,Nat.add_zero]at c0 s0 ⊢
  clear hr ha hx hs;have hsum:IntKind.i64.wrap (x+1)=x+1:=IntWalk.i64_in _ qo;show Calls _ _ #[.int .i64 6,.slice (some ⟨g,o,none⟩) 1 c] w _
  go_enter Tryz.func149,Tryz.ntmps149
  go_wp2
  go_region
  go_wp2
  go_ret2
  exact⟨_,_,OL rfl (by simp[B9]),(New.block w #[.int .i64 (x+1)] _ 1 _ fun j hj=>by obtain rfl:j=0:=qo;rfl).drewN 1⟩
 by_cases h7:k=7
 ·subst h7
  obtain⟨g,o,rfl,hg,hr⟩:=ha (by decide);have c0:=hr 0 (by decide);obtain⟨x,hx⟩:=qx (s 0)
  simp only[←hx,Nat.add_zero]at c0 ⊢
  clear hr ha hx hs;show Calls _ _ #[.int .i64 7,.slice (some ⟨g,o,none⟩) 1 c] w _
  go_enter Tryz.func149,Tryz.ntmps149
  go_wp2
  go_ret2
  exact⟨_,_,OL rfl (by simp[B9]),New.block w #[.int .i64 x] _ 1 _ fun j hj=>by obtain rfl:j=0:=qo;rfl⟩
 by_cases h45:k=4∨k=5
 ·have ht:bN k=2:=by rcases h45 with rfl|rfl<;>rfl
  rw[ht]at ha hs ⊢;obtain⟨g,o,rfl,hg,hr⟩:=ha (by decide);have c0:=hr 0 (by decide);have c1:=hr 1 (by decide);have s0:=hs 0 (by decide);have s1:=hs 1 (by decide);obtain⟨x,hx⟩:=qx (s 0);obtain⟨y,hy⟩:=qx (s 1)
  simp only[←hx,←hy,Nat.add_zero]at c0 s0 c1 s1 ⊢
  clear hr ha hx hy hs ht;have hsum:IntKind.i64.wrap (x+y)=x+y:=IntWalk.i64_in _ qo
  rcases h45 with rfl|rfl
  all_goals
   go_enter Tryz.func149,Tryz.ntmps149
   go_wp2
   go_region
   go_wp2
   go_ret2
   exact⟨_,_,OL rfl (by simp[B9]),(New.block w #[.int .i64 1] _ 1 _ fun j hj=>by obtain rfl:j=0:=qo;rfl).drewN 1⟩
 have hm:0<dU k:=by unfold dU;(repeat' split);all_goals omega
 have sY:=xU k;have hone:B9 k (s 0) (s 1)=true:=by unfold B9;rw[if_neg h6,if_neg h45]
 have hml:∀j,j<dU k→(eS k (s 0)).getD j 0=1:=fun j hj=>by unfold eS;rw[if_neg h6,if_neg h7];simp[List.getD,hj]
 have agr:=qh hone;have I9:=qh hml;have h4:¬k=4:=fun h=>h45 (.inl h);have h5:¬k=5:=fun h=>h45 (.inr h);clear hone hml h45 ha hs
 go_enter Tryz.func149,Tryz.ntmps149
 go_wp2_with (first|(go_at_call 185;refine(IF _ _ hk).mono ?_;rintro e w' ⟨rfl,rfl⟩)|fail)
 refine(B5 w.heap.size 1 (dU k) _ (cV rfl 0) hm qo).mono ?_;rintro e w1 ⟨A1,c1,rfl,_,hn⟩;have HN:=qh (hn.under (qb));clear hn
 go_wp2
 go_ret2
 exact⟨_,_,OL rfl agr.o.symm,HN.o.congr fun j hj=>by rw[I9.o j hj]⟩
theorem FO {A:Option Addr}{n n' c c':Nat}(h1:n=n')(h2:c=c'):Value.slice A n c=.slice A n' c':=by rw[h1,h2]
theorem fu (k:IntKind)(x:Int):(Value.int k x).oneCell'=true:=rfl
theorem zP13x1 {p:Prop}(h:p:=by
 go_ret2
 rw[pS,HC.o];exact⟨none,0,rfl,cap0,New.none_ (Below.refl _ _) _⟩):p:=h
theorem vW (g o n c:Nat)(A2:OA)(m c2:Nat)(s z:Nat→Int)(w:World)(ha:Rd w (some ⟨g,o,none⟩) n (fun j=>.int .i64 (s j)))(hb:Rd w A2 m (fun j=>.int .i64 (z j)))(hn:n≤1048576)(hm:m≤1048576)(hc:n≤c)(hc2:c≤maxLen):
 Calls Tryz.prog 92 #[.slice (some ⟨g,o,none⟩) n c,.slice A2 m c2] w (Mt w (pS s n z m) (pS s n z m) (fun j=>.int .i64 ((gT s z m).getD j 0)) (jK s n z m)):=by
 obtain⟨i0,hi,iz,is,ib⟩:=info_parts info64;have HA:=qh ha;have HZ:=qh hb;unfold maxLen at hc2;clear ha hb
 cases hs:fF s n
 ·have hcode:jK s n z m=1:=by simp[jK,hs]
  have HC:=qh hcode;have HS:=qh hs;clear hs hcode
  go_enter Tryz.func92,Tryz.ntmps92
  go_wp2_with (first|(go_at_call 147;refine(rW _ _ _ s _ HA.o hn).mono ?_;rintro e w' ⟨rfl,rfl⟩;rw[HS.o])|fail)
  exact zP13x1
 have HS:=qh hs
 cases hz:cM z m
 ·have hcode:jK s n z m=1:=by simp[jK,hz]
  have HC:=qh hcode;have rO:=qh hz;clear hs hz hcode
  go_enter Tryz.func92,Tryz.ntmps92
  go_wp2_with (first|(go_at_call 147;refine(rW _ _ _ s _ HA.o hn).mono ?_;rintro e w' ⟨rfl,rfl⟩;rw[HS.o])|(go_at_call 146;refine(pM _ _ _ z _ HZ.o hm).mono ?_;rintro e w' ⟨rfl,rfl⟩;rw[rO.o])|fail)
  exact zP13x1
 have rO:=qh hz;obtain⟨RN,fX⟩:=fN hz;obtain⟨BK,hsk⟩:=kT hs;have yH:=qh fX;have iS:=qh hsk;have hT:=nO z m;clear fX hsk
 by_cases ht:aF z m=n
 case neg=>
  have hcode:jK s n z m=10:=by simp[jK,hz,hs,ht]
  have HC:=qh hcode;have htb:((aF z m:Int)!=(n:Int))=true:=by simp;omega
  clear hs hz hcode
  go_enter Tryz.func92,Tryz.ntmps92
  go_wp2_with (first|(go_at_call 147;refine(rW _ _ _ s _ HA.o hn).mono ?_;rintro e w' ⟨rfl,rfl⟩;rw[HS.o])|(go_at_call 146;refine(pM _ _ _ z _ HZ.o hm).mono ?_;rintro e w' ⟨rfl,rfl⟩;rw[rO.o])|(go_at_call 111;refine(DS _ _ _ z _ HZ.o rO.o).mono ?_;rintro e w' ⟨rfl,rfl⟩)|fail)
  exact zP13x1
 have hcode:jK s n z m=if vB s z m&&decide (bH z m≤8)then 0 else 5:=by simp[jK,hz,hs,ht]
 have HC:=qh hcode;have HT:=qh ht;clear hs hz hcode ht
 go_enter Tryz.func92,Tryz.ntmps92
 go_wp2_with (first|(go_at_call 147;refine(rW _ _ _ s _ HA.o hn).mono ?_;rintro e w' ⟨rfl,rfl⟩;rw[HS.o])|(go_at_call 146;refine(pM _ _ _ z _ HZ.o hm).mono ?_;rintro e w' ⟨rfl,rfl⟩;rw[rO.o])|(go_at_call 111;refine(DS _ _ _ z _ HZ.o rO.o).mono ?_;rintro e w' ⟨rfl,rfl⟩;rw[HT.o])|fail)
 go_loopw [6,7,30] (fun v r i wr=>∃k:Nat,k≤m∧i=.int .i64 k∧(∃o',r=.slice (some ⟨g,o',none⟩) (n-aF z k) (c-aF z k)∧Hq (aF z k<c→o'=o+aF z k))∧Hq (vB s z k=true)∧wr.ownsRow w.heap.size 2 1 v (bH z k) (ints (gT s z k))∧Below w.heap.size w wr) (fun _ _ i _=>m-(intOf i).toNat)
 case atStart=>exact⟨0,Nat.zero_le _,rfl,⟨o,rfl,qh fun _=>rfl⟩,qh rfl,World.ownsRow_made _ #[] 0 ql qm rfl,qb⟩
 case round=>
  obtain⟨k,hk,rfl,⟨o',rfl,HO⟩,HF,hown,hbl⟩:=hrel;have HB:=qh hbl;have HOWN:=qh hown;clear hbl hown;have Kg:=nO z k;have hMk:=EE z k;have hTm:=gU z hk;have hT:=HT.o
  by_cases hlt:k<m
  ·obtain⟨gz,oz,rfl,hgz,hrz⟩:=HZ.o.below HB.o qo
   have hcz:=hrz k hlt;have fX:=yH.o k hlt;clear hrz;have RP:aF z k+bN (z k)≤n:=by
    have:=gU z (show k+1≤m by omega)
    simp only[aF]at this
    omega
   have htk:=kW (z k);have hrd:Rd wr (some ⟨g,o',none⟩) (bN (z k)) (fun j=>.int .i64 (s (aF z k+j))):=fun h0=>by
    obtain⟨g1,o1,e1,hg1,hr1⟩:=HA.o.below HB.o qo;injection e1 with e1;injection e1 with e1 e2;subst e1 e2;exact⟨g,o',rfl,hg1,fun j hj=>by
     have ho:=HO.o qo;have:=hr1 (aF z k+j) qo;rw[ho,Nat.add_assoc];exact this⟩
   have hst:∀j,j<bN (z k)→1≤s (aF z k+j)∧s (aF z k+j)≤4:=fun j hj=>iS.o _ qo;have hJ:=qh hrd;have HST:=qh hst;clear hrd hst;obtain⟨B,hB⟩:=qx (B9 (z k) (s (aF z k)) (s (aF z k+1)));have hms:∀W,Below wr.heap.size wr W→Calls Tryz.prog 149 #[.int .i64 (z k),.slice (some ⟨g,o',none⟩) (bN (z k)) (c-aF z k)] W (fun e w'=>∃A c,e=.returned (.tuple #[.slice A (dU (z k)) c,.bool B])∧New W w' A (dU (z k)) (fun j=>.int .i64 ((eS (z k) (s (aF z k))).getD j 0))):=fun W hW=>by
    rw[hB];exact EG (z k) (some ⟨g,o',none⟩) (c-aF z k) (fun j=>s (aF z k+j)) W (hJ.o.below hW) fX HST.o
   have rE:=qh hms;have fK:=qh hB;have b1:(bN (z k):Int)≤((c-aF z k:Nat):Int):=qo;have b2:(bN (z k):Int)≤((n-aF z k:Nat):Int):=qo;have hmk:=xU (z k);have abo:aF z (k+1)=aF z k+bN (z k):=rfl;have abr:bH z (k+1)=bH z k+dU (z k):=rfl;have HT2:=qh abo;have dA:=qh abr;clear hms hB abo abr
   go_wp2_with (first|(go_at_call 148;refine(lK _ _ fX).mono ?_;rintro e w' ⟨rfl,rfl⟩)|fail)
   refine(rE.o _ (Below.refl _ _)).mono ?_;rintro e w1 ⟨A1,c1,rfl,hn1⟩;have gJ:=qh hn1;have HB1:=qh (HB.o.trans (hn1.bl.mono HB.o.size));have DM:=qh (own_below HOWN.o hn1.bl);clear hn1 hcz
   cases B
   ·have hfit:=Dz hlt fK.o.symm
    have agK:=qh hfit;clear hfit
    go_wp2
    go_ret2
    have rM:jK s n z m=5:=by rw[HC.o,agK.o];rfl
    rw[pS,rM];exact⟨none,0,rfl,cap0,New.none_ HB1.o _⟩
   ·have tE:=qh (show vB s z (k+1)=true by simp only[vB];rw[HF.o,←fK.o];rfl)
    go_wp2_with (at_builtin;go_must (refine cO w1 rfl (.tmp 46) (.tmp 47) _ rfl w.heap.size 2 i0 _ 1 8 Tryz.underlying61 hi iz is ib rfl qo u6 (bH z k) (ints (gT s z k)) rfl DM.o A1 (dU (z k)) c1 _ rfl (by rw[Nat.mul_one];exact gJ.o.rd) (fun j=>fu _ _) qm qo HB1.o.size ?_);intro v' w' hown' hf';have HOWN':=qh hown';have oC:=qh (HB1.o.trans (hf'.own DM.o HB1.o.size));clear hown' hf')
    by_cases hcap:c-aF z k=bN (z k)
    ·go_wp2
     go_roundw
     case rel=>exact⟨k+1,by omega,qg,⟨o',(by have:=HT2.o;first|exact⟨by omega,by omega⟩|exact⟨rfl,by omega,by omega⟩|exact FO qo qo),qh fun h=>by rw[HT2.o]at h;omega⟩,tE,by rw[dA.o,show gT s z (k+1)=gT s z k++eS (z k) (s (aF z k))from rfl,aL,←eV (eS (z k) (s (aF z k))) (dU (z k)) (pY _ fX)];have:=HOWN'.o;rw[Nat.mul_one]at this;exact this,oC.o⟩
     case measure=>exact qs
    ·go_wp2
     go_roundw
     case rel=>exact⟨k+1,by omega,qg,⟨o'+bN (z k),(by have:=HT2.o;first|exact⟨by omega,by omega⟩|exact⟨rfl,by omega,by omega⟩|exact FO qo qo),qh fun h=>by rw[HT2.o]at h ⊢;have:=HO.o qo;omega⟩,tE,by rw[dA.o,show gT s z (k+1)=gT s z k++eS (z k) (s (aF z k))from rfl,aL,←eV (eS (z k) (s (aF z k))) (dU (z k)) (pY _ fX)];have:=HOWN'.o;rw[Nat.mul_one]at this;exact this,oC.o⟩
     case measure=>exact qs
  ·obtain rfl:m=k:=qo
   obtain⟨A4,c4,rfl,hc4,hnew⟩:=New.sC (w:=w) HB.o HOWN.o;have HN:=qh hnew;clear hnew
   by_cases h8:bH z m≤8
   ·have hc0:jK s n z m=0:=by rw[HC.o,HF.o];simp[h8]
    have pR:=qh hc0;clear hc0
    go_wp2
    go_ret2
    have hN:pS s n z m=bH z m:=by rw[pS,if_pos pR.o]
    rw[hN,pR.o];refine⟨A4,c4,rfl,hc4,?_⟩;have:=HN.o;rw[Nat.mul_one]at this;exact this.congr fun j hj=>by rw[←eV (gT s z m) (bH z m) (qY yH.o ql)];simp[List.getD,hj]
   ·have rM:jK s n z m=5:=by rw[HC.o];simp[h8]
    have HC5:=qh rM;clear rM
    go_wp2
    go_ret2
    rw[pS,HC5.o];exact⟨none,0,rfl,cap0,New.none_ HB.o _⟩
theorem aM {B:Nat}{w w':World}{g o:Nat}{v:Value}(hb:Below B w w')(hg:g<B)(h:w.cell? ⟨g,o,none⟩=some v):w'.cell? ⟨g,o,none⟩=some v:=((aC hb).1 g o hg).trans h
theorem New.then {w w1 w2:World}{A:Option Addr}{N:Nat}{f:Nat→Value}(h:New w w1 A N f)(hb:Below w1.heap.size w1 w2):New w w2 A N f:=
 ⟨h.bl.trans (hb.mono h.bl.size),h.ab,h.bb.mono hb.size,h.wr.below hb,h.rd.below hb⟩
theorem jM {a b:Int}(h:a=b):Value.int .i64 a=.int .i64 b:=by rw[h]
theorem WG (A:OA)(n c:Nat)(A2:OA)(m c2:Nat)(s z:Nat→Int)(w:World)(ha:Rd w A n (fun j=>.int .i64 (s j)))(hb:Rd w A2 m (fun j=>.int .i64 (z j)))(hs:fF s n=true)(hz:cM z m=true)(ht:aF z m=n):
 Calls Tryz.prog 171 #[.slice A n c,.slice A2 m c2] w (LF w (bH z m) (bH z m) (fun j=>.int .i64 ((gT s z m).getD j 0))):=by
 obtain⟨i0,hi,iz,is,ib⟩:=info_parts info64;have HA:=qh ha;have HZ:=qh hb;obtain⟨RN,fX⟩:=fN hz;obtain⟨BK,hsk⟩:=kT hs;have yH:=qh fX;have iS:=qh hsk;have HT:=qh ht;clear ha hb fX hsk hs hz ht
 go_enter Tryz.func171,Tryz.ntmps171
 go_wp2
 go_loopg [5,6,7] m (fun q v at_ i wr=>∃k:Nat,k≤m∧q+k=m∧i=.int .i64 k∧at_=.int .i64 (aF z k)∧wr.ownsRow w.heap.size 2 1 v (bH z k) (ints (gT s z k))∧Below w.heap.size w wr)
 case atStart=>exact⟨0,Nat.zero_le _,rfl,rfl,rfl,World.ownsRow_made _ #[] 0 ql qm rfl,qb⟩
 case round=>
  obtain⟨k,hk,hq,rfl,rfl,hown,hbl⟩:=hrel;have HB:=qh hbl;have HOWN:=qh hown;clear hbl hown;have Kg:=nO z k;have hMk:=EE z k
  by_cases hlt:k<m
  ·obtain⟨gz,oz,rfl,hgz,hrz⟩:=HZ.o qo
   have HZ0:=qh (hrz k hlt);have hcz:=aM HB.o hgz HZ0.o;have fX:=yH.o k hlt;clear hrz;have HT2:=qh (show aF z (k+1)=aF z k+bN (z k)from rfl);have dA:=qh (show bH z (k+1)=bH z k+dU (z k)from rfl);have HA2:=qh (show gT s z (k+1)=gT s z k++eS (z k) (s (aF z k))from rfl);have RP:aF z k+bN (z k)≤n:=by
    have:=gU z (show k+1≤m by omega);have:=HT.o;have:=HT2.o;omega
   have htk:=kW (z k);have hmk:=xU (z k)
   by_cases h6:z k=6
   ·have ht1:bN (z k)=1:=by rw[h6];rfl
    have hm1:dU (z k)=1:=by rw[h6];rfl
    obtain⟨g,o,rfl,hg,hr⟩:=HA.o qo;have hcs:=aM HB.o hg (hr (aF z k) qo);have hsb:=iS.o (aF z k) qo;have g7:=qh (show eS (z k) (s (aF z k))=[s (aF z k)+1]by unfold eS;rw[if_pos h6]);obtain⟨x,hx⟩:=qx (s (aF z k))
    simp only[←hx]at hcs hsb g7
    have HX:=qh hx
    simp only[h6]at hcz
    have hz0':=HZ0.o
    simp only[h6]at hz0'
    replace HZ0:=qh hz0';clear hz0';have HT1:=qh ht1;have fD:=qh hm1;have afM:aF z k<n:=qo;have ht6:=kW 6;clear hr h6 hx ht1 hm1
    go_wp2_with (at_builtin;go_must (refine bW wr rfl (.tmp 34) (.tmp 40) _ rfl w.heap.size 2 i0 _ 1 8 Tryz.underlying61 hi iz is ib rfl qo u5 (bH z k) (ints (gT s z k)) rfl HOWN.o _ 1 1 _ rfl rfl (by simp[Value.oneCell']) qm qo HB.o.size ?_);intro v' w' hown' hb';have HOWN':=qh hown';have oC:=qh (HB.o.trans hb');have Rb:=aM oC.o hgz HZ0.o;clear hown' hb')
    with_reducible refine(cE 6 _ qo).mono ?_
    rintro e w2 ⟨rfl,hb2⟩;have HB2:=qh (oC.o.trans (hb2.mono oC.o.size));have gP:=qh (own_below HOWN'.o hb2);clear hb2 hcz Rb hcs
    go_wp2
    go_roundg (gk-1)
    case measure=>omega
    case rel=>
     exact⟨k+1,by omega,by omega,qg,jM (by rw[HT2.o,HT1.o,show bN 6=1 from rfl];simp),by rw[dA.o,fD.o,HA2.o,←HX.o,g7.o,aL];exact gP.o,HB2.o⟩
   by_cases h7:z k=7
   ·have ht1:bN (z k)=1:=by rw[h7];rfl
    have hm1:dU (z k)=1:=by rw[h7];rfl
    obtain⟨g,o,rfl,hg,hr⟩:=HA.o qo;have hcs:=aM HB.o hg (hr (aF z k) qo);have hsb:=iS.o (aF z k) qo;have g7:=qh (show eS (z k) (s (aF z k))=[s (aF z k)]by unfold eS;rw[if_neg h6,if_pos h7]);obtain⟨x,hx⟩:=qx (s (aF z k))
    simp only[←hx]at hcs hsb g7
    have HX:=qh hx
    simp only[h7]at hcz
    have hz0':=HZ0.o
    simp only[h7]at hz0'
    replace HZ0:=qh hz0';clear hz0';have HT1:=qh ht1;have fD:=qh hm1;have afM:aF z k<n:=qo;have ht6:=kW 7;clear hr h7 hx ht1 hm1
    go_wp2_with (at_builtin;go_must (refine bW wr rfl (.tmp 44) (.tmp 49) _ rfl w.heap.size 2 i0 _ 1 8 Tryz.underlying61 hi iz is ib rfl qo u5 (bH z k) (ints (gT s z k)) rfl HOWN.o _ 1 1 _ rfl rfl (by simp[Value.oneCell']) qm qo HB.o.size ?_);intro v' w' hown' hb';have HOWN':=qh hown';have oC:=qh (HB.o.trans hb');have Rb:=aM oC.o hgz HZ0.o;clear hown' hb')
    with_reducible refine(cE 7 _ qo).mono ?_
    rintro e w2 ⟨rfl,hb2⟩;have HB2:=qh (oC.o.trans (hb2.mono oC.o.size));have gP:=qh (own_below HOWN'.o hb2);clear hb2 hcz Rb hcs
    go_wp2
    go_roundg (gk-1)
    case measure=>omega
    case rel=>
     exact⟨k+1,by omega,by omega,qg,jM (by rw[HT2.o,HT1.o,show bN 7=1 from rfl];simp),by rw[dA.o,fD.o,HA2.o,←HX.o,g7.o,aL];exact gP.o,HB2.o⟩
   have g7:=qh (show eS (z k) (s (aF z k))=List.replicate (dU (z k)) 1 by unfold eS;rw[if_neg h6,if_neg h7]);obtain⟨y,hy⟩:=qx (z k)
   simp only[←hy]at hcz fX h6 h7 HT2 dA HA2 g7 RP htk hmk HZ0
   have HY:=qh hy;clear hy
   go_wp2_with fail
   with_reducible refine(gM y _ fX).mono ?_
   rintro e w1 ⟨rfl,hb1⟩;have HB1:=HB.st hb1;have DM:=qh (own_below HOWN.o hb1);clear hb1 hcz
   go_wp2_with fail
   go_loopg [5,8] (dU y) (fun q v kk wi=>∃j:Nat,j≤dU y∧q+j=dU y∧kk=.int .i64 ((dU y-j:Nat):Int)∧wi.ownsRow w.heap.size 2 1 v (bH z k+j) (ints (gT s z k)++ints (List.replicate j 1))∧Below w.heap.size w wi)
   case atStart=>exact⟨0,Nat.zero_le _,rfl,rfl,by simpa [ints]using DM.o,HB1.o⟩
   case round=>
    obtain⟨j,hj,hq2,rfl,hown2,BN⟩:=hrel;have HB2:=qh BN;have gP:=qh hown2;clear hown2 BN
    by_cases hlt2:j<dU y
    ·have b1:(0:Int)<((dU y-j:Nat):Int):=qo
     go_wp2_with (at_builtin;go_must (refine bW wr rfl (.tmp 29) (.tmp 30) _ rfl w.heap.size 2 i0 _ 1 8 Tryz.underlying61 hi iz is ib rfl qo u5 (bH z k+j) (ints (gT s z k)++ints (List.replicate j 1)) rfl gP.o _ 1 1 _ rfl rfl (by simp[Value.oneCell']) qm qo HB2.o.size ?_);intro v' w' hown' hb';have HOWN':=qh hown';have oC:=qh (HB2.o.trans hb');clear hown' hb')
     go_roundg (dU y-(j+1))
     case measure=>omega
     case rel=>exact⟨j+1,by omega,by omega,jM qo,by have:=HOWN'.o;rw[List.replicate_succ',aL,←List.append_assoc];exact this,oC.o⟩
    ·obtain rfl:j=dU y:=qo
     have hcz:=aM HB2.o hgz HZ0.o
     go_wp2_with fail
     with_reducible refine(cE y _ fX).mono ?_
     rintro e w3 ⟨rfl,hb3⟩;have HB3:=HB2.st hb3;have ad5:=qh (own_below gP.o hb3);clear hb3 hcz
     go_wp2
     go_roundg (m-(k+1))
     case measure=>omega
     case rel=>exact⟨k+1,by omega,by omega,qg,jM (by rw[HT2.o];omega),by rw[dA.o,HA2.o,g7.o,aL];exact ad5.o,HB3.o⟩
  ·obtain rfl:m=k:=qo
   obtain⟨A4,c4,rfl,hc4,hnew⟩:=New.sC (w:=w) HB.o HOWN.o;have HN:=qh hnew;clear hnew
   go_wp2
   go_ret
   refine⟨A4,c4,rfl,hc4,?_⟩;have:=HN.o;rw[Nat.mul_one]at this;exact this.congr fun j hj=>by rw[←eV (gT s z m) (bH z m) (qY yH.o ql)];simp[List.getD,hj]
def FI (k a b:Int):Bool:=(k==4||k==5)&&decide (4<a+b)
def ED (s z:Nat→Int):Nat→Bool
 |0=>false
 |i+1=>ED s z i||FI (z i) (s (aF z i)) (s (aF z i+1))
theorem Ow {s z:Nat→Int}{i m:Nat}(hi:i<m)(h:FI (z i) (s (aF z i)) (s (aF z i+1))=true):ED s z m=true:=by
 induction m with
 |zero=>omega
 |succ m ih=>
  simp only[ED]
  by_cases him:i=m
  ·subst him;rw[h];simp
  ·rw[ih qo];rfl
theorem Mk (p:Int→Bool)(l:List Int)(n:Nat)(hn:n≤l.length):l2 p (fun j=>l.getD j 0) n=(l.take n).all p:=by
 induction n with
 |zero=>simp[l2]
 |succ n ih=>
  simp only[l2]
  rw[ih qo,List.take_succ_eq_append_getElem (show n<l.length by omega),List.all_append]
  simp[List.getD,List.getElem?_eq_getElem (show n<l.length by omega)]
theorem Il {k t b:Int}(hk:1≤k∧k≤11)(ht:0<bN k→1≤t∧t≤4):((eS k t).all fG&&!FI k t b)=B9 k t b:=by
 unfold eS B9 FI
 by_cases h6:k=6
 ·subst h6
  have:=ht (by decide);rw[if_pos rfl,if_pos rfl,Bool.eq_iff_iff]
  simp[fG,aJ]
  exact⟨fun h=>by omega,fun h=>by omega⟩
 ·rw[if_neg h6,if_neg h6]
  by_cases h7:k=7
  ·subst h7
   have:=ht (by decide)
   simp[fG,aJ,this.1,this.2]
  ·rw[if_neg h7]
   have h1:(List.replicate (dU k) (1:Int)).all fG=true:=by simp[List.all_replicate,fG,aJ]
   rw[h1]
   by_cases h45:k=4∨k=5
   ·rw[if_pos h45]
    rcases h45 with rfl|rfl
    all_goals
     rw[Bool.eq_iff_iff]
     simp
   ·rw[if_neg h45]
    simp only[not_or]at h45
    simp[h45.1,h45.2]
theorem Zd {s z:Nat→Int}{n m:Nat}(hs:fF s n=true)(hz:cM z m=true)(ht:aF z m=n){i:Nat}(hi:i≤m):((gT s z i).all fG&&!ED s z i)=vB s z i:=by
 obtain⟨_,fX⟩:=fN hz;obtain⟨_,hsk⟩:=kT hs
 induction i with
 |zero=>rfl
 |succ i ih=>
  have h1:=Il (k:=z i) (t:=s (aF z i)) (b:=s (aF z i+1)) (fX i qo) (fun h0=>hsk _ (by
   have:=gU z (show i+1≤m by omega)
   simp only[aF]at this
   omega))
  simp only[gT,ED,vB,List.all_append]
  rw[←ih qo,←h1]
  cases(gT s z i).all fG<;>cases(eS (z i) (s (aF z i))).all fG<;>cases ED s z i<;>cases FI (z i) (s (aF z i)) (s (aF z i+1))<;>rfl
theorem Bq {s z:Nat→Int}{n m:Nat}(hs:fF s n=true)(hz:cM z m=true)(ht:aF z m=n):(fF (fun j=>(gT s z m).getD j 0) (bH z m)&&!ED s z m)=(vB s z m&&decide (bH z m≤8)):=by
 have hl:=qY (s:=s) (fN hz).2 (Nat.le_refl m);unfold fF;rw[Mk fG (gT s z m) (bH z m) qo,List.take_of_length_le qo,←Zd hs hz ht (Nat.le_refl m)]
 cases decide (bH z m≤8)<;>cases(gT s z m).all fG<;>cases ED s z m<;>rfl
theorem WF (A:OA)(n c:Nat)(A2:OA)(m c2:Nat)(s z:Nat→Int)(w:World)(ha:Rd w A n (fun j=>.int .i64 (s j)))(hb:Rd w A2 m (fun j=>.int .i64 (z j)))(hs:fF s n=true)(hz:cM z m=true)(ht:aF z m=n):
 Calls Tryz.prog 172 #[.slice A n c,.slice A2 m c2] w fun e w'=>e=.returned (.bool (ED s z m))∧Below w.heap.size w w':=by
 have HA:=qh ha;have HZ:=qh hb;obtain⟨RN,fX⟩:=fN hz;obtain⟨BK,hsk⟩:=kT hs;have yH:=qh fX;have iS:=qh hsk;have HT:=qh ht;clear ha hb fX hsk hs hz ht
 go_enter Tryz.func172,Tryz.ntmps172
 go_wp2
 go_loopw [5,6] (fun at_ i wr=>∃k:Nat,k≤m∧i=.int .i64 k∧at_=.int .i64 (aF z k)∧Hq (ED s z k=false)∧Below w.heap.size w wr) (fun _ i _=>m-(intOf i).toNat)
 case atStart=>exact⟨0,Nat.zero_le _,rfl,rfl,qh rfl,Below.refl _ _⟩
 case round=>
  obtain⟨k,hk,rfl,rfl,HTH,hbl⟩:=hrel;have HB:=qh hbl;clear hbl;have Kg:=nO z k
  by_cases hlt:k<m
  ·obtain⟨gz,oz,rfl,hgz,hrz⟩:=HZ.o qo
   have HZ0:=qh (hrz k hlt);have fX:=yH.o k hlt;clear hrz;have HT2:=qh (show aF z (k+1)=aF z k+bN (z k)from rfl);have DN:=qh (show ED s z (k+1)=(ED s z k||FI (z k) (s (aF z k)) (s (aF z k+1)))from rfl);have yJ:=qh (fun h=>Ow (s:=s) (z:=z) hlt h);have RP:aF z k+bN (z k)≤n:=by
    have:=gU z (show k+1≤m by omega);have:=HT.o;have:=HT2.o;omega
   have htk:=kW (z k);obtain⟨y,hy⟩:=qx (z k)
   simp only[←hy]at HZ0 fX HT2 DN yJ RP htk
   clear hy;have hcz:=aM HB.o hgz HZ0.o;have b1:(0:Int)≤(k:Int):=qo;have b2:(k:Int)<(m:Int):=qo
   by_cases h45:y=4∨y=5
   ·have ht2:bN y=2:=by rcases h45 with rfl|rfl<;>rfl
    obtain⟨g,o,rfl,hg,hr⟩:=HA.o qo;have hc0:=aM HB.o hg (hr (aF z k) qo);have hc1:=aM HB.o hg (hr (aF z k+1) qo);have hs0:=iS.o (aF z k) qo;have hs1:=iS.o (aF z k+1) qo;obtain⟨x0,hx0⟩:=qx (s (aF z k));obtain⟨x1,hx1⟩:=qx (s (aF z k+1))
    simp only[←hx0,←hx1]at hc0 hc1 hs0 hs1 DN yJ
    clear hr hx0 hx1;have b3:(0:Int)≤(aF z k:Int):=qo;have b4:(aF z k:Int)<(n:Int):=qo;have b5:(aF z k:Int)+1<(n:Int):=qo
    by_cases h4:4<x0+x1
    ·have hc1':wr.cell? ⟨g,o+(aF z k+1),none⟩=some (.int .i64 x1):=hc1
     have s1:IntKind.i64.wrap ((aF z k:Int)+1)=aF z k+1:=IntWalk.i64_in _ qo;have s2:IntKind.i64.wrap (x0+x1)=x0+x1:=IntWalk.i64_in _ qo
     rcases h45 with rfl|rfl
     all_goals
      go_wp2
      go_quiet (fail)
      go_wp2
      go_ret
      exact⟨eT (yJ.o (by simp[FI,h4])).symm,Below.drewN' HB.o _⟩
    ·have hc1':wr.cell? ⟨g,o+(aF z k+1),none⟩=some (.int .i64 x1):=hc1
     have s1:IntKind.i64.wrap ((aF z k:Int)+1)=aF z k+1:=IntWalk.i64_in _ qo;have s2:IntKind.i64.wrap (x0+x1)=x0+x1:=IntWalk.i64_in _ qo
     rcases h45 with rfl|rfl
     all_goals
      go_wp2
      go_quiet (fail)
      clear s1 s2 hc0 hc1 hc1'
      go_wp2_with fail
      have hcz2:=aM (Below.drewN' HB.o nq) hgz HZ0.o
      with_reducible refine(cE _ _ fX).mono ?_
      rintro e w3 ⟨rfl,hb3⟩;have HB3:=qh ((Below.drewN' HB.o nq).trans (hb3.mono (Below.drewN' HB.o nq).size));clear hb3 hcz2 hcz
      go_wp2
      go_roundw
      case rel=>exact⟨k+1,by omega,qg,jM (by rw[HT2.o];omega),qh (by rw[DN.o,HTH.o];simp[FI,h4]),HB3.o⟩
      case measure=>exact qs
   ·have hb4:(y==4)=false:=by simp;omega
    have hb5:(y==5)=false:=by simp;omega
    have h4:¬y=4:=fun h=>h45 (.inl h);have h5:¬y=5:=fun h=>h45 (.inr h);clear h45
    go_wp2
    go_quiet (fail)
    go_wp2_with fail
    have hcz2:=aM (Below.drewN' HB.o nq) hgz HZ0.o
    with_reducible refine(cE _ _ fX).mono ?_
    rintro e w3 ⟨rfl,hb3⟩;have HB3:=qh ((Below.drewN' HB.o nq).trans (hb3.mono (Below.drewN' HB.o nq).size));clear hb3 hcz2 hcz
    go_wp2
    go_roundw
    case rel=>exact⟨k+1,by omega,qg,jM (by rw[HT2.o];omega),qh (by rw[DN.o,HTH.o];simp[FI,h4,h5]),HB3.o⟩
    case measure=>exact qs
  ·obtain rfl:m=k:=qo
   go_wp2
   go_ret
   exact⟨eT HTH.o.symm,HB.o⟩
theorem IE (A:OA)(n c:Nat)(A2:OA)(m c2:Nat)(s z:Nat→Int)(w:World)(ha:Rd w A n (fun j=>.int .i64 (s j)))(hb:Rd w A2 m (fun j=>.int .i64 (z j)))(hn:n≤1048576)(hm:m≤1048576):
 Calls Tryz.prog 123 #[.slice A n c,.slice A2 m c2] w (Mt w (pS s n z m) (pS s n z m) (fun j=>.int .i64 ((gT s z m).getD j 0)) (jK s n z m)):=by
 have HA:=qh ha;have HZ:=qh hb;clear ha hb
 cases hs:fF s n
 ·have hcode:jK s n z m=1:=by simp[jK,hs]
  have HC:=qh hcode;have HS:=qh hs;clear hs hcode
  go_enter Tryz.func123,Tryz.ntmps123
  go_wp2_with (first|(go_at_call 169;refine(mE _ _ _ s _ HA.o hn).mono ?_;rintro e w' ⟨rfl,rfl⟩;rw[HS.o])|fail)
  exact zP13x1
 have HS:=qh hs
 cases hz:cM z m
 ·have hcode:jK s n z m=1:=by simp[jK,hz]
  have HC:=qh hcode;have rO:=qh hz;clear hs hz hcode
  go_enter Tryz.func123,Tryz.ntmps123
  go_wp2_with (first|(go_at_call 169;refine(mE _ _ _ s _ HA.o hn).mono ?_;rintro e w' ⟨rfl,rfl⟩;rw[HS.o])|(go_at_call 168;refine(xW _ _ _ z _ HZ.o hm).mono ?_;rintro e w' ⟨rfl,rfl⟩;rw[rO.o])|fail)
  exact zP13x1
 have rO:=qh hz;obtain⟨RN,_⟩:=fN hz;obtain⟨BK,_⟩:=kT hs;have hT:=nO z m;have hM:=EE z m
 by_cases ht:aF z m=n
 case neg=>
  have hcode:jK s n z m=10:=by simp[jK,hz,hs,ht]
  have HC:=qh hcode;have htb:((aF z m:Int)!=(n:Int))=true:=by simp;omega
  clear hs hz hcode
  go_enter Tryz.func123,Tryz.ntmps123
  go_wp2_with (first|(go_at_call 169;refine(mE _ _ _ s _ HA.o hn).mono ?_;rintro e w' ⟨rfl,rfl⟩;rw[HS.o])|(go_at_call 168;refine(xW _ _ _ z _ HZ.o hm).mono ?_;rintro e w' ⟨rfl,rfl⟩;rw[rO.o])|fail)
  refine(CW _ _ _ z _ HZ.o rO.o).mono ?_;rintro e w1 ⟨rfl,hb1⟩;have HB1:=qh hb1;clear hb1
  go_wp2
  go_ret2
  rw[pS,HC.o];exact⟨none,0,rfl,cap0,New.none_ HB1.o _⟩
 have hcode:jK s n z m=if vB s z m&&decide (bH z m≤8)then 0 else 5:=by simp[jK,hz,hs,ht]
 rw[←Bq hs hz ht]at hcode;have HC:=qh hcode;have HT:=qh ht;clear hs hz hcode ht
 go_enter Tryz.func123,Tryz.ntmps123
 go_wp2_with (first|(go_at_call 169;refine(mE _ _ _ s _ HA.o hn).mono ?_;rintro e w' ⟨rfl,rfl⟩;rw[HS.o])|(go_at_call 168;refine(xW _ _ _ z _ HZ.o hm).mono ?_;rintro e w' ⟨rfl,rfl⟩;rw[rO.o])|fail)
 refine(CW _ _ _ z _ HZ.o rO.o).mono ?_;rintro e w1 ⟨rfl,hb1⟩;rw[HT.o];have HB1:=qh hb1;clear hb1
 go_wp2_with fail
 refine(WG A n c A2 m c2 s z _ (HA.o.below HB1.o) (HZ.o.below HB1.o) HS.o rO.o HT.o).mono ?_;rintro e w2 ⟨A3,c3,rfl,hc3,hn2⟩;have cT:=qh (hn2.under HB1.o);clear hn2
 cases h1:fF (fun j=>(gT s z m).getD j 0) (bH z m)
 ·have H1:=qh h1
  clear h1
  go_wp2_with ((go_at_call 169;refine(mE A3 (bH z m) c3 (fun j=>(gT s z m).getD j 0) _ cT.o.rd qo).mono ?_;rintro e w' ⟨rfl,rfl⟩;rw[H1.o]))
  go_ret2
  have rM:jK s n z m=5:=by rw[HC.o,H1.o];rfl
  rw[pS,rM];exact⟨none,0,rfl,cap0,New.none_ cT.o.bl _⟩
 have H1:=qh h1;clear h1
 go_wp2_with ((go_at_call 169;refine(mE A3 (bH z m) c3 (fun j=>(gT s z m).getD j 0) _ cT.o.rd qo).mono ?_;rintro e w' ⟨rfl,rfl⟩;rw[H1.o]))
 refine(WF A n c A2 m c2 s z _ (HA.o.below cT.o.bl) (HZ.o.below cT.o.bl) HS.o rO.o HT.o).mono ?_;rintro e w3 ⟨rfl,hb3⟩;have HB3:=qh hb3;clear hb3
 cases h2:ED s z m
 ·have H2:=qh h2
  clear h2
  go_wp2
  go_ret2
  have hc0:jK s n z m=0:=by rw[HC.o,H1.o,H2.o];rfl
  have hN:pS s n z m=bH z m:=by rw[pS,if_pos hc0]
  rw[hN,hc0];exact⟨A3,c3,rfl,hc3,(cT.o.then HB3.o)⟩
 ·have H2:=qh h2
  clear h2
  go_wp2
  go_ret2
  have rM:jK s n z m=5:=by rw[HC.o,H1.o,H2.o];rfl
  rw[pS,rM];exact⟨none,0,rfl,cap0,New.none_ (cT.o.bl.trans (HB3.o.mono cT.o.bl.size)) _⟩
def rv (n k:Nat)(f:Nat→Int)(m:Nat):Int:=if m<k∨n-k≤m then f (n-1-m)else f m
theorem Gw {wr:World}{g n k m:Nat}{f:Nat→Int}(hr:d7 wr g 0 n (fun j=>.int .i64 (rv n k f j)))(hm:m=n-1-k)(hkm:k<m)(hmn:m<n){x y:Int}(hx:x=rv n k f k)(hy:y=rv n k f m):
 d7 ((wr.setCell ⟨g,k,none⟩ (.int .i64 y)).setCell ⟨g,m,none⟩ (.int .i64 x)).drew g 0 n (fun j=>.int .i64 (rv n (k+1) f j)):=by
 intro j hj;show((wr.setCell ⟨g,k,none⟩ (.int .i64 y)).setCell ⟨g,m,none⟩ (.int .i64 x)).cell? _=_;have h1:=hr j hj;rw[Nat.zero_add]at h1 ⊢
 by_cases hjm:j=m
 ·subst hjm
  obtain⟨v,hv⟩:=cell?_setCell_some (p:=⟨g,k,none⟩) (x:=.int .i64 y) h1;rw[World.cell?_setCell_same _ _ _ hv,hx]
  simp only[rv]
  rw[if_neg qo,if_pos qo,show n-1-j=k by omega]
 ·rw[World.cell?_setCell_other _ _ _ _ (by intro e;injection e;omega)]
  by_cases hjk:j=k
  ·subst hjk
   rw[World.cell?_setCell_same _ _ _ h1,hy]
   simp only[rv]
   rw[if_neg qo,if_pos qo,hm]
  ·rw[World.cell?_setCell_other _ _ _ _ (by intro e;injection e;omega),h1]
   simp only[rv]
   by_cases hc:j<k∨n-k≤j
   ·rw[if_pos hc,if_pos qo]
   ·rw[if_neg hc,if_neg qo]
theorem GS (g n c:Nat)(f:Nat→Int)(w:World)(hw:eB w g 0 n)(hr:d7 w g 0 n (fun j=>.int .i64 (f j)))(hn:n≤1048576):
 Calls Tryz.prog 161 #[.slice (some ⟨g,0,none⟩) n c] w fun e w'=>e=.returned (.tuple #[])∧Only w w' g∧eB w' g 0 n∧d7 w' g 0 n (fun j=>.int .i64 (f (n-1-j))):=by
 have HW:=qh hw;have HR:=qh hr;clear hw hr
 go_enter Tryz.func161,Tryz.ntmps161
 go_wp2
 go_loopw [2,3] (fun i j wr=>∃k:Nat,∃z:Int,i=.int .i64 k∧j=.int .i64 z∧Hq (z=(n:Int)-1-k)∧ -1≤z∧z≤1048576∧2*k≤n+1∧Only w wr g∧eB wr g 0 n∧d7 wr g 0 n (fun j=>.int .i64 (rv n k f j))) (fun i _ _=>n-(intOf i).toNat)
 case atStart=>exact⟨0,_,rfl,rfl,by simp[Hq],by omega,by omega,by omega,Only.refl _ _,HW.o,fun j hj=>(HR.o j hj).trans (by simp only[rv];rw[if_neg qo])⟩
 case round=>
  obtain⟨k,z,rfl,rfl,HZ,hz1,hz2,hk,ho,hw,hr⟩:=hrel;have HO:=qh ho;have HW:=qh hw;have HR:=qh hr;clear ho hw hr
  by_cases hlt:2*k+1<n
  ·obtain⟨m,rfl⟩:=Int.eq_ofNat_of_zero_le (show 0≤z by have:=HZ.o;omega)
   have hkm:k<m:=by have:=HZ.o;omega
   have hmn:m<n:=by have:=HZ.o;omega
   have hmk:Hq (m=n-1-k):=by have:=HZ.o;unfold Hq;omega
   have hc1:=HR.o k qo;have hc2:=HR.o m qo;obtain⟨x,hx⟩:=qx (rv n k f k);obtain⟨y,hy⟩:=qx (rv n k f m)
   simp only[←hx,←hy,Nat.zero_add]at hc1 hc2
   have HX:=qh hx;have HY:=qh hy;clear hx hy;have hf:=(HW.o k qo).2;have hf':=(HW.o m qo).2;rw[Nat.zero_add]at hf hf';have b1:(0:Int)≤(k:Int):=qo;have b2:(k:Int)<(n:Int):=qo;have b3:(0:Int)≤(m:Int):=qo;have b4:(m:Int)<(n:Int):=qo
   go_wp2
   go_region
   go_wp2
   go_roundw
   case rel=>exact⟨k+1,_,qg,rfl,by unfold Hq;have:=HZ.o;omega,by omega,by omega,by omega,((HO.o.set _ _).set _ _).drewN 1,(HW.o.set _ _).set _ _,Gw HR.o hmk.out hkm hmn HX.o HY.o⟩
   case measure=>exact qs
  ·have fX:z≤(k:Int):=by have:=HZ.o;omega
   go_wp2
   go_end0
   refine⟨rfl,HO.o,HW.o,fun j hj=>(HR.o j hj).trans ?_⟩
   simp only[rv]
   by_cases hc:j<k∨n-k≤j
   ·rw[if_pos hc]
   ·rw[if_neg hc]
    rw[show n-1-j=j by omega]
def bK (s:Nat→Int)(a:Nat):Nat→Int
 |0=>0
 |c+1=>bK s a c+s (a+c)
theorem Bh (s:Nat→Int)(a b c:Nat):bK (fun j=>s (a+j)) b c=bK s (a+b) c:=by
 induction c with
 |zero=>rfl
 |succ c ih=>simp only[bK,ih,Nat.add_assoc]
theorem Pb (s:Nat→Int)(a b c:Nat):bK s a (b+c)=bK s a b+bK s (a+b) c:=by
 induction c with
 |zero=>simp[bK]
 |succ c ih=>
  show bK s a (b+c)+s (a+(b+c))=bK s a b+(bK s (a+b) c+s (a+b+c));rw[ih,Nat.add_assoc a b c];omega
theorem Bj {s t:Nat→Int}{a b n:Nat}(h:∀j,j<n→s (a+j)=t (b+j)):bK s a n=bK t b n:=by
 induction n with
 |zero=>rfl
 |succ n ih=>simp only[bK];rw[ih fun j hj=>h j qo,h n qo]
theorem DT {s:Nat→Int}{a n:Nat}(h:∀j,j<n→ -1000≤s (a+j)∧s (a+j)≤1000): -1000*(n:Int)≤bK s a n∧bK s a n≤1000*n:=by
 induction n with
 |zero=>simp[bK]
 |succ n ih=>
  have h1:=ih fun j hj=>h j qo;have h2:=h n qo
  simp only[bK]
  omega
theorem CT (A:OA)(n c:Nat)(z:Nat→Int)(w:World)(ha:Rd w A n (fun j=>.int .i64 (z j)))(hn:n≤1000)(hz:∀j,j<n→ -1000≤z j∧z j≤1000):
 Calls Tryz.prog 115 #[.slice A n c] w fun e w'=>e=.returned (.int .i64 (bK z 0 n))∧w=w':=by
 have HA:=qh ha;have HZ:=qh hz;clear ha hz
 go_enter Tryz.func115,Tryz.ntmps115
 go_wp2_with fail
 go_loop [3,8] (fun s i=>∃k:Nat,k≤n∧i=.int .i64 k∧s=.int .i64 (bK z 0 k)) (fun _ i=>n-(intOf i).toNat)
 case atStart=>exact⟨0,Nat.zero_le _,rfl,rfl⟩
 case round=>
  obtain⟨k,hk,rfl,rfl⟩:=hrel;have hs:=DT (s:=z) (a:=0) (n:=k) (fun j hj=>by rw[Nat.zero_add];exact HZ.o j qo)
  by_cases hlt:k<n
  ·obtain⟨ga,o,rfl,hg,hr⟩:=HA.o qo
   have hc:=hr k hlt;have fX:=HZ.o k hlt;have HS:=qh (show bK z 0 (k+1)=bK z 0 k+z k by simp[bK]);clear hr
   go_wp2
   go_round
   case rel=>exact⟨k+1,by omega,qg,jM HS.o.symm⟩
   case measure=>exact qs
  ·obtain rfl:n=k:=qo
   go_wp2
   go_ret
   exact⟨rfl,rfl⟩
def IdP (w:World)(n:Nat)(e:Ending)(w':World):Prop:=∃g c,e=.returned (.slice (some ⟨g,0,none⟩) n c)∧w.heap.size≤g∧g<w'.heap.size∧Below w.heap.size w w'∧eB w' g 0 n∧d7 w' g 0 n (fun j=>.int .i64 j)
theorem JI (n:Nat)(w:World)(hn:n≤1000):
 Calls Tryz.prog 160 #[.int .i64 n] w (IdP w n):=by
 obtain⟨cs,hcs,hcv,hmk⟩:=xV n qo;have HW0:=qh (show eB (w.alloc (.cells cs 2)) w.heap.size 0 n from fun j hj=>⟨⟨_,(cV rfl _).trans (by rw[Nat.zero_add];exact hcv j hj)⟩,Dx _ _ _ _⟩);clear hcv
 go_enter Tryz.func160,Tryz.ntmps160
 go_wp2_with fail
 clear hmk
 go_loopw [9] (fun i wr=>∃k:Nat,k≤n∧i=.int .i64 k∧Fr (w.alloc (.cells cs 2)) wr (fun b=>b=w.heap.size)∧eB wr w.heap.size 0 n∧d7 wr w.heap.size 0 k (fun j=>.int .i64 j)) (fun i _=>n-(intOf i).toNat)
 case atStart=>exact⟨0,Nat.zero_le _,rfl,Fr.refl _ _,HW0.o,fun j hj=>absurd hj qo⟩
 case round=>
  obtain⟨k,hk,rfl,hf,hw,hr⟩:=hrel;have HF:=qh hf;have HW:=qh hw;have HR:=qh hr;clear hf hw hr
  by_cases hlt:k<n
  ·obtain⟨⟨u,hu⟩,hfz⟩:=HW.o k hlt
   rw[Nat.zero_add]at hu hfz
   go_wp2
   go_roundw
   case rel=>exact⟨k+1,by omega,qg,HF.o.set rfl _,HW.o.set _ _,HR.o.step HW.o hlt qo rfl⟩
   case measure=>exact qs
  ·obtain rfl:n=k:=qo
   go_wp2
   go_ret
   have hs:=HF.o.size
   simp at hs
   exact⟨_,_,rfl,Nat.le_refl _,by omega,(qb).trans (HF.o.below qj fun b hb=>Nat.le_of_eq hb.symm),HW.o,HR.o⟩
def fC (d:Int)(m i:Nat):Nat:=if d= -1 then m-1-i else i
theorem AE {d:Int}{m i:Nat}(h:i<m):fC d m i<m:=by unfold fC;split<;>omega
theorem SC (d c:Int)(A:OA)(n q:Nat)(w:World)(hn:n≤1000):
 Calls Tryz.prog 113 #[.agg #[.int .i64 d,.int .i64 c,.slice A n q]] w (Tj w n n (fun j=>.int .i64 (fC d n j))):=by
 by_cases hd:d= -1
 ·subst hd
  go_enter Tryz.func113,Tryz.ntmps113
  go_wp2_with fail
  refine(JI n _ hn).mono ?_;rintro e w1 ⟨g1,c1,rfl,hg,hg1,hb1,hw1,hr1⟩;have hbx:∀o,w1.cell? ⟨w.heap.size,o,none⟩=(#[.int .i64 (-1),.int .i64 c,.slice A n q]:Array Value)[o]?:=fun o=>((aC hb1).1 w.heap.size o qj).trans (cV rfl o);have HB1:=qh (((Below.refl w.heap.size w).alloc ql _).trans (hb1.mono qj));have HW:=qh hw1;have HR:=qh hr1
  simp only[World.size_alloc]at hg
  clear hb1 hw1 hr1
  go_wp2_with fail
  refine(GS g1 n c1 (fun j=>(j:Int)) _ HW.o HR.o qo).mono ?_;rintro e w2 ⟨rfl,ho2,hw2,hr2⟩;have HO:=qh ho2;have HW2:=qh hw2;have HR2:=qh hr2;clear ho2 hw2 hr2 hbx
  go_wp2
  go_ret
  have hs:=HO.o.size;refine⟨_,_,rfl,New.J2 (HB1.o.trans ((Fr.KY HO.o (F:=fun b=>b=g1) rfl).below HB1.o.size fun b hb=>by omega)) qo qo HW2.o fun j hj=>(HR2.o j hj).trans ?_⟩
  simp only[fC,if_true]
 ·have hdb:(d== -1)=false:=by simpa using hd
  go_enter Tryz.func113,Tryz.ntmps113
  go_wp2_with fail
  refine(JI n _ hn).mono ?_;rintro e w1 ⟨g1,c1,rfl,hg,hg1,hb1,hw1,hr1⟩;have hbx:∀o,w1.cell? ⟨w.heap.size,o,none⟩=(#[.int .i64 d,.int .i64 c,.slice A n q]:Array Value)[o]?:=fun o=>((aC hb1).1 w.heap.size o qj).trans (cV rfl o);have HB1:=qh (((Below.refl w.heap.size w).alloc ql _).trans (hb1.mono qj));have HW:=qh hw1;have HR:=qh hr1
  simp only[World.size_alloc]at hg
  clear hb1 hw1 hr1
  go_wp2
  go_ret
  exact⟨_,_,rfl,New.J2 HB1.o qo hg1 HW.o fun j hj=>(HR.o j hj).trans (by simp[fC,hd])⟩
structure oZ (S:Nat)(eo:TypeId)(B:Nat)(w:World)(v:Value)(k:Nat)(As:Nat→OA)(ns cs:Nat→Nat)(z:Nat→Nat→Int):Prop where
 own:w.ownsRow B eo 1 v k ((List.range k).map fun j=>.slice (As j) (ns j) (cs j))
 ab:∀j b,j<k→Fb (As j) (ns j*S) b→B≤b
 wr:∀j,j<k→Wr w (As j) (ns j*S)
 rd:∀j,j<k→Rd w (As j) (ns j*S) (fun i=>.int .i64 (z j i))
 out:∀j b,j<k→Fb (As j) (ns j*S) b→v.ownBlock≠some b
 Y4:∀i j b,i<j→j<k→Fb (As i) (ns i*S) b→¬Fb (As j) (ns j*S) b
def upd {α:Type}(f:Nat→α)(k:Nat)(x:α)(j:Nat):α:=if j=k then x else f j
theorem AQ {α:Type}(f:Nat→α)(k:Nat)(x:α):upd f k x k=x:=if_pos rfl
theorem upd_ne {α:Type}(f:Nat→α){k j:Nat}(x:α)(h:j≠k):upd f k x j=f j:=if_neg h
section
variable {S:Nat}{eo:TypeId}{B:Nat}{w w' W0 W:World}{v:Value}{k:Nat}{As:Nat→Option Addr}{ns cs:Nat→Nat}{z:Nat→Nat→Int}
theorem oZ.below (h:oZ S eo B w v k As ns cs z)(hb:Below w.heap.size w w'):oZ S eo B w' v k As ns cs z:=
 ⟨own_below h.own hb,h.ab,fun j hj=>(h.wr j hj).below hb,fun j hj=>(h.rd j hj).below hb,h.out,h.Y4⟩
theorem oZ.start (S:Nat)(eo:TypeId)(w:World)(As:Nat→OA)(ns cs:Nat→Nat)(z:Nat→Nat→Int){B:Nat}(hB:B≤w.heap.size):
 oZ S eo B (w.alloc (.cells #[] eo)) (.slice (some ⟨w.heap.size,0,none⟩) 0 0) 0 As ns cs z:=
 ⟨World.ownsRow_made w #[] 0 hB qm rfl,fun j b hj=>absurd hj qo,fun j hj=>absurd hj qo,fun j hj=>absurd hj qo,fun j b hj=>absurd hj qo,fun i j b _ hj=>absurd hj qo⟩
theorem Pk {B B':Nat}{w:World}{e:TypeId}{size n:Nat}{v:Value}{xs:List Value}(h:w.ownsRow B e size v n xs)(hB:B'≤B):w.ownsRow B' e size v n xs:=by
 refine⟨h.1,?_⟩
 rcases h.2 with h2|⟨g,cap,cur,hv,hg,r⟩
 ·exact .inl h2
 ·exact .inr ⟨g,cap,cur,hv,Nat.le_trans hB hg,r⟩
theorem oZ.mono {B':Nat}(h:oZ S eo B w v k As ns cs z)(hB:B'≤B):oZ S eo B' w v k As ns cs z:=
 ⟨Pk h.own hB,fun j b hj hb=>Nat.le_trans hB (h.ab j b hj hb),h.wr,h.rd,h.out,h.Y4⟩
def YR (L:Nat)(W:World)(A:OA)(N:Nat)(f:Nat→Value):Prop:=(∀b,Fb A N b→L≤b)∧Wr W A N∧Rd W A N f
theorem New.row {A1:Option Addr}{N:Nat}{f:Nat→Value}(hn:New W0 W A1 N f):YR W0.heap.size W A1 N f:=⟨fun b hb=>by
 obtain⟨_,a,e,hb⟩:=hb;exact hb▸hn.ab a e,hn.wr,hn.rd⟩
theorem Yb {w:World}{B:Nat}{e:TypeId}{size n:Nat}{v:Value}{xs:List Value}(h:w.ownsRow B e size v n xs):∃A c,v=.slice A n c∧YR B w A (n*size) (fun j=>xs.getD j undef):=by
 rcases h.2 with⟨rfl,rfl⟩|⟨g,cap,cur,rfl,hg,hh,hn,hc,hs,ht⟩
 ·exact⟨none,0,rfl,fun b ⟨h0,_⟩=>absurd h0 qo,fun h0=>absurd h0 qo,fun h0=>absurd h0 qo⟩
 ·have hlt:g<w.heap.size:=(Array.getElem?_eq_some_iff.1 hh).1
  have hc:∀j,j<n*size→w.cell? ⟨g,0+j,none⟩=some (xs.getD j undef):=fun j hj=>by
   rw[Nat.zero_add,h.cellAt j hj]
   simp[List.getD,List.getElem?_eq_getElem (show j<xs.length by rw[h.1];exact hj)]
  exact⟨_,cap,rfl,fun b ⟨_,a,e,hb⟩=>by injection e with e;subst e;exact hb▸hg,fun _=>⟨g,0,rfl,fun j hj=>⟨⟨_,hc j hj⟩,h.frozenAt _⟩⟩,fun _=>⟨g,0,rfl,hlt,hc⟩⟩
def Xo (S L:Nat)(v:Value)(k:Nat)(As:Nat→OA)(ns:Nat→Nat):Prop:=(∀b,v.ownBlock=some b→b<L)∧∀j b,j<k→Fb (As j) (ns j*S) b→b<L
theorem oZ.lt (h:oZ S eo B w v k As ns cs z):Xo S w.heap.size v k As ns:=⟨fun b hb=>(h.own.lt b hb).2,fun j b hj hb=>(aS _ _ _).2 w b (h.rd j hj) hb⟩
theorem oZ.next {L:Nat}(hW:oZ S eo B W v k As ns cs z)(hL:Xo S L v k As ns)(hBL:B≤L)(hLW:L≤W.heap.size){A1:Option Addr}{c1:Nat}(hn:YR L W A1 (ns k*S) (fun i=>.int .i64 (z k i)))
 {w1:World} {v':Value} (h1:Below W.heap.size W w1) (hown:w'.ownsRow B eo 1 v' (k+1) (((List.range k).map fun j=>.slice (As j) (ns j) (cs j))++[.slice A1 (ns k) c1])) (hg:w1.grownBy w' v.ownBlock) (hat:v'.ownBlock=v.ownBlock∨v'.ownBlock=some w1.heap.size):
 oZ S eo B w' v' (k+1) (upd As k A1) ns (upd cs k c1) z:=by
 have hs1:=h1.size;have Vo:∀j b,j<k→Fb (As j) (ns j*S) b→b<L:=hL.2;have SZ:∀b,Fb A1 (ns k*S) b→L≤b∧b<W.heap.size:=fun b hb=>⟨hn.1 b hb,(aS _ _ _).2 W b hn.2.2 hb⟩;have hv:∀b,v.ownBlock=some b→b<L:=hL.1;have hv':∀b,b<w1.heap.size→v.ownBlock≠some b→v'.ownBlock≠some b:=fun b hb hne=>by
  rcases hat with e|e
  ·rw[e];exact hne
  ·rw[e];intro e;injection e with e;omega
 have keep:∀b,b<w1.heap.size→v.ownBlock≠some b→w'.heap[b]?=w1.heap[b]?:=fun b hb hne=>hg.block b hb (fun e=>hne e.symm);refine⟨?_,fun j b hj hb=>?_,fun j hj=>?_,fun j hj=>?_,fun j b hj hb=>?_,fun i j b hij hj hb hb'=>?_⟩
 ·rw[List.range_succ,List.map_append,List.map_cons,List.map_nil,AQ,AQ]
  have e:(List.range k).map (fun j=>Value.slice (upd As k A1 j) (ns j) (upd cs k c1 j))=(List.range k).map (fun j=>Value.slice (As j) (ns j) (cs j)):=
   List.map_congr_left fun j hj=>by
    have:j≠k:=by have:=List.mem_range.1 hj;omega
    rw[upd_ne _ _ this,upd_ne _ _ this]
  rw[e];exact hown
 ·by_cases hjk:j=k
  ·subst hjk
   rw[AQ]at hb;have:=SZ b hb;omega
  ·rw[upd_ne _ _ hjk]at hb
   exact hW.ab j b qo hb
 ·by_cases hjk:j=k
  ·subst hjk
   rw[AQ];exact(mF _ _).1 w1 w' (hn.2.1.below h1) fun b hb=>keep b (by have:=SZ b hb;omega) (fun e=>by have:=hv b e;have:=SZ b hb;omega)
  ·rw[upd_ne _ _ hjk]
   exact(mF _ _).1 w1 w' ((hW.wr j qo).below h1) fun b hb=>keep b (by have:=Vo j b qo hb;omega) (hW.out j b qo hb)
 ·by_cases hjk:j=k
  ·subst hjk
   rw[AQ];exact(aS _ _ _).1 w1 w' (hn.2.2.below h1) fun b hb=>keep b (by have:=SZ b hb;omega) (fun e=>by have:=hv b e;have:=SZ b hb;omega)
  ·rw[upd_ne _ _ hjk]
   exact(aS _ _ _).1 w1 w' ((hW.rd j qo).below h1) fun b hb=>keep b (by have:=Vo j b qo hb;omega) (hW.out j b qo hb)
 ·by_cases hjk:j=k
  ·subst hjk
   rw[AQ]at hb;exact hv' b (by have:=SZ b hb;omega) (fun e=>by have:=hv b e;have:=SZ b hb;omega)
  ·rw[upd_ne _ _ hjk]at hb
   exact hv' b (by have:=Vo j b qo hb;omega) (hW.out j b qo hb)
 ·have hik:i≠k:=qo
  rw[upd_ne _ _ hik]at hb
  by_cases hjk:j=k
  ·subst hjk
   rw[AQ]at hb';have:=Vo i b qo hb;have:=SZ b hb';omega
  ·rw[upd_ne _ _ hjk]at hb'
   exact hW.Y4 i j b hij qo hb hb'
end
theorem NewSS.none_ {S:Nat}{w w':World}{ns:Nat→Nat}{z:Nat→Nat→Int}(hb:Below w.heap.size w w')(As:Nat→OA)(cs:Nat→Nat):
 wV w w' (Tg S none 0 As ns cs z) (Tf S none 0 As ns cs) (Xn S none 0 As ns):=
 ⟨hb,fun b hb=>by
  rcases hb with⟨h,_⟩|⟨j,hj,_⟩
  ·exact absurd h qo
  ·exact absurd hj qo,⟨fun h=>absurd h qo,fun j hj=>absurd hj qo⟩,⟨fun h=>absurd h qo,fun j hj=>absurd hj qo,fun j b hj=>absurd hj qo,fun i j b _ hj=>absurd hj qo⟩,VK _ _ _ _ _ _ _,V4 _ _ _ _ _ _⟩
theorem oZ.new {S:Nat}{eo:TypeId}{w w':World}{v:Value}{k:Nat}{As:Nat→Option Addr}{ns cs:Nat→Nat}{z:Nat→Nat→Int}(h:oZ S eo w.heap.size w' v k As ns cs z)(hb:Below w.heap.size w w'):
 ∃A c,v=.slice A k c∧wV w w' (Tg S A k As ns cs z) (Tf S A k As ns cs) (Xn S A k As ns):=by
 obtain⟨A,c,rfl,hn⟩:=New.lQ hb h.own;have hr:Rd w' A k (fun j=>.slice (As j) (ns j) (cs j)):=by
  have:=hn.rd;rw[Nat.mul_one]at this;exact this.congr fun j hj=>by simp[List.getD,hj]
 refine⟨A,c,rfl,hb,fun b hb=>?_,⟨hr,h.rd⟩,⟨hr,h.wr,fun j b hj hb hb'=>h.out j b hj hb ?_,h.Y4⟩,VK _ _ _ _ _ _ _,V4 _ _ _ _ _ _⟩
 ·rcases hb with⟨_,a,e,hb⟩|⟨j,hj,hb⟩
  ·exact hb▸hn.ab a e
  ·exact h.ab j b hj hb
 ·obtain⟨_,a,e,hb'⟩:=hb'
  subst e
  simp[Value.ownBlock,hb']
def rT (k t:Int):Int:=bK (fun j=>(eS k t).getD j 0) 0 (dU k)
def MD (s z:Nat→Int)(i:Nat):Int:=rT (z i) (s (aF z i))-bK s (aF z i) (bN (z i))
def iI (s:Nat→Int)(n:Nat)(z:Nat→Int)(m:Nat)(d:Int):Nat→Int
 |0=>bK s 0 n
 |i+1=>iI s n z m d i+MD s z (fC d m i)
def iT (s:Nat→Int)(n:Nat)(z:Nat→Int)(m:Nat)(d:Int):Nat→Bool
 |0=>true
 |i+1=>iT s n z m d i&&decide (iI s n z m d (i+1)≤12)
theorem DY {s:Nat→Int}{n:Nat}{z:Nat→Int}{m:Nat}{d:Int}{i k:Nat}(hi:i<k)(h:¬iI s n z m d (i+1)≤12):iT s n z m d k=false:=by
 induction k with
 |zero=>omega
 |succ k ih=>
  simp only[iT]
  by_cases hik:i=k
  ·subst hik;simp[h]
  ·rw[ih qo];rfl
theorem tT {k t:Int}(ht:0<bN k→1≤t∧t≤4):0≤rT k t∧rT k t≤5:=by
 unfold rT eS
 by_cases h6:k=6
 ·subst h6
  have:=ht (by decide);rw[if_pos rfl,show dU 6=1 from rfl]
  simp[bK]
  omega
 ·rw[if_neg h6]
  by_cases h7:k=7
  ·subst h7
   have:=ht (by decide);rw[if_pos rfl,show dU 7=1 from rfl]
   simp[bK]
   omega
  ·rw[if_neg h7]
   have:∀n,n≤dU k→bK (fun j=>(List.replicate (dU k) (1:Int)).getD j 0) 0 n=n:=by
    intro n hn
    induction n with
    |zero=>rfl
    |succ n ih=>
     simp only[bK]
     rw[ih qo]
     simp[List.getD,show n<dU k by omega]
   rw[this _ ql];have:=xU k;omega
theorem J7 {k t:Int}(hk:1≤k∧k≤11)(ht:0<bN k→1≤t∧t≤4)(j:Nat): -1000≤(eS k t).getD j 0∧(eS k t).getD j 0≤1000:=by
 have hall:∀x∈eS k t,0≤x∧x≤5:=by
  intro x hx;unfold eS at hx
  by_cases h6:k=6
  ·subst h6
   have:=ht (by decide);rw[if_pos rfl]at hx
   simp at hx
   omega
  ·rw[if_neg h6]at hx
   by_cases h7:k=7
   ·subst h7
    have:=ht (by decide);rw[if_pos rfl]at hx
    simp at hx
    omega
   ·rw[if_neg h7]at hx
    have:=List.eq_of_mem_replicate hx;omega
 by_cases hj:j<(eS k t).length
 ·have:=hall _ (List.getElem_mem hj)
  simp[List.getD,List.getElem?_eq_getElem hj]
  omega
 ·simp[List.getD,List.getElem?_eq_none (Nat.le_of_not_lt hj)]
theorem oI {s:Nat→Int}{n a c:Nat}(hs:∀j,j<n→1≤s j∧s j≤4)(h:a+c≤n):0≤bK s a c∧bK s a c≤4*c:=by
 induction c with
 |zero=>simp[bK]
 |succ c ih=>
  have h1:=ih qo;have h2:=hs (a+c) qo
  simp only[bK]
  omega
theorem PU {s z:Nat→Int}{n m i:Nat}(hs:∀j,j<n→1≤s j∧s j≤4)(ht:aF z m=n)(hi:i<m): -16≤MD s z i∧MD s z i≤5:=by
 have h1:=gU z (show i+1≤m by omega)
 simp only[aF]at h1
 have h2:=tT (k:=z i) (t:=s (aF z i)) (fun h0=>hs _ qo);have h3:=oI hs (a:=aF z i) (c:=bN (z i)) qo;have h4:=kW (z i);unfold MD;omega
theorem BF {s z:Nat→Int}{n m:Nat}(d:Int)(hs:∀j,j<n→1≤s j∧s j≤4)(ht:aF z m=n){i:Nat}(hi:i≤m): -16*(i:Int)≤iI s n z m d i∧iI s n z m d i≤4*n+5*i:=by
 induction i with
 |zero=>
  have:=oI hs (a:=0) (c:=n) qo
  simp only[iI]
  omega
 |succ i ih=>
  have h1:=ih qo;have h2:=PU hs ht (AE (d:=d) (show i<m by omega))
  simp only[iI]
  omega
theorem Ho {w:World}{B:Nat}{e:TypeId}{A:Option Addr}{n c:Nat}{f:Nat→Int}(h:w.ownsRow B e 1 (.slice A n c) n (ints ((List.range n).map f))):Rd w A n (fun j=>.int .i64 (f j)):=by
 obtain⟨A',c',e',hn⟩:=Yb h;injection e' with e1 _ e3;subst e1;rw[Nat.mul_one]at hn;exact hn.2.2.congr fun j hj=>by simp[ints,List.getD,hj]
theorem RK (d cc:Int)(A2:OA)(m c2:Nat)(g o n c:Nat)(s z:Nat→Int)(w:World)(ha:Rd w (some ⟨g,o,none⟩) n (fun j=>.int .i64 (s j)))(hb:Rd w A2 m (fun j=>.int .i64 (z j)))(hc:n≤c)(hc2:c≤maxLen)(hs:fF s n=true)(hz:cM z m=true)(ht:aF z m=n):
 Calls Tryz.prog 93 #[.agg #[.int .i64 d,.int .i64 cc,.slice A2 m c2],.slice (some ⟨g,o,none⟩) n c] w fun e w'=>e=.returned (.bool (iT s n z m d m))∧Below w.heap.size w w':=by
 obtain⟨i0,hi,iz,is,ib⟩:=info_parts info64;have HA:=qh ha;have HZ:=qh hb;obtain⟨RN,fX⟩:=fN hz;obtain⟨BK,hsk⟩:=kT hs;have yH:=qh fX;have iS:=qh hsk;have HT:=qh ht;unfold maxLen at hc2;have HL:=qh ((Below.refl w.heap.size w).alloc ql (.cells #[.int .i64 d,.int .i64 cc,.slice A2 m c2] 73));have HX:=qh (kN w #[.int .i64 d,.int .i64 cc,.slice A2 m c2] 73);clear ha hb fX hsk hs hz ht
 go_enter Tryz.func93,Tryz.ntmps93
 go_wp2_with ((go_at_call 115;refine(CT _ n c s _ (HA.o.below HL.o) qo (fun j hj=>by have:=iS.o j hj;omega)).mono ?_;rintro e w' ⟨rfl,rfl⟩))
 go_loopw [6,7,22] (fun v r i wr=>∃k:Nat,k≤m∧i=.int .i64 k∧(∃o',r=.slice (some ⟨g,o',none⟩) (n-aF z k) (c-aF z k)∧Hq (aF z k<c→o'=o+aF z k))∧wr.ownsRow (w.heap.size+1) 2 1 v k (ints ((List.range k).map (MD s z)))∧Below (w.heap.size+1) (w.alloc (.cells #[.int .i64 d,.int .i64 cc,.slice A2 m c2] 73)) wr) (fun _ _ i _=>m-(intOf i).toNat)
 case atStart=>exact⟨0,Nat.zero_le _,rfl,⟨o,rfl,qh fun _=>rfl⟩,by simpa [ints]using World.ownsRow_made (w.alloc (.cells #[.int .i64 d,.int .i64 cc,.slice A2 m c2] 73)) #[] (base:=w.heap.size+1) (e:=2) (size:=1) 0 qj qm rfl,(Below.refl _ _).alloc qj _⟩
 case round=>
  obtain⟨k,hk,rfl,⟨o',rfl,HO⟩,hown,hbl⟩:=hrel;have hbx:∀o,wr.cell? ⟨w.heap.size,o,none⟩=(#[.int .i64 d,.int .i64 cc,.slice A2 m c2]:Array Value)[o]?:=fun o=>((aC hbl).1 _ o qo).trans (HX.o o);have HB:=qh hbl;have HOWN:=qh hown;clear hbl hown;have HB0:=qh (HL.o.trans (HB.o.mono qo));have Kg:=nO z k;have hTm:=gU z hk;have hT:=HT.o
  by_cases hlt:k<m
  ·obtain⟨gz,oz,rfl,hgz,hrz⟩:=HZ.o qo
   have hcz:=aM HB0.o hgz (hrz k hlt);have fX:=yH.o k hlt;clear hrz;have RP:aF z k+bN (z k)≤n:=by
    have:=gU z (show k+1≤m by omega)
    simp only[aF]at this
    omega
   have htk:=kW (z k);have hmk:=xU (z k);have hrd:Rd wr (some ⟨g,o',none⟩) (bN (z k)) (fun j=>.int .i64 (s (aF z k+j))):=fun h0=>by
    obtain⟨g1,o1,e1,hg1,hr1⟩:=HA.o.below HB0.o qo;injection e1 with e1;injection e1 with e1 e2;subst e1 e2;exact⟨g,o',rfl,hg1,fun j hj=>by
     have ho:=HO.o qo;have:=hr1 (aF z k+j) qo;rw[ho,Nat.add_assoc];exact this⟩
   have hst:∀j,j<bN (z k)→1≤s (aF z k+j)∧s (aF z k+j)≤4:=fun j hj=>iS.o _ qo;have hJ:=qh hrd;have HST:=qh hst;clear hrd hst;have hms:∀W,Below wr.heap.size wr W→Calls Tryz.prog 149 #[.int .i64 (z k),.slice (some ⟨g,o',none⟩) (bN (z k)) (c-aF z k)] W (Wv (z k) (s (aF z k)) (s (aF z k+1)) W):=fun W hW=>EG (z k) (some ⟨g,o',none⟩) (c-aF z k) (fun j=>s (aF z k+j)) W (hJ.o.below hW) fX HST.o;have rE:=qh hms;have b1:(bN (z k):Int)≤((c-aF z k:Nat):Int):=qo;have b2:(bN (z k):Int)≤((n-aF z k:Nat):Int):=qo;have b0:(0:Int)≤(bN (z k):Int):=qo;have HT2:=qh (show aF z (k+1)=aF z k+bN (z k)from rfl);have CH:=qh (tT (k:=z k) (t:=s (aF z k)) fun h0=>iS.o _ qo);have HSB:=qh (oI iS.o RP);clear hms
   go_wp2_with (first|(go_at_call 148;refine(lK _ _ fX).mono ?_;rintro e w' ⟨rfl,rfl⟩)|fail)
   refine(rE.o _ (Below.refl _ _)).mono ?_;rintro e w1 ⟨A1,c1,rfl,hn1⟩;have gJ:=qh hn1;have hsz:=HB.o.size
   simp only[World.size_alloc]at hsz
   have HB1:=qh (HB.o.trans (hn1.bl.mono hsz));have DM:=qh (own_below HOWN.o hn1.bl);have hq1:Calls Tryz.prog 115 #[.slice A1 (dU (z k)) c1] w1.drew fun e w'=>e=.returned (.int .i64 (rT (z k) (s (aF z k))))∧w1.drew=w':=CT A1 (dU (z k)) c1 (fun j=>(eS (z k) (s (aF z k))).getD j 0) w1.drew (gJ.o.rd.drewN 1) qo (fun j hj=>J7 fX (fun h0=>iS.o _ qo) j);have hq2:Calls Tryz.prog 115 #[.slice (some ⟨g,o',none⟩) (bN (z k)) (c-aF z k)] w1.drew fun e w'=>e=.returned (.int .i64 (bK s (aF z k) (bN (z k))))∧w1.drew=w':=(CT (some ⟨g,o',none⟩) (bN (z k)) (c-aF z k) (fun j=>s (aF z k+j)) w1.drew ((hJ.o.below hn1.bl).drewN 1) qo (fun j hj=>by have:=HST.o j hj;omega)).mono fun _ _ h=>⟨h.1.trans (by rw[Bh];rfl),h.2⟩;have CA:=qh hq1;have pN:=qh hq2;have hs0:=HB1.o.size
   simp only[World.size_alloc]at hs0
   clear hq1 hq2;clear hn1 hcz
   go_wp2_with fail
   have s1:IntKind.i64.wrap (rT (z k) (s (aF z k))-bK s (aF z k) (bN (z k)))=MD s z k:=by
    have h1:=CH.o;have h2:=HSB.o;exact IntWalk.i64_in _ qo
   go_region_held3 (fun _=>True) (trivial) (first
    |(go_at_call_of 115 (Value.slice A1 (dU (z k)) c1);refine CA.o.mono ?_;rintro e w' ⟨rfl,rfl⟩)
    |(go_at_call_of 115 (Value.slice (some ⟨g,o',none⟩) (bN (z k)) (c-aF z k));refine pN.o.mono ?_;rintro e w' ⟨rfl,rfl⟩)
    |(refine Pd w1.drew rfl (.tmp 36) (.tmp 44) _ rfl (w.heap.size+1) 2 i0 _ 1 8 Tryz.underlying61 hi iz is ib rfl qo u6 k (ints ((List.range k).map (MD s z))) rfl DM.o _ 1 1 _ rfl rfl (by simp[Value.oneCell']) qm qo hs0 ?_;intro v' w' hown' hb'))
   have HOWN':=qh hown';have oC:=qh (HB1.o.drew.trans hb');clear hown' hb';clear s1
   by_cases hcap:c-aF z k=bN (z k)
   ·go_wp2
    go_roundw
    case rel=>exact⟨k+1,by omega,qg,⟨o',(by have:=HT2.o;first|exact⟨by omega,by omega⟩|exact⟨rfl,by omega,by omega⟩|exact FO qo qo),qh fun h=>by rw[HT2.o]at h;omega⟩,by rw[List.range_succ,List.map_append,List.map_cons,List.map_nil,aL];exact HOWN'.o,oC.o⟩
    case measure=>exact qs
   ·go_wp2
    go_roundw
    case rel=>exact⟨k+1,by omega,qg,⟨o'+bN (z k),(by have:=HT2.o;first|exact⟨by omega,by omega⟩|exact⟨rfl,by omega,by omega⟩|exact FO qo qo),qh fun h=>by rw[HT2.o]at h ⊢;have:=HO.o qo;omega⟩,by rw[List.range_succ,List.map_append,List.map_cons,List.map_nil,aL];exact HOWN'.o,oC.o⟩
    case measure=>exact qs
  ·obtain rfl:m=k:=qo
   have hs1:=HB.o.size
   simp only[World.size_alloc]at hs1
   obtain⟨A3,c3,rfl⟩:=aE HOWN.o;have jG:=qh (Ho HOWN.o)
   go_wp2_with fail
   refine(SC d cc A2 m c2 _ qo).mono ?_;rintro e w2 ⟨A4,c4,rfl,oF⟩;have jF:=qh oF;have aW:=qh (HB.o.trans (oF.bl.mono hs1));have GM:=qh (own_below HOWN.o oF.bl);clear oF hbx
   go_wp2_with fail
   go_loop [5,53] (fun sm i=>∃k:Nat,k≤m∧i=.int .i64 k∧sm=.int .i64 (iI s n z m d k)∧Hq (iT s n z m d k=true)) (fun _ i=>m-(intOf i).toNat)
   case atStart=>exact⟨0,Nat.zero_le _,rfl,rfl,qh rfl⟩
   case round=>
    obtain⟨k,hk,rfl,rfl,HK⟩:=hrel;have hkb:=BF d iS.o HT.o hk
    by_cases hlt:k<m
    ·have hol:=AE (d:=d) hlt
     have hcb:=PU iS.o HT.o hol;obtain⟨g4,o4,rfl,hg4,hr4⟩:=jF.o.rd qo;have hc4:=hr4 k hlt;obtain⟨g3,o3,e3,hg3,hr3⟩:=(Ho GM.o) qo;subst e3;have hc3:=hr3 (fC d m k) hol;have HS2:=qh (show iI s n z m d (k+1)=iI s n z m d k+MD s z (fC d m k)from rfl);clear hr4 hr3
     by_cases h12:12<iI s n z m d k+MD s z (fC d m k)
     ·go_wp2
      go_ret
      exact⟨eT (DY hlt (by rw[HS2.o];omega)).symm,HL.o.trans (aW.o.mono qo)⟩
     ·go_wp2
      go_round
      case rel=>exact⟨k+1,by omega,qg,jM HS2.o.symm,qh (by simp only[iT];rw[HK.o,HS2.o];simp;omega)⟩
      case measure=>exact qs
    ·obtain rfl:m=k:=qo
     go_wp2
     go_ret
     exact⟨eT HK.o.symm,HL.o.trans (aW.o.mono qo)⟩
theorem N9 (d cc:Int)(A2:OA)(m c2:Nat)(z:Nat→Int)(w:World)(hb:Rd w A2 m (fun j=>.int .i64 (z j)))(hm:m≤1048576):
 Calls Tryz.prog 91 #[.agg #[.int .i64 d,.int .i64 cc,.slice A2 m c2]] w fun e w'=>e=.returned (.bool (gQ d&&aJ cc 1 4&&cM z m))∧Below w.heap.size w w':=by
 have HC:=qh (pM A2 m c2 z _ (hb.below ((Below.refl w.heap.size w).alloc ql (.cells #[.int .i64 d,.int .i64 cc,.slice A2 m c2] 73))) hm);clear hb
 go_enter Tryz.func91,Tryz.ntmps91
 go_wp2_with (first|(go_at_call 95;refine(mK _ _).mono ?_;rintro e w' ⟨rfl,rfl⟩)|(go_at_call 97;refine(iU _ _).mono ?_;rintro e w' ⟨rfl,rfl⟩)|(go_at_call 146;refine HC.o.mono ?_;rintro e w' ⟨rfl,rfl⟩))
 all_goals go_ret
 all_goals exact⟨eT (by simp_all),qb⟩
def wD (d c:Nat→Int)(As:Nat→OA)(ns cs:Nat→Nat)(q:Nat):Value:=
 if q%3=0 then .int .i64 (d (q/3))else if q%3=1 then .int .i64 (c (q/3))else .slice (As (q/3)) (ns (q/3)) (cs (q/3))
theorem Gy (d c:Nat→Int)(As:Nat→OA)(ns cs:Nat→Nat)(k:Nat):wD d c As ns cs (k*3)=.int .i64 (d k):=by
 unfold wD;rw[if_pos qo,show k*3/3=k by omega]
theorem Gx (d c:Nat→Int)(As:Nat→OA)(ns cs:Nat→Nat)(k:Nat):wD d c As ns cs (k*3+1)=.int .i64 (c k):=by
 unfold wD;rw[if_neg qo,if_pos qo,show(k*3+1)/3=k by omega]
theorem VJ (d c:Nat→Int)(As:Nat→OA)(ns cs:Nat→Nat)(k:Nat):wD d c As ns cs (k*3+2)=.slice (As k) (ns k) (cs k):=by
 unfold wD;rw[if_neg qo,if_neg qo,show(k*3+2)/3=k by omega]
def eC (A:OA)(n:Nat)(d c:Nat→Int)(As:Nat→OA)(ns cs:Nat→Nat)(z:Nat→Nat→Int)(w:World):Prop:=
 Rd w A (n*3) (wD d c As ns cs)∧∀j,j<n→Rd w (As j) (ns j) (fun i=>.int .i64 (z j i))
def yF (A:OA)(n:Nat)(As:Nat→OA)(ns cs:Nat→Nat)(w:World):Prop:=
 Wr w A (n*3)∧(∀j,j<n→∃g o,A=some ⟨g,o,none⟩∧w.cell? ⟨g,o+(j*3+2),none⟩=some (.slice (As j) (ns j) (cs j)))∧(∀j,j<n→Wr w (As j) (ns j))∧(∀j b,j<n→Fb (As j) (ns j) b→¬Fb A (n*3) b)∧∀i j b,i<j→j<n→Fb (As i) (ns i) b→¬Fb (As j) (ns j) b
def GQ (A:OA)(n:Nat)(As:Nat→OA)(ns:Nat→Nat)(b:Nat):Prop:=Fb A (n*3) b∨∃j,j<n∧Fb (As j) (ns j) b
theorem cU (A:OA)(n:Nat)(d c:Nat→Int)(As:Nat→OA)(ns cs:Nat→Nat)(z:Nat→Nat→Int):Loc (eC A n d c As ns cs z) (GQ A n As ns):=by
 refine⟨fun w w' h hF=>⟨(aS _ _ _).1 w w' h.1 fun b hb=>hF b (.inl hb),fun j hj=>(aS _ _ _).1 w w' (h.2 j hj) fun b hb=>hF b (.inr ⟨j,hj,hb⟩)⟩,fun w b h hb=>?_⟩
 rcases hb with hb|⟨j,hj,hb⟩
 ·exact(aS _ _ _).2 w b h.1 hb
 ·exact(aS _ _ _).2 w b (h.2 j hj) hb
theorem Ai (A:OA)(n:Nat)(As:Nat→OA)(ns cs:Nat→Nat):Loc (yF A n As ns cs) (GQ A n As ns):=by
 refine⟨fun w w' h hF=>⟨(mF _ _).1 w w' h.1 fun b hb=>hF b (.inl hb),fun j hj=>?_,fun j hj=>(mF _ _).1 w w' (h.2.2.1 j hj) fun b hb=>hF b (.inr ⟨j,hj,hb⟩),h.2.2.2.1,h.2.2.2.2⟩,fun w b h hb=>?_⟩
 ·obtain⟨g,o,e,hc⟩:=h.2.1 j hj
  exact⟨g,o,e,(World.cell?_of_block (w:=w) (a:=⟨g,o+(j*3+2),none⟩) (hF g (.inl ⟨by omega,_,e,rfl⟩))).trans hc⟩
 ·rcases hb with hb|⟨j,hj,hb⟩
  ·exact(mF _ _).2 w b h.1 hb
  ·exact(mF _ _).2 w b (h.2.2.1 j hj) hb
theorem eC.row {A:Option Addr}{n:Nat}{d c:Nat→Int}{As:Nat→Option Addr}{ns cs:Nat→Nat}{z:Nat→Nat→Int}{w:World}(h:eC A n d c As ns cs z w){k:Nat}(hk:k<n):
 ∃g o,A=some ⟨g,o,none⟩∧g<w.heap.size∧w.cell? ⟨g,o+k*3,none⟩=some (.int .i64 (d k))∧w.cell? ⟨g,o+k*3+1,none⟩=some (.int .i64 (c k))∧w.cell? ⟨g,o+k*3+2,none⟩=some (.slice (As k) (ns k) (cs k)):=by
 obtain⟨g,o,e,hg,hr⟩:=h.1 qo;refine⟨g,o,e,hg,?_,?_,?_⟩
 ·exact(hr (k*3) qo).trans (by rw[Gy])
 ·rw[Nat.add_assoc];exact(hr (k*3+1) qo).trans (by rw[Gx])
 ·rw[Nat.add_assoc];exact(hr (k*3+2) qo).trans (by rw[VJ])
def QP {α:Type}(f:Nat→α)(k:Nat)(x:α)(j:Nat):α:=if j=k then x else f j
theorem zY {α:Type}(f:Nat→α)(k:Nat)(x:α):QP f k x k=x:=if_pos rfl
theorem wB {α:Type}(f:Nat→α){k j:Nat}(x:α)(h:j≠k):QP f k x j=f j:=if_neg h
structure AO (G n k:Nat)(d c:Nat→Int)(As:Nat→OA)(ns cs:Nat→Nat)(z:Nat→Nat→Int)(w:World):Prop where
 lt:G<w.heap.size
 rw_:eB w G 0 (n*3)
 rr:d7 w G 0 (k*3) (wD d c As ns cs)
 rd:∀j,j<k→Rd w (As j) (ns j) (fun i=>.int .i64 (z j i))
 wr:∀j,j<k→Wr w (As j) (ns j)
 ab:∀j b,j<k→Fb (As j) (ns j) b→G<b
 Y4:∀i j b,i<j→j<k→Fb (As i) (ns i) b→¬Fb (As j) (ns j) b
theorem d7.abO {w:World}{g o N:Nat}{f f':Nat→Value}(hr:d7 w g o N f)(h:∀j,j<N→f j=f' j):d7 w g o N f':=fun j hj=>(hr j hj).trans (by rw[h j hj])
theorem Bw {d c:Nat→Int}{As tI:Nat→Option Addr}{ns cs cs':Nat→Nat}{q k:Nat}(hq:q<k*3)(h:∀j,j<k→As j=tI j∧cs j=cs' j):wD d c As ns cs q=wD d c tI ns cs' q:=by
 unfold wD;have:=h (q/3) qo;rw[this.1,this.2]
theorem AO.next {G n k:Nat}{d c:Nat→Int}{As:Nat→Option Addr}{ns cs:Nat→Nat}{z:Nat→Nat→Int}{w w1:World}(h:AO G n k d c As ns cs z w)(hk:k<n){A1:Option Addr}{c1:Nat}(hn:New w w1 A1 (ns k) (fun i=>.int .i64 (z k i))):
 AO G n (k+1) d c (QP As k A1) ns (QP cs k c1) z (((w1.setCell ⟨G,k*3,none⟩ (.int .i64 (d k))).setCell ⟨G,k*3+1,none⟩ (.int .i64 (c k))).setCell ⟨G,k*3+2,none⟩ (.slice A1 (ns k) c1)):=by
 have hs:=hn.bl.size;have hrw:=h.rw_.below hn.bl;have hrr:=h.rr.below h.lt hn.bl;have hne:∀j b,j<k→Fb (As j) (ns j) b→b≠G:=fun j b hj hb e=>by have:=h.ab j b hj hb;omega
 have hA1:∀b,Fb A1 (ns k) b→w.heap.size≤b:=fun b ⟨_,a,e,hb⟩=>hb▸hn.ab a e;have hblk:∀b,b≠G→(((w1.setCell ⟨G,k*3,none⟩ (.int .i64 (d k))).setCell ⟨G,k*3+1,none⟩ (.int .i64 (c k))).setCell ⟨G,k*3+2,none⟩ (.slice A1 (ns k) c1)).heap[b]?=w1.heap[b]?:=fun b hb=>
  (Below.heap_setCell _ _ _ b hb).trans ((Below.heap_setCell _ _ _ b hb).trans (Below.heap_setCell _ _ _ b hb))
 have hr3:=((hrr.abO (f':=wD d c (QP As k A1) ns (QP cs k c1)) fun q hq=>Bw (k:=k) hq fun j hj=>⟨(wB _ _ qo).symm,(wB _ _ qo).symm⟩).step (a:=k*3) (u:=.int .i64 (d k)) hrw qo qo (by rw[Gy])).step (a:=k*3+1) (u:=.int .i64 (c k)) (hrw.set _ _) qo qo (by rw[Gx]);have hr4:=hr3.step (a:=k*3+2) (u:=.slice A1 (ns k) c1) ((hrw.set _ _).set _ _) qo qo (by rw[VJ,zY,zY]);refine⟨by simp[World.setCell];have:=h.lt;omega,((hrw.set _ _).set _ _).set _ _,d7.cast qo hr4,fun j hj=>?_,fun j hj=>?_,fun j b hj hb=>?_,fun i j b hij hj hb hb'=>?_⟩
 ·by_cases hjk:j=k
  ·subst hjk
   rw[zY];exact(aS _ _ _).1 w1 _ hn.rd fun b hb=>hblk b (by have:=hA1 b hb;have:=h.lt;omega)
  ·rw[wB _ _ hjk]
   exact(aS _ _ _).1 w1 _ ((h.rd j qo).below hn.bl) fun b hb=>hblk b (hne j b qo hb)
 ·by_cases hjk:j=k
  ·subst hjk
   rw[zY];exact(mF _ _).1 w1 _ hn.wr fun b hb=>hblk b (by have:=hA1 b hb;have:=h.lt;omega)
  ·rw[wB _ _ hjk]
   exact(mF _ _).1 w1 _ ((h.wr j qo).below hn.bl) fun b hb=>hblk b (hne j b qo hb)
 ·by_cases hjk:j=k
  ·subst hjk
   rw[zY]at hb;have:=hA1 b hb;have:=h.lt;omega
  ·rw[wB _ _ hjk]at hb
   exact h.ab j b qo hb
 ·rw[wB _ _ (show i≠k by omega)]at hb
  by_cases hjk:j=k
  ·subst hjk
   rw[zY]at hb';have:=hA1 b hb';have:=(aS _ _ _).2 w b (h.rd i qo) hb;omega
  ·rw[wB _ _ hjk]at hb'
   exact h.Y4 i j b hij qo hb hb'
theorem AO.new {n:Nat}{d c:Nat→Int}{As:Nat→Option Addr}{ns cs:Nat→Nat}{z:Nat→Nat→Int}{w w':World}(h:AO w.heap.size n n d c As ns cs z w')(hb:Below w.heap.size w w'):
 wV w w' (eC (some ⟨w.heap.size,0,none⟩) n d c As ns cs z) (yF (some ⟨w.heap.size,0,none⟩) n As ns cs) (GQ (some ⟨w.heap.size,0,none⟩) n As ns):=by
 refine⟨hb,fun b hF=>?_,⟨fun _=>⟨_,0,rfl,h.lt,h.rr⟩,h.rd⟩,⟨fun _=>⟨_,0,rfl,h.rw_⟩,fun j hj=>⟨_,0,rfl,(h.rr (j*3+2) qo).trans (by rw[VJ])⟩,h.wr,fun j b hj hb' ⟨_,a,e,hb2⟩=>?_,h.Y4⟩,cU _ _ _ _ _ _ _ _,Ai _ _ _ _ _⟩
 ·rcases hF with⟨_,a,e,hb'⟩|⟨j,hj,hb'⟩
  ·injection e with e;subst e;simp at hb';omega
  ·have:=h.ab j b hj hb';omega
 ·injection e with e
  subst e;have:=h.ab j b hj hb'
  simp at hb2
  omega
def iA (aA:Nat)(ns:Nat→Nat)(z:Nat→Nat→Int):Nat→List Int
 |0=>List.replicate aA 1
 |k+1=>gT (fun j=>(iA aA ns z k).getD j 0) (z k) (ns k)
def iV (aA:Nat)(ns:Nat→Nat)(z:Nat→Nat→Int)(k j:Nat):Int:=(iA aA ns z k).getD j 0
def i4 (aA:Nat)(ns:Nat→Nat)(z:Nat→Nat→Int):Nat→Nat
 |0=>aA
 |k+1=>bH (z k) (ns k)
def FP (aA:Nat)(d c:Nat→Int)(ns:Nat→Nat)(z:Nat→Nat→Int)(k:Nat):Bool:=
 gQ (d k)&&aJ (c k) 1 4&&cM (z k) (ns k)&&decide (jK (iV aA ns z k) (i4 aA ns z k) (z k) (ns k)=0)&&iT (iV aA ns z k) (i4 aA ns z k) (z k) (ns k) (d k) (ns k)
def kD (aA:Nat)(d c:Nat→Int)(ns:Nat→Nat)(z:Nat→Nat→Int):Nat→Bool
 |0=>true
 |k+1=>kD aA d c ns z k&&FP aA d c ns z k
theorem LP {aA:Nat}{d c:Nat→Int}{ns:Nat→Nat}{z:Nat→Nat→Int}{n k:Nat}(hk:k<n)(h:FP aA d c ns z k=false):kD aA d c ns z n=false:=by
 induction n with
 |zero=>omega
 |succ n ih=>
  simp only[kD]
  by_cases hkn:k=n
  ·subst hkn;rw[h];simp
  ·rw[ih qo];rfl
theorem xP {aA:Nat}{d c:Nat→Int}{ns:Nat→Nat}{z:Nat→Nat→Int}{n:Nat}(h:kD aA d c ns z n=true):∀k,k<n→FP aA d c ns z k=true:=by
 induction n with
 |zero=>intro k hk;omega
 |succ n ih=>
  simp only[kD,Bool.and_eq_true]at h
  intro k hk
  by_cases hkn:k=n
  ·subst hkn;exact h.2
  ·exact ih h.1 k qo
def dL (aA:Int)(n:Nat)(d c:Nat→Int)(ns:Nat→Nat)(z:Nat→Nat→Int):Bool:=aJ aA 1 8&&decide (1≤n∧n≤8)&&kD aA.toNat d c ns z n
theorem AZ {s:Nat→Int}{n:Nat}{z:Nat→Int}{m:Nat}(h:jK s n z m=0):fF s n=true∧cM z m=true∧aF z m=n∧bH z m≤8∧vB s z m=true:=by
 unfold jK at h
 by_cases h1:(fF s n&&cM z m)=true
 ·rw[if_pos h1]at h
  simp only[Bool.and_eq_true]at h1
  by_cases h2:aF z m=n
  ·rw[if_pos h2]at h
   by_cases h3:(vB s z m&&decide (bH z m≤8))=true
   ·simp only[Bool.and_eq_true,decide_eq_true_eq]at h3
    exact⟨h1.1,h1.2,h2,h3.2,h3.1⟩
   ·rw[if_neg h3]at h;cases h
  ·rw[if_neg h2]at h;cases h
 ·rw[if_neg h1]at h;cases h
theorem Pf {z:Nat→Int}{m:Nat}(hz:cM z m=true)(ht:0<aF z m):0<bH z m:=by
 have hk:=(fN hz).2
 cases m with
 |zero=>simp[aF]at ht
 |succ m=>
  have h0:=hk 0 qo;have h1:1≤dU (z 0):=by
   unfold dU
   repeat' split
   all_goals omega
  have h2:=CX z (show 1≤m+1 by omega);have h3:bH z 1=dU (z 0):=by simp[bH]
  omega
theorem AX {aA:Nat}{d c:Nat→Int}{ns:Nat→Nat}{z:Nat→Nat→Int}{k:Nat}(hc:1≤aA∧aA≤8)(h:kD aA d c ns z k=true):1≤i4 aA ns z k∧i4 aA ns z k≤8:=by
 induction k with
 |zero=>exact hc
 |succ k ih=>
  have h0:=h
  simp only[kD,Bool.and_eq_true]at h
  have h1:=ih h.1;have h2:=h.2
  simp only[FP,Bool.and_eq_true,decide_eq_true_eq]at h2
  obtain⟨_,hz,ht,hm,_⟩:=AZ h2.1.2;have:=Pf hz qo
  simp only[i4]
  omega
theorem MT {aA j:Nat}{ns:Nat→Nat}{z:Nat→Nat→Int}(h:j<aA):iV aA ns z 0 j=1:=by simp[iV,iA,List.getD,h]
theorem BI:(Tryz.prog.info? 61).map (fun i=>(i.zero,i.size,i.bytes))=some (some (.slice none 0 0),1,24):=by kernel_rfl
def sH (w:World)(v:Value)(N:Nat)(f:Nat→Int):Prop:=∃g o c,v=.slice (some ⟨g,o,none⟩) N c∧(N≤c∧c≤maxLen)∧Rd w (some ⟨g,o,none⟩) N (fun j=>.int .i64 (f j))
theorem sH.of {w w':World}{A:Option Addr}{N c:Nat}{f:Nat→Int}(hn:New w w' A N (fun j=>.int .i64 (f j)))(hN:0<N)(hc:N≤c∧c≤maxLen):sH w' (.slice A N c) N f:=by
 obtain⟨g,o,rfl,_⟩:=ou hn hN;exact⟨g,o,c,rfl,hc,hn.rd⟩
def adx (b:Bool)(w:World)(e:Ending)(w':World):Prop:=∃v,e=.returned (.tuple #[v,.bool b])∧Below w.heap.size w w'
theorem UV (aA:Int)(A:OA)(n q:Nat)(d c:Nat→Int)(As:Nat→OA)(ns cs:Nat→Nat)(z:Nat→Nat→Int)(w:World)(ha:eC A n d c As ns cs z w)(hn:n≤1048576)(hns:∀j,j<n→ns j≤1048576):
 Calls Tryz.prog 57 #[.agg #[.int .i64 aA,.slice A n q]] w (adx (dL aA n d c ns z) w):=by
 obtain⟨i0,hi,iz,is,ib⟩:=info_parts BI;have jY:=qh hns;have HL:=qh ((Below.refl w.heap.size w).alloc ql (.cells #[.int .i64 aA,.slice A n q] 32));have HX:=qh (kN w #[.int .i64 aA,.slice A n q] 32);have HA:=qh ((cU A n d c As ns cs z).below ha HL.o);have LA:=qh (cU A n d c As ns cs z);clear ha hns
 cases hcb:aJ aA 1 8
 ·have HC:=qh (show dL aA n d c ns z=false by simp[dL,hcb])
  go_enter Tryz.func57,Tryz.ntmps57
  go_wp2_with ((go_at_call 58;refine(bX _ _ _ _).mono ?_;rintro e w' ⟨rfl,rfl⟩))
  go_ret2
  exact⟨.slice none 0 0,by rw[HC.o];rfl,HL.o⟩
 have hc18:=mN hcb
 by_cases NL:1≤n∧n≤8
 case neg=>
  have HC:=qh (show dL aA n d c ns z=false by simp[dL,NL]);have FD:=qh hcb;clear hcb;have hn1:n<1∨8<n:=qo;clear NL
  rcases hn1 with hn1|hn1
  all_goals
   go_enter Tryz.func57,Tryz.ntmps57
   go_wp2_with ((go_at_call 58;refine(bX _ _ _ _).mono ?_;rintro e w' ⟨rfl,rfl⟩;rw[FD.o]))
   go_ret2
   exact⟨.slice none 0 0,by rw[HC.o];rfl,HL.o⟩
 obtain⟨hn1,BK⟩:=NL;obtain⟨C,rfl⟩:=Int.eq_ofNat_of_zero_le (show 0≤aA by omega);have hC:dL C n d c ns z=kD C d c ns z n:=by simp[dL,hcb,hn1,BK]
 have HC:=qh hC;have FD:=qh hcb;have Kj:1≤C∧C≤8:=qo;clear hC hcb
 go_enter Tryz.func57,Tryz.ntmps57
 go_wp2_with ((go_at_call 58;refine(bX _ _ _ _).mono ?_;rintro e w' ⟨rfl,rfl⟩;rw[FD.o]))
 refine(B5 (w.heap.size+1) 1 C _ (cV qj 0) qo qo).mono ?_;rintro e w1 ⟨A1,c1,rfl,hc1,hn1⟩;have hb1:Below (w.heap.size+1) (w.alloc (.cells #[.int .i64 C,.slice A n q] 32)) w1:=Below.trans ((Below.refl _ _).alloc qj _) (hn1.bl.mono qj);have HB1:=qh hb1;have hs1:=hb1.size
 simp only[World.size_alloc]at hs1
 have jR:=qh (sH.of hn1 qo hc1);have hbx:∀o,w1.cell? ⟨w.heap.size,o,none⟩=(#[.int .i64 C,.slice A n q]:Array Value)[o]?:=fun o=>((aC hb1).1 _ o qo).trans (HX.o o);have hlt1:w.heap.size<w1.heap.size:=qo;have iD:=qh hn1.bb;clear hn1 hb1
 go_wp2_with fail
 clear hbx
 go_loopw [4,5,34] (fun sv v i wr=>∃k:Nat,k≤n∧i=.int .i64 k∧Hq (kD C d c ns z k=true)∧sH wr sv (i4 C ns z k) (iV C ns z k)∧(∃xs,wr.ownsRow (w.heap.size+1) 61 1 v k xs)∧Hq (∀b A' N' c',sv=.slice (some ⟨A',N',none⟩) b c'→¬v.ownBlock=some A')∧Below (w.heap.size+1) (w.alloc (.cells #[.int .i64 C,.slice A n q] 32)) wr) (fun _ _ i _=>n-(intOf i).toNat)
 case atStart=>
  obtain⟨g,o,c',e,hc',hr⟩:=jR.o;refine⟨0,Nat.zero_le _,rfl,qh rfl,⟨g,o,c',e,hc',(hr.below (qb)).congr fun j hj=>by rw[MT hj]⟩,⟨[],World.ownsRow_made w1 #[] (base:=w.heap.size+1) (e:=61) (size:=1) 0 hs1 qm rfl⟩,qh ?_,HB1.o.alloc hs1 _⟩;intro b A' N' c' e2 e3;injection e2 with e2;have h1:=iD.o _ e2;injection e3 with e3
  simp only at e3 h1
  omega
 case round=>
  obtain⟨k,hk,rfl,TL,hst,⟨xs,hown⟩,lO,hbl⟩:=hrel;have BN:Below (w.alloc (.cells #[.int .i64 C,.slice A n q] 32)).heap.size (w.alloc (.cells #[.int .i64 C,.slice A n q] 32)) wr:=by simpa using hbl
  have hs0:=hbl.size
  simp only[World.size_alloc]at hs0
  have HB:=qh hbl;have HB2:=qh BN;have HOWN:=qh hown;clear hbl BN hown
  by_cases hlt:k<n
  ·have hrr:=LA.out.below HA.o HB2.o
   obtain⟨gA,oA,rfl,hgA,r0,r1,r2⟩:=eC.row hrr hlt;have HZ:=qh (hrr.2 k hlt);have hnk:=jY.o k hlt;obtain⟨g,o,c',rfl,hc',hst⟩:=hst;have HST:=qh hst;have hSN:=AX Kj TL.o;have ZK:=qh (fun h=>HC.o.trans (LP hlt h));clear hrr hst;obtain⟨dk,hdk⟩:=qx (d k);obtain⟨ck,hck⟩:=qx (c k);rw[←hdk]at r0;rw[←hck]at r1;obtain⟨V,hV⟩:∃V,V=(gQ dk&&aJ ck 1 4&&cM (z k) (ns k)):=⟨_,rfl⟩;have P5:FP C d c ns z k=(V&&decide (jK (iV C ns z k) (i4 C ns z k) (z k) (ns k)=0)&&iT (iV C ns z k) (i4 C ns z k) (z k) (ns k) dk (ns k)):=by rw[hV,hdk,hck];rfl
   have HV:=qh hV;have GL:=qh P5;clear hV P5 hdk hck;have hgw:=World.block_lt_of_cell? wr _ r0
   simp only at hgw
   go_wp2_with fail
   refine(N9 dk ck (As k) (ns k) (cs k) (z k) _ (HZ.o.below (qb)) hnk).mono ?_;rintro e w2 ⟨rfl,hb2⟩;rw[←HV.o];have x2:=fun o=>((aC hb2).1 wr.heap.size o qj).trans (cV rfl o);have y2:wr.heap.size<w2.heap.size:=blt hb2 qj;have HW2:=qh (((Below.refl wr.heap.size wr).alloc ql _).trans (hb2.mono qj));clear hb2 r0 r1 r2
   cases V
   ·have HF:=qh (ZK.o (by rw[GL.o];rfl))
    go_wp2
    go_ret2
    exact⟨.slice none 0 0,by rw[HF.o];rfl,(HL.o.trans (HB2.o.mono qj)).trans (HW2.o.mono qo)⟩
   go_wp2_with fail
   refine(vW g o (i4 C ns z k) c' (As k) (ns k) (cs k) (iV C ns z k) (z k) _ (HST.o.below HW2.o) (HZ.o.below HW2.o) qo hnk hc'.1 hc'.2).mono ?_;rintro e w3 ⟨A3,c3,rfl,hc3,sX⟩;have x3:=fun o=>((aC sX.bl).1 wr.heap.size o y2).trans (x2 o);have y3:wr.heap.size<w3.heap.size:=blt sX.bl y2;have jG:=qh (sX.under HW2.o);have FG:=qh (sX.ab.mono (show wr.heap.size≤w2.heap.size by omega));clear sX x2
   by_cases hcode:jK (iV C ns z k) (i4 C ns z k) (z k) (ns k)=0
   case neg=>
    have HF:=qh (ZK.o (by rw[GL.o,decide_eq_false hcode];simp));have hcb:(jK (iV C ns z k) (i4 C ns z k) (z k) (ns k)!=0)=true:=by simpa using hcode
    go_wp2
    go_ret2
    exact⟨.slice none 0 0,by rw[HF.o];rfl,(HL.o.trans (HB2.o.mono qj)).trans (jG.o.bl.mono qo)⟩
   obtain⟨hss,hzz,Jo,hmm,_⟩:=AZ hcode;have FC:=qh hcode;have hcb:(jK (iV C ns z k) (i4 C ns z k) (z k) (ns k)!=0)=false:=by simpa using hcode
   have DK:=qh hss;have HZZ:=qh hzz;have yJ:=qh Jo;clear hcode hss hzz Jo
   go_wp2_with fail
   refine(RK dk ck (As k) (ns k) (cs k) g o (i4 C ns z k) c' (iV C ns z k) (z k) _ (HST.o.below jG.o.bl) (HZ.o.below jG.o.bl) hc'.1 hc'.2 DK.o HZZ.o yJ.o).mono ?_;rintro e w4 ⟨rfl,hb4⟩;have jF:=qh (jG.o.then hb4);have GM:=qh (own_below HOWN.o jF.o.bl);clear hb4 x3;have GZ:pS (iV C ns z k) (i4 C ns z k) (z k) (ns k)=i4 C ns z (k+1):=by rw[pS,if_pos FC.o];rfl
   cases hkb:iT (iV C ns z k) (i4 C ns z k) (z k) (ns k) dk (ns k)
   ·have HF:=qh (ZK.o (by rw[GL.o,hkb];simp))
    go_wp2
    go_ret2
    exact⟨.slice none 0 0,by rw[HF.o];rfl,(HL.o.trans (HB2.o.mono qj)).trans (jF.o.bl.mono qo)⟩
   have Z2:=qh (show kD C d c ns z (k+1)=true by simp only[kD];rw[TL.o,GL.o,FC.o,hkb];rfl);have Rj:=AX Kj Z2.o;have HKB:=qh hkb;have tA:=qh GZ;have hs4:=jF.o.bl.size;have aW:=qh (HB.o.trans (jF.o.bl.mono hs0));clear hkb GZ
   go_wp2_with (at_builtin;go_must (refine d5 w4 rfl (.tmp 57) (.tmp 59) _ rfl (w.heap.size+1) 61 i0 _ 1 24 Tryz.underlying89 hi iz is ib rfl qo u5 k xs rfl GM.o _ 1 1 _ rfl rfl (by simp[Value.oneCell']) qm qo qo ?_);intro v' w' hown' hf' hat';have HOWN':=qh hown';have eR:=qh hf';have jB:=qh hat';clear hown' hf' hat')
   go_roundw
   case rel=>
    have X5:∀b,u5.ownBlock=some b→b<wr.heap.size:=fun b hb=>(HOWN.o.lt b hb).2;have Kk:∀b,Fb A3 (pS (iV C ns z k) (i4 C ns z k) (z k) (ns k)) b→wr.heap.size≤b∧b<w4.heap.size:=fun b ⟨_,a,e,hb⟩=>⟨hb▸jF.o.ab a e,hb▸jF.o.bb a e⟩;refine⟨k+1,by omega,qg,Z2,?_,⟨_,HOWN'.o⟩,qh ?_,(HB.o.trans (jF.o.bl.mono hs0)).trans (eR.o.own GM.o qo)⟩
    ·have hrd:=(aS _ _ _).fr jF.o.rd eR.o (fun b hb he=>by have:=Kk b hb;have:=X5 b he;omega)
     rw[tA.o]at hrd hc3 ⊢;obtain⟨g3,o3,e3,_⟩:=hrd qo;subst e3;exact⟨g3,o3,c3,rfl,hc3,hrd⟩
    ·intro b A' N' c'' e2 e3
     injection e2 with e2;have h1:=Kk A' ⟨by rw[tA.o];omega,_,e2,rfl⟩
     rcases jB.o with h2|h2
     ·have:=X5 A' (h2.symm.trans e3)
      omega
     ·rw[h2]at e3
      injection e3 with e3;omega
   case measure=>exact qs
  ·obtain rfl:n=k:=qo
   go_wp2
   go_ret2
   exact⟨u5,by rw[HC.o,TL.o];rfl,HL.o.trans (HB2.o.mono qj)⟩
theorem JG (aA:Int)(A:OA)(n q:Nat)(d c:Nat→Int)(As:Nat→OA)(ns cs:Nat→Nat)(z:Nat→Nat→Int)(w:World)(ha:eC A n d c As ns cs z w)(hn:n≤1048576)(hns:∀j,j<n→ns j≤1048576):
 Calls Tryz.prog 35 #[.agg #[.int .i64 aA,.slice A n q]] w fun e w'=>e=.returned (.bool (dL aA n d c ns z))∧Below w.heap.size w w':=by
 have hL:=(Below.refl w.heap.size w).alloc ql (.cells #[.int .i64 aA,.slice A n q] 32);have HC:=qh (UV aA A n q d c As ns cs z _ ((cU A n d c As ns cs z).below ha hL) hn hns);have HL:=qh hL;clear ha hL hns
 go_enter Tryz.func35,Tryz.ntmps35
 go_wp2_with fail
 refine HC.o.mono ?_;rintro e w2 ⟨v,rfl,hb2⟩;have HB:=qh (HL.o.trans (hb2.mono qj));clear hb2
 go_wp2
 go_ret
 exact⟨rfl,HB.o⟩
def aQ:List Int→Int
 |[]=>0
 |x::l=>x+aQ l
theorem mU (a b:List Int):aQ (a++b)=aQ a+aQ b:=by
 induction a with
 |nil=>simp[aQ]
 |cons x a ih=>simp[aQ,ih];omega
theorem LL {l:List Int}{b:Int}(h:∀x∈l,0≤x∧x≤b):0≤aQ l∧aQ l≤b*l.length:=by
 induction l with
 |nil=>simp[aQ]
 |cons x l ih=>
  have h1:=ih fun y hy=>h y (List.mem_cons_of_mem _ hy);have h2:=h x List.mem_cons_self
  simp only[aQ,List.length_cons]
  rw[show b*((l.length+1:Nat):Int)=b*l.length+b by rw[Int.natCast_add,Int.mul_add];simp];omega
def bC (C:Nat→List Int):Nat→Int
 |0=>0
 |i+1=>bC C i+aQ (C i)
theorem GF {C D:Nat→List Int}{i:Nat}(h:∀j,j<i→C j=D j):bC C i=bC D i:=by
 induction i with
 |zero=>rfl
 |succ i ih=>simp only[bC];rw[ih fun j hj=>h j qo,h i qo]
theorem Sz {C D:Nat→List Int}{q k:Nat}(hk:k<q)(h:∀j,j<q→j≠k→D j=C j):bC D q=bC C q+aQ (D k)-aQ (C k):=by
 induction q with
 |zero=>omega
 |succ q ih=>
  simp only[bC]
  by_cases hkq:k=q
  ·subst hkq
   rw[GF (C:=D) (D:=C) fun j hj=>h j qo qo];omega
  ·rw[ih qo fun j hj hn=>h j qo hn,h q qo qo]
   omega
theorem MF {C:Nat→List Int}{q:Nat}{b:Int}(h:∀i,i<q→0≤aQ (C i)∧aQ (C i)≤b):0≤bC C q∧bC C q≤b*q:=by
 induction q with
 |zero=>simp[bC]
 |succ q ih=>
  have h1:=ih fun i hi=>h i qo;have h2:=h q qo
  simp only[bC]
  rw[show b*((q+1:Nat):Int)=b*q+b by rw[Int.natCast_add,Int.mul_add];simp];omega
def eX (C:Nat→List Int):Nat→List Int
 |0=>[]
 |i+1=>eX C i++C i
theorem Oz (C:Nat→List Int)(i:Nat):aQ (eX C i)=bC C i:=by
 induction i with
 |zero=>rfl
 |succ i ih=>simp only[eX,bC,mU,ih]
def gH (k p n b c d:Int):List Int:=[k,p,n,b,c,d]
def D2 (p:Int)(t:Nat):Nat→List Int
 |0=>[]
 |a+1=>(p+t+a)::D2 p t a
def bY (p:Int)(a:Nat):Nat→List Int
 |0=>[]
 |t+1=>bY p a t++D2 p t a
theorem Cc (p:Int)(t a:Nat):(D2 p t a).length=a:=by
 induction a with
 |zero=>rfl
 |succ a ih=>simp[D2,ih]
theorem qS (p:Int)(a t:Nat):(bY p a t).length=t*a:=by
 induction t with
 |zero=>simp[bY]
 |succ t ih=>simp[bY,ih,Cc,Nat.succ_mul]
theorem Ce {p:Int}{t a:Nat}:∀x∈D2 p t a,p≤x∧x<p+t+a:=by
 induction a with
 |zero=>intro x hx;cases hx
 |succ a ih=>
  intro x hx
  rcases List.mem_cons.1 hx with rfl|hx
  ·omega
  ·have:=ih x hx
   omega
theorem FQ {p:Int}{a t:Nat}:∀x∈bY p a t,p≤x∧x<p+t+a:=by
 induction t with
 |zero=>intro x hx;cases hx
 |succ t ih=>
  intro x hx
  rcases List.mem_append.1 hx with hx|hx
  ·have:=ih x hx
   omega
  ·have:=Ce x hx
   omega
def gV (s:Int)(l:List Int):List Int:=l.map fun x=>s*(x+1)
def bL (s:Int):List Int→List Int
 |[]=>[]
 |x::l=>gH 1 x s 0 0 0++bL s l
theorem GA (s:Int)(l m:List Int):bL s (l++m)=bL s l++bL s m:=by
 induction l with
 |nil=>rfl
 |cons x l ih=>simp[bL,ih]
theorem yW (s:Int)(l:List Int):(bL s l).length=6*l.length:=by
 induction l with
 |nil=>rfl
 |cons x l ih=>simp[bL,gH,ih];omega
def jI (k:Int):Int:=if k=8∨k=10 then 1 else if k=9∨k=11∨k=5 then-1 else 0
theorem bf (k:Int):jI k=0∨jI k=1∨jI k= -1:=by
 unfold jI
 split
 ·exact .inr (.inl rfl)
 ·split
  ·exact .inr (.inr rfl)
  ·exact .inl rfl
def jD (k:Int)(L:List Int):List Int:=if jI k=0 then L else L.drop (L.length/2)++L.take (L.length/2)
def lB (p k:Int)(L:List Int):List Int:=if jI k=0 then []else bL (jI k) (bY p (aQ (L.take (L.length/2))).toNat (aQ (L.drop (L.length/2))).toNat)
theorem G9 (k:Int)(L:List Int):(jD k L).length=L.length:=by
 unfold jD
 split
 ·rfl
 ·simp;omega
theorem xg (k:Int)(L:List Int):aQ (jD k L)=aQ L:=by
 unfold jD
 split
 ·rfl
 ·rw[mU]
  conv=>rhs;rw[←List.take_append_drop (L.length/2) L,mU]
  omega
theorem xk {k:Int}{L:List Int}{x:Int}(h:x∈jD k L):x∈L:=by
 unfold jD at h
 split at h
 ·exact h
 ·rcases List.mem_append.1 h with h|h
  ·exact List.mem_of_mem_drop h
  ·exact List.mem_of_mem_take h
def nQ (d:Int)(n t:Nat):Nat:=if d= -1 then n-1-t else t
def fT (p gI c d:Int)(L:List Int):Nat→List Int×List Int
 |0=>([],L)
 |t+1=>((fT p gI c d L t).1++gH 2 (p+aQ ((fT p gI c d L t).2.take (nQ d L.length t))) ((fT p gI c d L t).2.getD (nQ d L.length t) 0) gI c d,
  (fT p gI c d L t).2.set (nQ d L.length t) 1)
theorem oO (p gI c d:Int)(L:List Int)(t:Nat):(fT p gI c d L t).2.length=L.length∧(fT p gI c d L t).1.length=6*t:=by
 induction t with
 |zero=>exact⟨rfl,rfl⟩
 |succ t ih=>
  refine⟨?_,?_⟩
  ·simp[fT,ih.1]
  ·simp[fT,gH,ih.2];omega
theorem Yw (p gI c d:Int)(L:List Int){t:Nat}(ht:t≤L.length)(j:Nat)(hj:j<t):(fT p gI c d L t).2[nQ d L.length j]?=some 1:=by
 induction t with
 |zero=>omega
 |succ t ih=>
  have hl:=(oO p gI c d L t).1;have hn:nQ d L.length j<L.length:=by unfold nQ;split<;>omega
  simp only[fT,List.getElem?_set]
  by_cases h:nQ d L.length t=nQ d L.length j
  ·rw[if_pos h,if_pos qo]
  ·rw[if_neg h]
   have hjt:j≠t:=fun e=>h (by rw[e]);exact ih qo qo
theorem RJ (p gI c d:Int)(L:List Int):(fT p gI c d L L.length).2=List.replicate L.length 1:=by
 apply List.ext_getElem?
 intro i
 by_cases hi:i<L.length
 ·have h:=Yw p gI c d L ql (nQ d L.length i) (by unfold nQ;split<;>omega)
  have h2:nQ d L.length (nQ d L.length i)=i:=by unfold nQ;split<;>omega
  rw[h2]at h;rw[h]
  simp[hi]
 ·rw[List.getElem?_eq_none (by rw[(oO p gI c d L _).1];omega),List.getElem?_eq_none (by simp;omega)]
theorem Yv {p gI c d:Int}{L:List Int}{b:Int}(hb:1≤b)(h:∀x∈L,0≤x∧x≤b)(t:Nat):∀x∈(fT p gI c d L t).2,0≤x∧x≤b:=by
 induction t with
 |zero=>exact h
 |succ t ih=>
  intro x hx
  rcases List.mem_or_eq_of_mem_set hx with hx|rfl
  ·exact ih x hx
  ·omega
def iE (k:Int)(L:List Int):List Int:=if k=3∨k=4∨k=5 then [1]else if k=6 then L.set 0 (L.getD 0 0+1)else if k=7 then L else List.replicate L.length 1
def nA (p c d k:Int)(L:List Int):List Int:=
 if k=3 then gH 3 p 0 1 c d else if k=6 then gH 3 (p+L.getD 0 0) 0 1 c d else if k=7 then []else if k=4∨k=5 then gH 2 p (aQ L) 1 c d
 else(fT p (if k=2 then 2 else 1) c d L L.length).1
theorem Kq {k:Int}{L:List Int}(hk:1≤k∧k≤11)(hl:L.length=bN k):iE k L=eS k (L.getD 0 0):=by
 rcases BE hk with rfl|rfl|rfl|rfl|rfl|rfl|rfl|rfl|rfl|rfl|rfl
 all_goals first
  |(simp only[iE,eS,hl];rfl)
  |(
   match L,hl with
   |[x],_=>rfl)
theorem Br {p c d k:Int}{L:List Int}:(nA p c d k L).length≤6*(L.length+1)∧(nA p c d k L).length%6=0:=by
 unfold nA
 repeat' split
 all_goals first
  |(simp[gH];omega)
  |(rw[(oO _ _ _ _ _ _).2];omega)
  |simp[gH]
section
variable (s z:Nat→Int)
def seg (i:Nat):List Int:=(List.range (bN (z i))).map fun t=>s (aF z i+t)
theorem seg_length (i:Nat):(seg s z i).length=bN (z i):=by simp[seg]
def fY (i:Nat):List Int:=jD (z i) (seg s z i)
def yD:Nat→List Int
 |0=>[]
 |i+1=>yD i++lB (bC (seg s z) i) (z i) (seg s z i)
def DG (d:Int)(m t i:Nat):Bool:=if d= -1 then decide (m≤i+t)else decide (i<t)
def dW (d:Int)(m t i:Nat):List Int:=if DG d m t i=true then iE (z i) (fY s z i)else fY s z i
def tO (c d:Int)(m:Nat):Nat→List Int
 |0=>yD s z m
 |t+1=>tO c d m t++nA (bC (dW s z d m t) (fC d m t)) c d (z (fC d m t)) (fY s z (fC d m t))
end
section
variable {s z:Nat→Int}{d:Int}{m t:Nat}
theorem NU (i:Nat):aQ (fY s z i)=aQ (seg s z i):=xg _ _
theorem xJ (i:Nat):(fY s z i).length=bN (z i):=by rw[fY,G9,seg_length]
theorem Mi (i:Nat):bC (fY s z) i=bC (seg s z) i:=by
 induction i with
 |zero=>rfl
 |succ i ih=>simp only[bC,ih,NU]
theorem K3 (i:Nat)(hi:i<m):dW s z d m 0 i=fY s z i:=by
 unfold dW DG;rw[if_neg]
 split<;>simp<;>omega
theorem RR (ht:t<m):dW s z d m t (fC d m t)=fY s z (fC d m t):=by
 unfold dW DG fC;rw[if_neg]
 split<;>simp<;>omega
theorem DH (ht:t<m)(i:Nat)(hi:i<m):dW s z d m (t+1) i=if i=fC d m t then iE (z i) (fY s z i)else dW s z d m t i:=by
 by_cases h:i=fC d m t
 ·rw[if_pos h]
  unfold dW DG;rw[if_pos];unfold fC at h
  split
  ·rename_i hd
   rw[if_pos hd]at h
   simp
   omega
  ·rename_i hd
   rw[if_neg hd]at h
   simp
   omega
 ·rw[if_neg h]
  unfold dW;have:DG d m (t+1) i=DG d m t i:=by
   unfold DG fC at*
   split
   ·rename_i hd
    rw[if_pos hd]at h
    by_cases h1:m≤i+t
    ·rw[decide_eq_true h1,decide_eq_true qo]
    ·rw[decide_eq_false h1,decide_eq_false qo]
   ·rename_i hd
    rw[if_neg hd]at h
    by_cases h1:i<t
    ·rw[decide_eq_true h1,decide_eq_true qo]
    ·rw[decide_eq_false h1,decide_eq_false qo]
  rw[this]
theorem Lx (i:Nat)(hi:i<m):dW s z d m m i=iE (z i) (fY s z i):=by
 unfold dW DG;rw[if_pos]
 split<;>simp<;>omega
theorem ng (i:Nat):aQ (seg s z i)=bK s (aF z i) (bN (z i)):=by
 unfold seg;generalize bN (z i)=n
 induction n with
 |zero=>rfl
 |succ n ih=>rw[List.range_succ,List.map_append,mU,ih];simp[aQ,bK]
theorem Ta (i:Nat):bC (seg s z) i=bK s 0 (aF z i):=by
 induction i with
 |zero=>rfl
 |succ i ih=>simp only[bC,aF];rw[Pb,ih,ng,Nat.zero_add]
theorem XY (hz:∀j,j<m→1≤z j∧z j≤11){i:Nat}(hi:i<m):iE (z i) (fY s z i)=eS (z i) (s (aF z i)):=by
 rw[Kq (hz i hi) (xJ i)];unfold eS
 by_cases h6:z i=6
 ·rw[if_pos h6,if_pos h6]
  simp[fY,jD,jI,seg,h6,bN]
 ·rw[if_neg h6,if_neg h6]
  by_cases h7:z i=7
  ·rw[if_pos h7,if_pos h7]
   simp[fY,jD,jI,seg,h7,bN]
  ·rw[if_neg h7,if_neg h7]
theorem YB (hz:∀j,j<m→1≤z j∧z j≤11){i:Nat}(hi:i≤m):eX (dW s z d m m) i=gT s z i:=by
 induction i with
 |zero=>rfl
 |succ i ih=>simp only[eX,gT];rw[ih qo,Lx i qo,XY hz qo]
theorem Gl (k t:Int)(hk:1≤k∧k≤11):aQ (eS k t)=rT k t:=by
 have h:∀(l:List Int) (n:Nat),n=l.length→aQ l=bK (fun j=>l.getD j 0) 0 n:=by
  intro l n hn;subst hn;have:∀n,n≤l.length→aQ (l.take n)=bK (fun j=>l.getD j 0) 0 n:=by
   intro n hn
   induction n with
   |zero=>simp[aQ,bK]
   |succ n ih=>
    rw[List.take_succ_eq_append_getElem (show n<l.length by omega),mU,ih qo]
    simp[aQ,bK,List.getD,List.getElem?_eq_getElem (show n<l.length by omega)]
  have h2:=this l.length ql;rwa[List.take_length]at h2
 exact h _ _ (pY t hk).symm
theorem TG {n:Nat}(hz:∀j,j<m→1≤z j∧z j≤11)(hT:aF z m=n)(ht:t≤m):bC (dW s z d m t) m=iI s n z m d t:=by
 induction t with
 |zero=>
  rw[GF (D:=fY s z) fun j hj=>K3 j hj,Mi,Ta,hT]
  rfl
 |succ t ih=>
  have ho:fC d m t<m:=AE qo;rw[Sz ho (C:=dW s z d m t) fun j hj hn=>by rw[DH qo j hj,if_neg hn],ih qo,DH qo _ ho,if_pos rfl,RR qo,XY hz ho,Gl _ _ (hz _ ho),NU,ng]
  simp only[iI,MD]
  omega
theorem WP {n k:Nat}(h:iT s n z m d k=true)(ht:0<t)(htk:t≤k):iI s n z m d t≤12:=by
 induction k with
 |zero=>omega
 |succ k ih=>
  simp only[iT,Bool.and_eq_true,decide_eq_true_eq]at h
  by_cases afv:t=k+1
  ·rw[afv];exact h.2
  ·exact ih h.1 qo
end
def Ej (carrier:Int)(j:Nat):Int:=if j%6=0 then 2 else if j%6=1 then(j/6:Nat)else if j%6=2 then 0 else if j%6=3 then 1 else if j%6=4 then carrier else 1
def qC (carrier:Int)(k:Nat):List Value:=(List.range (k*6)).map fun j=>.int .i64 (Ej carrier j)
theorem ES (carrier:Int)(k:Nat):qC carrier (k+1)=qC carrier k++[.int .i64 2,.int .i64 k,.int .i64 0,.int .i64 1,.int .i64 carrier,.int .i64 1]:=by
 unfold qC;rw[show(k+1)*6=k*6+6 by omega]
 simp only[List.range_add,List.map_append,List.map_map]
 congr 1
 have h:∀i,(k*6+i)%6=i%6:=fun i=>by omega
 simp[List.range_succ,Ej]
 omega
theorem dQ:(Tryz.prog.info? 116).map (fun i=>(i.zero,i.size,i.bytes))=some (some (.agg #[.int .i64 0,.int .i64 0,.int .i64 0,.int .i64 0,.int .i64 0,.int .i64 0]),6,48):=by kernel_rfl
theorem zP13x5 {p:Prop}(h:p:=by
 refine⟨ho.1,?_⟩
 rcases ho.2 with hn|⟨g,cap,cur,rfl,hb,hgg,rest⟩
 ·exact .inl hn
 ·exact .inr ⟨g,cap,cur,rfl,hb,(h g rfl).trans hgg,rest⟩):p:=h
theorem eE {B:Nat}{w w':World}{e:TypeId}{size n:Nat}{v:Value}{xs:List Value}(ho:w.ownsRow B e size v n xs)(h:∀b,v.ownBlock=some b→w'.heap[b]?=w.heap[b]?):w'.ownsRow B e size v n xs:=by
 exact zP13x5
abbrev dN (w:World)(A:OA)(L:List Int):Prop:=Rd w A L.length (fun j=>.int .i64 (L.getD j 0))
structure fS (B:Nat)(v:Value)(Ls:List (List Int))(As:Nat→OA)(cs:Nat→Nat)(w:World):Prop where
 own:w.ownsRow B 61 1 v Ls.length ((List.range Ls.length).map fun j=>.slice (As j) (Ls.getD j []).length (cs j))
 rd:∀j,j<Ls.length→dN w (As j) (Ls.getD j [])
 far:∀j,j<Ls.length→∀b,Fb (As j) (Ls.getD j []).length b→¬v.ownBlock=some b
section
variable {B:Nat}{v:Value}{Ls:List (List Int)}{As:Nat→Option Addr}{cs:Nat→Nat}{w w':World}
theorem fS.lt (h:fS B v Ls As cs w){j:Nat}(hj:j<Ls.length){b:Nat}(hb:Fb (As j) (Ls.getD j []).length b):b<w.heap.size:=(aS _ _ _).2 w b (h.rd j hj) hb
theorem fS.keep (h:fS B v Ls As cs w)(hk:∀b,(v.ownBlock=some b∨∃j,j<Ls.length∧Fb (As j) (Ls.getD j []).length b)→w'.heap[b]?=w.heap[b]?):fS B v Ls As cs w':=
 ⟨eE h.own fun b hb=>hk b (.inl hb),fun j hj=>(aS _ _ _).1 _ _ (h.rd j hj) fun b hb=>hk b (.inr ⟨j,hj,hb⟩),h.far⟩
theorem fS.below (h:fS B v Ls As cs w)(hb:Below w.heap.size w w'):fS B v Ls As cs w':=h.keep fun b hx=>hb.block b (by
 rcases hx with hx|⟨j,hj,hx⟩
 ·exact(h.own.lt b hx).2
 ·exact h.lt hj hx)
theorem fS.drewN (h:fS B v Ls As cs w)(k:Nat):fS B v Ls As cs (w.drewN k):=h.keep fun _ _=>rfl
theorem fS.nil {v:Value}(ho:w.ownsRow B 61 1 v 0 [])(As:Nat→OA)(cs:Nat→Nat):fS B v [] As cs w:=⟨ho,fun j hj=>absurd hj (Nat.not_lt_zero j),fun j hj=>absurd hj (Nat.not_lt_zero j)⟩
theorem fS.form (h:fS B v Ls As cs w)(hn:0<Ls.length):∃g cap,v=.slice (some ⟨g,0,none⟩) Ls.length cap∧g<w.heap.size∧B≤g:=by
 rcases h.own.2 with⟨_,h0⟩|⟨g,cap,_,e,hB,hc,_⟩
 ·omega
 ·exact⟨g,cap,e,(Array.getElem?_eq_some_iff.1 hc).1,hB⟩
theorem fS.cell {g cap:Nat}(h:fS B (.slice (some ⟨g,0,none⟩) Ls.length cap) Ls As cs w){j:Nat}(hj:j<Ls.length):w.cell? ⟨g,j,none⟩=some (.slice (As j) (Ls.getD j []).length (cs j)):=by
 rw[h.own.cellAt j qo]
 simp[hj]
theorem fS.frozen {g cap:Nat}(h:fS B (.slice (some ⟨g,0,none⟩) Ls.length cap) Ls As cs w)(j:Nat):w.frozen? ⟨g,j,none⟩=false:=h.own.frozenAt j
theorem fS.snoc (h:fS B v Ls As cs w){A:Option Addr}{L:List Int}{c:Nat}{v':Value}(hA:dN w A L)(hv:∀b,Fb A L.length b→¬v.ownBlock=some b)
 (hown:w'.ownsRow B 61 1 v' (Ls.length+1) (((List.range Ls.length).map fun j=>Value.slice (As j) (Ls.getD j []).length (cs j))++[.slice A L.length c])) (hf:Fr w w' (fun b=>v.ownBlock=some b)) (hat:v'.ownBlock=v.ownBlock∨v'.ownBlock=some (w.heap.size+1)):
 fS B v' (Ls++[L]) (fun j=>if j=Ls.length then A else As j) (fun j=>if j=Ls.length then c else cs j) w':=by
 have hlt:∀b,Fb A L.length b→b<w.heap.size:=fun b hb=>(aS _ _ _).2 w b hA hb;have hg:∀j,j<Ls.length→(Ls++[L]).getD j []=Ls.getD j []:=fun j hj=>by simp only[List.getD];rw[List.getElem?_append_left hj]
 have hg2:(Ls++[L]).getD Ls.length []=L:=by simp[List.getD]
 have BJ:∀b,b<w.heap.size→¬v.ownBlock=some b→¬v'.ownBlock=some b:=fun b h1 h2 h3=>by
  rcases hat with h|h
  ·exact h2 (h.symm.trans h3)
  ·rw[h]at h3
   injection h3 with h3;omega
 refine⟨?_,fun j hj=>?_,fun j hj b hb=>?_⟩
 ·have e:(List.range (Ls++[L]).length).map (fun j=>Value.slice (if j=Ls.length then A else As j) ((Ls++[L]).getD j []).length (if j=Ls.length then c else cs j))=((List.range Ls.length).map fun j=>Value.slice (As j) (Ls.getD j []).length (cs j))++[.slice A L.length c]:=by
   rw[List.length_append,List.length_singleton,List.range_succ,List.map_append]
   congr 1
   ·exact List.map_congr_left fun j hj=>by
     have:=List.mem_range.1 hj;rw[if_neg qo,if_neg qo,hg j this]
   ·simp
  rw[e,List.length_append,List.length_singleton];exact hown
 ·rw[List.length_append,List.length_singleton]at hj
  by_cases hjn:j=Ls.length
  ·subst hjn
   rw[if_pos rfl,hg2];exact(aS _ _ _).fr hA hf fun b hb he=>hv b hb he
  ·rw[if_neg hjn,hg j qo]
   exact(aS _ _ _).fr (h.rd j qo) hf fun b hb he=>h.far j qo b hb he
 ·rw[List.length_append,List.length_singleton]at hj
  by_cases hjn:j=Ls.length
  ·subst hjn
   rw[if_pos rfl,hg2]at hb;exact BJ b (hlt b hb) (hv b hb)
  ·rw[if_neg hjn,hg j qo]at hb
   exact BJ b (h.lt qo hb) (h.far j qo b hb)
theorem fS.put {g cap:Nat}(h:fS B (.slice (some ⟨g,0,none⟩) Ls.length cap) Ls As cs w){i:Nat}(hi:i<Ls.length){A:Option Addr}{L:List Int}{c:Nat}(hA:dN w A L)(hv:∀b,Fb A L.length b→b≠g):
 fS B (.slice (some ⟨g,0,none⟩) Ls.length cap) (Ls.set i L) (fun j=>if j=i then A else As j) (fun j=>if j=i then c else cs j) (w.setCell ⟨g,i,none⟩ (.slice A L.length c)):=by
 have hg:∀j,j≠i→(Ls.set i L).getD j []=Ls.getD j []:=fun j hj=>by simp[List.getD,List.getElem?_set,Ne.symm hj]
 have hg2:(Ls.set i L).getD i []=L:=by simp[List.getD,hi]
 have hst:=(h.own.stored i (.slice A L.length c)).1;have hk:∀b,b≠g→(w.setCell ⟨g,i,none⟩ (.slice A L.length c)).heap[b]?=w.heap[b]?:=fun b hb=>Below.heap_setCell w _ _ b hb;refine⟨?_,fun j hj=>?_,fun j hj b hb=>?_⟩
 ·rw[List.length_set]
  have e:(List.range Ls.length).map (fun j=>Value.slice (if j=i then A else As j) ((Ls.set i L).getD j []).length (if j=i then c else cs j))=((List.range Ls.length).map fun j=>Value.slice (As j) (Ls.getD j []).length (cs j)).set i (.slice A L.length c):=by
   apply List.ext_getElem?
   intro j;rw[List.getElem?_set]
   by_cases hij:i=j
   ·subst hij
    simp[hi]
   ·have hji:¬j=i:=fun e=>hij e.symm
    rw[if_neg hij]
    by_cases hj:j<Ls.length
    ·simp[hj,hji,List.getElem?_set,hij]
    ·simp[hj]
  rw[e];exact hst
 ·rw[List.length_set]at hj
  by_cases hji:j=i
  ·subst hji
   rw[if_pos rfl,hg2];exact(aS _ _ _).1 _ _ hA fun b hb=>hk b (hv b hb)
  ·rw[if_neg hji,hg j hji]
   exact(aS _ _ _).1 _ _ (h.rd j hj) fun b hb=>hk b fun e=>h.far j hj b hb (by rw[e];rfl)
 ·rw[List.length_set]at hj
  by_cases hji:j=i
  ·subst hji
   rw[if_pos rfl,hg2]at hb;exact fun e=>hv b hb (by injection e with e;exact e.symm)
  ·rw[if_neg hji,hg j hji]at hb
   exact h.far j hj b hb
end
theorem aD {B:Nat}{w w':World}{g o:Nat}{v:Value}(hb:Below B w w')(hg:g<B)(h:w.cell? ⟨g,o,none⟩=some v):w'.cell? ⟨g,o,none⟩=some v:=((aC hb).1 g o hg).trans h
def mC (w:World)(L:List Int)(e:Ending)(w':World):Prop:=∃v,e=.returned v∧w'.ownsRow w.heap.size 2 1 v L.length (ints L)∧Below w.heap.size w w'
theorem j5 {B:Nat}{w:World}{A:Option Addr}{n c:Nat}{L:List Int}(ho:w.ownsRow B 2 1 (.slice A n c) n (ints L)):dN w A L:=fun h0=>by
 have hl:L.length=n:=by have:=ho.1;simp[ints]at this;omega
 rcases ho.2 with⟨_,h1⟩|⟨g',cap,_,hg,_⟩
 ·omega
 injection hg with hA _ hc;subst hA;refine⟨g',0,rfl,(ho.lt g' rfl).2,fun j hj=>?_⟩;rw[Nat.zero_add,ho.cellAt j qo]
 simp[ints,List.getD,hj]
theorem wI (w:World)(cs:Array Value)(n:Nat)(hn:n≤1000000)(hcs:cs.size=n)(hcv:∀j,j<n→cs[j]?=some (.int .i64 0)):(w.alloc (.cells cs 2)).ownsRow w.heap.size 2 1 (.slice (some ⟨w.heap.size,0,none⟩) n n) n (ints (List.replicate n 0)):=by
 have h:=World.ownsRow_lit (base:=w.heap.size) (e:=2) (size:=1) w cs n ql qm qo;have e:cs.toList=ints (List.replicate n 0):=by
  apply List.ext_getElem?
  intro j
  by_cases hj:j<n
  ·have:=hcv j hj
   rw[Array.getElem?_toList,this]
   simp[ints,hj]
  ·rw[List.getElem?_eq_none (by rw[Array.length_toList];omega),List.getElem?_eq_none (by simp[ints];omega)]
 rwa[e]at h
theorem DX (A:OA)(c:Nat)(L:List Int)(w:World)(ha:dN w A L)(hn:L.length≤1048576):
 Calls Tryz.prog 132 #[.slice A L.length c] w (mC w L):=by
 obtain⟨i0,hi,iz,is,ib⟩:=info_parts info64;have hb0:Below w.heap.size w (w.alloc (.cells #[] 2)):=qb;have HR:=qh (ha.below hb0);have HO:=qh (World.ownsRow_made (e:=2) (size:=1) w #[] 0 ql qm rfl);have HB:=qh hb0;clear ha hb0
 go_enter Tryz.func132,Tryz.ntmps132
 go_wp2_with (at_builtin;go_must (refine cO (w.alloc (.cells #[] 2)) rfl (.tmp 3) (.tmp 4) _ rfl w.heap.size 2 i0 _ 1 8 Tryz.underlying61 hi iz is ib rfl qo _ 0 [] rfl HO.o A L.length c (fun j=>.int .i64 (L.getD j 0)) rfl (by rw[Nat.mul_one];exact HR.o) (fun j=>rfl) qm qo qj ?_);intro v' w' hown' hfr;have HOWN':=qh hown';have jZ:=qh hfr;clear hown' hfr)
 go_ret
 have ho:=HOWN'.o;rw[Nat.zero_add,List.nil_append,Nat.mul_one,eV L L.length rfl]at ho;exact⟨_,rfl,ho,HB.o.trans (jZ.o.own HO.o qj)⟩
theorem GU {L:List Int}{k:Nat}(hk:k<L.length)(x:Int):x∈L.take (k+1)↔x∈L.take k∨x=L.getD k 0:=by
 rw[List.take_succ_eq_append_getElem hk,List.mem_append,List.mem_singleton]
 simp[List.getD,hk]
theorem Dk (A:OA)(c:Nat)(L:List Int)(x:Int)(w:World)(ha:dN w A L)(hn:L.length≤1048576):
 Calls Tryz.prog 229 #[.slice A L.length c,.int .i64 x] w fun e w'=>e=.returned (.bool (decide (x∈L)))∧w=w':=by
 have HA:=qh ha;clear ha
 go_enter Tryz.func229,Tryz.ntmps229
 go_wp2
 go_loop [5] (fun i=>∃k:Nat,k≤L.length∧i=.int .i64 k∧Hq (x∉L.take k)) (fun i=>L.length-(intOf i).toNat)
 case atStart=>exact⟨0,Nat.zero_le _,rfl,qh qj⟩
 case round=>
  obtain⟨k,hk,rfl,HX⟩:=hrel
  by_cases hlt:k<L.length
  ·obtain⟨ga,o,rfl,hg,hr⟩:=HA.o qo
   have hc:=hr k hlt;have HM:=qh (GU hlt x);obtain⟨y,hy⟩:=qx (L.getD k 0)
   simp only[←hy]at hc HM
   have HY:=qh (show y∈L by rw[hy];simp[List.getD,hlt]);have b1:(0:Int)≤(k:Int):=qo;have b2:(k:Int)<(L.length:Int):=qo;clear hr hy
   by_cases hxy:y=x
   ·subst hxy
    have HD:=qh (show decide (y∈L)=true from decide_eq_true HY.o)
    go_wp2
    go_ret
    exact⟨by rw[HD.o];rfl,rfl⟩
   ·have hxb:(y==x)=false:=by simpa using hxy
    go_wp2
    go_round
    case rel=>exact⟨k+1,by omega,qg,qh (by rw[HM.o];rintro(h|h);exact HX.o h;exact hxy h.symm)⟩
    case measure=>exact qs
  ·obtain rfl:L.length=k:=qo
   have HD:=qh (show decide (x∈L)=false from decide_eq_false (by have:=HX.o;rwa[List.take_length]at this))
   go_wp2
   go_ret
   exact⟨by rw[HD.o];rfl,rfl⟩
theorem jh (A B:OA)(c c':Nat)(L M:List Int)(w:World)(ha:dN w A L)(hb:dN w B M)(hn:L.length≤1048576)(hm:M.length≤1048576):
 Calls Tryz.prog 230 #[.slice A L.length c,.slice B M.length c'] w fun e w'=>e=.returned (.bool (decide (L=M)))∧∃q,w'=w.drewN q:=by
 have HA:=qh ha;have HB:=qh hb;clear ha hb
 by_cases hl:L.length=M.length
 case neg=>
  have HD:=qh (show decide (L=M)=false from decide_eq_false fun e=>hl (by rw[e]));have hlb:((L.length:Int)==(M.length:Int))=false:=by rw[beq_eq_false_iff_ne];omega
  have hlc:¬(L.length:Int)=(M.length:Int):=qo
  go_enter Tryz.func230,Tryz.ntmps230
  go_wp2
  go_ret
  exact⟨by rw[HD.o];rfl,0,rfl⟩
 obtain⟨n,hnl⟩:=qx (L.length);have hnm:M.length=n:=qo;have gK:=qh hnl;have zK:=qh hnm;have e1:L.length=n:=hnl.symm;rw[←hnl];rw[hnm];rw[←hnl]at hn;clear hnl hnm hl hm
 go_enter Tryz.func230,Tryz.ntmps230
 go_wp2
 go_loopw [5] (fun i wr=>∃k q:Nat,k≤n∧i=.int .i64 k∧wr=w.drewN q∧Hq (L.take k=M.take k)) (fun i _=>n-(intOf i).toNat)
 case atStart=>exact⟨0,0,Nat.zero_le _,rfl,rfl,qh qj⟩
 case round=>
  obtain⟨k,q,hk,rfl,rfl,HX⟩:=hrel
  by_cases hlt:k<n
  ·obtain⟨ga,o,rfl,hg,hr⟩:=HA.o qo
   obtain⟨gb,o',rfl,hg',hr'⟩:=HB.o (by have:=zK.o;omega);have hc:=hr k qo;have hc':=hr' k (by have:=zK.o;omega);have HT1:=qh (show L.take (k+1)=L.take k++[L.getD k 0]by rw[List.take_succ_eq_append_getElem qo];simp[List.getD,show k<L.length by omega]);have HT2:=qh (show M.take (k+1)=M.take k++[M.getD k 0]by rw[List.take_succ_eq_append_getElem (by have:=zK.o;omega)];simp[List.getD,show k<M.length by have:=zK.o;omega]);obtain⟨x,hx⟩:=qx (L.getD k 0);obtain⟨y,hy⟩:=qx (M.getD k 0)
   simp only[←hx]at hc
   rw[←hx]at HT1
   simp only[←hy]at hc'
   rw[←hy]at HT2;have Q4:=qh hx;have HYY:=qh hy;have b1:(0:Int)≤(k:Int):=qo;have b2:(k:Int)<(n:Int):=qo;clear hr hr' hx hy
   by_cases hxy:x=y
   ·subst hxy
    go_wp2_with fail
    go_quiet (fail)
    go_wp2_with fail
    go_roundw
    case rel=>exact⟨k+1,_,by omega,qg,rfl,qh (by rw[HT1.o,HT2.o,HX.o])⟩
    case measure=>exact qs
   ·have HD:=qh (show decide (L=M)=false from decide_eq_false fun e=>hxy (by rw[Q4.o,HYY.o,e]))
    have hxb:(x==y)=false:=by simpa using hxy
    go_wp2_with fail
    go_quiet (fail)
    go_wp2_with fail
    go_ret
    exact⟨by rw[HD.o];rfl,_,World.drewN_drewN _ _ _⟩
  ·obtain rfl:n=k:=qo
   have HD:=qh (show decide (L=M)=true from decide_eq_true (by
    have h:=HX.o;rwa[List.take_of_length_le qo,List.take_of_length_le (by have:=zK.o;omega)]at h))
   go_wp2
   go_ret
   exact⟨by rw[HD.o];rfl,q,rfl⟩
theorem V5 {P:Program}(w:World){ops:Array Oper}{rest:List Oper}{o:Oper}{a:Act}{Q:Exit→Act→World→Prop}(hgd:o.guard=none)(s x:Operand)(t tn:TypeId)
 (ho:o.op=.call {callee:=.builtin .append,args:=#[s,x],argTypes:=#[t,tn]}) (e:TypeId) (i:TypeInfo) (z:Value) (size bytes:Nat) (ht:P.underlying t=some (.slice e)) (htn:P.underlying tn=some (.int .i64)) (hi:P.info? e=some i) (hz:i.zero=some z)
 (hsize:i.size=size) (hby:i.bytes=bytes) (hzs:z.cells.size=size) (hsz:0<size) (n:Nat) (h0:0<n) (h63:n≤maxLen) (hb:n*bytes≤281474976710656)
 (hs:a.eval s=.slice none 0 0) (hx:a.eval x=.int .i64 n)
 (h:∀c w',(w'.ownsRow w.heap.size e size (.slice (some ⟨w.heap.size,0,none⟩) 0 c) 0 [])→n≤c→Below w.heap.size w w'→w.heap.size<w'.heap.size→wpList P ops Q rest (a.put o.dst (.slice (some ⟨w.heap.size,0,none⟩) n c)) w'):
 wpList P ops Q (o::rest) a w:=by
 subst hsize;subst hby;have hr:=Lib.run_append_nil_zeros (P:=P) w t tn o.type e i z .i64 .i64 ht htn hi hz n h0 hsz (by unfold maxLen at h63;omega) hb;refine wpList_plain hgd fun K hK=>?_;unfold Oper.wp execOp
 simp only[ho,resolve,invoke,builtin,Sem.run_bind,Sem.run_pure,Result.andThen_ok,List.map_toArray,List.map_cons,List.map_nil,hs,hx,hr]
 have hge:=grownCap_ge w n 0 e;have hle:=grownCap_le_maxLen w n 0 e h63;refine hK _ _ (h _ _ (World.ownsRow_made w.drew _ _ ql hle ?_) hge ?_ ?_)
 ·simp only[Array.size_append,size_zeroCells,hzs,←Nat.add_mul]
  congr 1
  omega
 ·exact(Below.refl _ _).drew.alloc ql _
 ·simp
end Go.Proofs.YtimlpmbabbbcaaaGreat
namespace Go.Proofs
open Go.Shelf
def Tryz.laysSort_ren:Go.Shelf.Ren:=⟨fun|5=>108|8=>156|7=>155|19=>197|20=>198|10=>188|11=>189|12=>190|13=>191|14=>192|15=>193|16=>194|17=>195|18=>196|30=>217|31=>218|32=>219|33=>220|34=>221|35=>222|40=>231|n=>n,fun|23=>61|25=>2|3=>3|32=>160|22=>61|0=>0|44=>194|46=>197|4=>4|36=>215|35=>214|41=>220|5=>5|9=>9|53=>230|57=>234|63=>238|64=>239|n=>n,fun|n=>n⟩
theorem Tryz.laysSort:Go.Proofs.SlLaysM.n5 Tryz.prog Tryz.laysSort_ren:={
 mixed:=by kernel_rfl
 f5:=⟨Tryz.f108.name,by decide,Tryz.func108.trans (congrArg some (by kernel_rfl))⟩
 f7:=⟨Tryz.f155.name,by decide,Tryz.func155.trans (congrArg some (by kernel_rfl))⟩
 f8:=Tryz.func156.trans (congrArg some (by kernel_rfl))
 f10:=⟨Tryz.f188.name,by decide,Tryz.func188.trans (congrArg some (by kernel_rfl))⟩
 f11:=⟨Tryz.f189.name,by decide,Tryz.func189.trans (congrArg some (by kernel_rfl))⟩
 f12:=⟨Tryz.f190.name,by decide,Tryz.func190.trans (congrArg some (by kernel_rfl))⟩
 f13:=⟨Tryz.f191.name,by decide,Tryz.func191.trans (congrArg some (by kernel_rfl))⟩
 f14:=⟨Tryz.f192.name,by decide,Tryz.func192.trans (congrArg some (by kernel_rfl))⟩
 f15:=⟨Tryz.f193.name,by decide,Tryz.func193.trans (congrArg some (by kernel_rfl))⟩
 f16:=⟨Tryz.f194.name,by decide,Tryz.func194.trans (congrArg some (by kernel_rfl))⟩
 f17:=⟨Tryz.f195.name,by decide,Tryz.func195.trans (congrArg some (by kernel_rfl))⟩
 f18:=⟨Tryz.f196.name,by decide,Tryz.func196.trans (congrArg some (by kernel_rfl))⟩
 f19:=Tryz.func197.trans (congrArg some (by kernel_rfl))
 f20:=Tryz.func198.trans (congrArg some (by kernel_rfl))
 f30:=⟨Tryz.f217.name,by decide,Tryz.func217.trans (congrArg some (by kernel_rfl))⟩
 f31:=Tryz.func218.trans (congrArg some (by kernel_rfl))
 f32:=Tryz.func219.trans (congrArg some (by kernel_rfl))
 f33:=⟨Tryz.f220.name,by decide,Tryz.func220.trans (congrArg some (by kernel_rfl))⟩
 f34:=⟨Tryz.f221.name,by decide,Tryz.func221.trans (congrArg some (by kernel_rfl))⟩
 f35:=⟨Tryz.f222.name,by decide,Tryz.func222.trans (congrArg some (by kernel_rfl))⟩
 f40:=⟨Tryz.f231.name,by decide,Tryz.func231.trans (congrArg some (by kernel_rfl))⟩
 t0:=Tryz.underlying0
 a0:=Tryz.isAgg0
 z0:=Tryz.sizeOf0
 v0:=Tryz.zeroValue0
 t3:=Tryz.underlying3
 a3:=Tryz.isAgg3
 z3:=Tryz.sizeOf3
 v3:=Tryz.zeroValue3
 t4:=Tryz.underlying4
 a4:=Tryz.isAgg4
 z4:=Tryz.sizeOf4
 v4:=Tryz.zeroValue4
 t5:=Tryz.underlying5
 a5:=Tryz.isAgg5
 z5:=Tryz.sizeOf5
 v5:=Tryz.zeroValue5
 t9:=Tryz.underlying9
 a9:=Tryz.isAgg9
 z9:=Tryz.sizeOf9
 v9:=Tryz.zeroValue9
 t22:=Tryz.underlying61
 a22:=Tryz.isAgg61
 z22:=Tryz.sizeOf61
 v22:=Tryz.zeroValue61
 t23:=Tryz.underlying61
 a23:=Tryz.isAgg61
 z23:=Tryz.sizeOf61
 v23:=Tryz.zeroValue61
 t25:=Tryz.underlying2
 a25:=Tryz.isAgg2
 z25:=Tryz.sizeOf2
 v25:=Tryz.zeroValue2
 t32:=Tryz.underlying160
 a32:=Tryz.isAgg160
 z32:=Tryz.sizeOf160
 v32:=Tryz.zeroValue160
 t35:=Tryz.underlying214
 a35:=Tryz.isAgg214
 z35:=Tryz.sizeOf214
 v35:=Tryz.zeroValue214
 t36:=Tryz.underlying215
 a36:=Tryz.isAgg215
 z36:=Tryz.sizeOf215
 v36:=Tryz.zeroValue215
 t41:=Tryz.underlying220
 a41:=Tryz.isAgg220
 z41:=Tryz.sizeOf220
 v41:=Tryz.zeroValue220
 t44:=Tryz.underlying194
 a44:=Tryz.isAgg194
 z44:=Tryz.sizeOf194
 v44:=Tryz.zeroValue194
 t46:=Tryz.underlying197
 a46:=Tryz.isAgg197
 z46:=Tryz.sizeOf197
 v46:=Tryz.zeroValue197
 t53:=Tryz.underlying230
 a53:=Tryz.isAgg230
 z53:=Tryz.sizeOf230
 v53:=Tryz.zeroValue230
 t57:=Tryz.underlying234
 a57:=Tryz.isAgg234
 z57:=Tryz.sizeOf234
 v57:=Tryz.zeroValue234
 t63:=Tryz.underlying238
 a63:=Tryz.isAgg238
 z63:=Tryz.sizeOf238
 v63:=Tryz.zeroValue238
 t64:=Tryz.underlying239
 a64:=Tryz.isAgg239
 z64:=Tryz.sizeOf239
 v64:=Tryz.zeroValue239}
open Go.Sort Go.RowKit in
theorem Tryz.slices_Sort_int64 (blk off cap:Nat)(zs:List Int)(w:World)(hH:Holds (Value.int .i64) w blk off zs.toArray)(hblk:blk<w.heap.size)(hsz:zs.length<4611686018427387904):
 Calls Tryz.prog 108 #[.slice (some ⟨blk,off,none⟩) zs.length cap] w fun e w'=>
  e=.returned (.tuple #[])∧∃n os,w'=grow (putRow (Value.int .i64) (Sort.ahead w n) blk off (zs.mergeSort fun x y=>decide (x≤y)).toArray) os:=AnyM.slices_Sort_int Tryz.laysSort blk off cap zs w hH hblk hsz
theorem Tryz.slices_Sort_int64_none (p:Option Addr)(cap:Nat)(w:World):
 Calls Tryz.prog 108 #[.slice p 0 cap] w fun e w'=>e=.returned (.tuple #[])∧w'=w:=AnyM.slices_Sort_int_none Tryz.laysSort p cap w
end Go.Proofs
namespace Go.Proofs.YtimlpmbabbbcaaaGreat
open Go.RowKit
theorem dZ {B:Nat}{w w':World}{e:TypeId}{size n:Nat}{v:Value}{xs:List Value}(ho:w.ownsRow B e size v n xs)(h:∀b,v.ownBlock=some b→w'.heap[b]?=w.heap[b]?):w'.ownsRow B e size v n xs:=by
 exact zP13x5
def K5 (tg:Nat→Nat)(v:Value)(c:Nat):Prop:=∀b,v.ownBlock=some b→tg b=c
def gO (tg:Nat→Nat)(v:Value)(c:Nat)(b:Nat):Nat:=if v.ownBlock=some b then c else tg b
def qZ (tg:Nat→Nat)(v:Value)(c:Nat):Prop:=∀b,v.ownBlock=some b→tg b=0∨tg b=c
def KH (B:Nat)(tg:Nat→Nat)(c:Nat)(w:World)(u:Value)(L:List Int):Prop:=(∃A k,u=.slice A 0 k∧L=[])∨(w.ownsRow B 2 1 u L.length (ints L)∧K5 tg u c)
structure bQ where
 P:World→Prop
 F:Nat→Prop
 loc:∀w w',P w→(∀b,F b→w'.heap[b]?=w.heap[b]?)→P w'
structure aZ [Inhabited bQ](T:TypeId)(mk:Value→Value→Array Value)(B g:Nat)(tg:Nat→Nat)(ev cl:Value)(n q:Nat)(E:List Int)(U:Nat→Value)(C:Nat→List Int)(w:World):Prop where
 b:aG w g T (mk ev cl)
 e:w.ownsRow B 116 6 ev n (ints E)
 c:w.ownsRow B 61 1 cl q ((List.range q).map U)
 u:∀i,i<q→KH B tg (4+i) w (U i) (C i)
 tb:tg g=1
 te:K5 tg ev 2
 tc:K5 tg cl 3
 lt:∀b,tg b≠0→b<w.heap.size
 lo:B≤g
 k:(default:bQ).P w
 kf:∀b,(default:bQ).F b→tg b=1∧b≠g
def dO [Inhabited bQ](T:TypeId)(mk:Value→Value→Array Value)(B g q:Nat)(E:List Int)(C:Nat→List Int)(w:World):Prop:=∃tg ev cl n U,aZ T mk B g tg ev cl n q E U C w
section
variable {tg:Nat→Nat}{u v:Value}{c x:Nat}{B:Nat}{w w':World}{L:List Int}
theorem lL {b:Nat}(hf:qZ tg v c)(hx:tg b=x)(h0:x≠0)(hc:x≠c):gO tg v c b=x:=by
 unfold gO;rw[if_neg ?_,hx];intro e
 rcases hf b e with h|h<;>omega
theorem oT (hf:qZ tg v c)(hu:K5 tg u x)(h0:x≠0)(hc:x≠c):K5 (gO tg v c) u x:=fun b hb=>lL hf (hu b hb) h0 hc
theorem zS (v:Value)(c:Nat):K5 (gO tg v c) v c:=fun b hb=>by unfold gO;rw[if_pos hb]
theorem DC {N:Nat}(h:∀b,tg b≠0→b<N)(hv:∀b,v.ownBlock=some b→b<N):∀b,gO tg v c b≠0→b<N:=fun b hb=>by
 unfold gO at hb
 split at hb
 ·exact hv b ‹_›
 ·exact h b hb
theorem KH.tag (h:KH B tg x w u L)(hf:qZ tg v c)(h0:x≠0)(hc:x≠c):KH B (gO tg v c) x w u L:=by
 rcases h with h|⟨h1,h2⟩
 ·exact .inl h
 ·exact .inr ⟨h1,oT hf h2 h0 hc⟩
theorem KH.blk (h:KH B tg x w u L)(hk:∀b,tg b=x→w'.heap[b]?=w.heap[b]?):KH B tg x w' u L:=by
 rcases h with h|⟨h1,h2⟩
 ·exact .inl h
 ·exact .inr ⟨dZ h1 fun b hb=>hk b (h2 b hb),h2⟩
end
theorem kZ (w:World)(p:Addr)(v:Value)(b:Nat)(h:b≠p.block):(w.setCell p v).heap[b]?=w.heap[b]?:=Below.heap_setCell w p v b h
theorem oE (w:World)(p:Addr)(v:Value):(w.setCell p v).heap.size=w.heap.size:=by simp[World.setCell]
theorem UA (U:Nat→Value)(q i:Nat)(u:Value):((List.range q).map U).set i u=(List.range q).map (fun j=>if j=i then u else U j):=by
 apply List.ext_getElem?
 intro j;rw[List.getElem?_set]
 by_cases h:i=j
 ·subst h
  by_cases hi:i<q
  ·simp[hi]
  ·simp[hi]
 ·rw[if_neg h]
  by_cases hj:j<q
  ·have h':¬j=i:=fun e=>h e.symm
   simp[hj,h']
  ·simp[hj]
section
variable [Inhabited bQ]{T:TypeId}{mk:Value→Value→Array Value}{B g:Nat}{tg:Nat→Nat}{ev cl:Value}{n q:Nat}{E:List Int}{U:Nat→Value}{C:Nat→List Int}{w w':World}
theorem aZ.same (h:aZ T mk B g tg ev cl n q E U C w)(hk:∀b,tg b≠0→w'.heap[b]?=w.heap[b]?)(hz:w.heap.size≤w'.heap.size):aZ T mk B g tg ev cl n q E U C w' where
 b:=(hk g (by rw[h.tb];omega)).trans h.b
 e:=dZ h.e fun b hb=>hk b (by rw[h.te b hb];omega)
 c:=dZ h.c fun b hb=>hk b (by rw[h.tc b hb];omega)
 u:=fun i hi=>(h.u i hi).blk fun b hb=>hk b qo
 tb:=h.tb
 te:=h.te
 tc:=h.tc
 lt:=fun b hb=>Nat.lt_of_lt_of_le (h.lt b hb) hz
 lo:=h.lo
 k:=bQ.loc _ _ _ h.k fun b hb=>hk b (by rw[(h.kf b hb).1];omega)
 kf:=h.kf
theorem aZ.below (h:aZ T mk B g tg ev cl n q E U C w)(hb:Below w.heap.size w w'):aZ T mk B g tg ev cl n q E U C w':=h.same (fun b ht=>hb.block b (h.lt b ht)) hb.size
theorem aZ.drewN (h:aZ T mk B g tg ev cl n q E U C w)(k:Nat):aZ T mk B g tg ev cl n q E U C (w.drewN k):=h.same (fun _ _=>rfl) ql
theorem aZ.R4 (h:aZ T mk B g tg ev cl n q E U C w)(hk:∀b,tg b≠0→tg b≠2→w'.heap[b]?=w.heap[b]?)(hz:w.heap.size≤w'.heap.size){ev':Value}{n':Nat}{E':List Int}(ho:w'.ownsRow B 116 6 ev' n' (ints E'))(hf:qZ tg ev' 2){o:Nat}(hmk:(mk ev cl).setIfInBounds o ev'=mk ev' cl):
 aZ T mk B g (gO tg ev' 2) ev' cl n' q E' U C (w'.setCell ⟨g,o,none⟩ ev') where
 b:=by
  have h1:aG w' g T (mk ev cl):=(hk g (by rw[h.tb];omega) (by rw[h.tb];omega)).trans h.b;have:=h1.fH o ev';rwa[hmk]at this
 e:=dZ ho fun b hb=>kZ _ _ _ _ (by rintro rfl;have:=hf _ hb;have:=h.tb;omega)
 c:=dZ (dZ h.c fun b hb=>hk b (by rw[h.tc b hb];omega) (by rw[h.tc b hb];omega)) fun b hb=>kZ _ _ _ _ (by rintro rfl;have:=h.tc _ hb;have:=h.tb;omega)
 u:=fun i hi=>(((h.u i hi).blk fun b hb=>hk b qo qo).blk fun b hb=>kZ _ _ _ _ (by rintro rfl;have:=h.tb;omega)).tag hf qo qo
 tb:=lL hf h.tb qo qo
 te:=zS _ _
 tc:=oT hf h.tc qo qo
 lt:=by
  rw[oE];exact DC (fun b hb=>Nat.lt_of_lt_of_le (h.lt b hb) hz) fun b hb=>(ho.lt b hb).2
 lo:=h.lo
 k:=bQ.loc _ _ _ h.k fun b hb=>(kZ _ _ _ _ (h.kf b hb).2).trans (hk b (by rw[(h.kf b hb).1];omega) (by rw[(h.kf b hb).1];omega))
 kf:=fun b hb=>⟨lL hf (h.kf b hb).1 qo qo,(h.kf b hb).2⟩
theorem aZ.Pj (h:aZ T mk B g tg ev cl n q E U C w)(hk:∀b,tg b≠0→tg b≠3→w'.heap[b]?=w.heap[b]?)(hz:w.heap.size≤w'.heap.size){cl' u:Value}{L:List Int}(ho:w'.ownsRow B 61 1 cl' (q+1) ((List.range q).map U++[u]))(hf:qZ tg cl' 3)(hu:(∃A k,u=.slice A 0 k∧L=[])∨(w'.ownsRow B 2 1 u L.length (ints L)∧(∀b,u.ownBlock=some b→tg b=0∧¬cl'.ownBlock=some b))){o:Nat}(hmk:(mk ev cl).setIfInBounds o cl'=mk ev cl'):
 ∃eZ,aZ T mk B g eZ ev cl' n (q+1) E (fun i=>if i=q then u else U i) (fun i=>if i=q then L else C i) (w'.setCell ⟨g,o,none⟩ cl')∧∀b,tg b=0→¬cl'.ownBlock=some b→¬u.ownBlock=some b→eZ b=0:=by
 have hz0:∀b,tg b=0→¬cl'.ownBlock=some b→gO tg cl' 3 b=0:=fun b h0 h1=>by unfold gO;rw[if_neg h1];exact h0
 have hf2:(∃A k,u=.slice A 0 k∧L=[])∨(w'.ownsRow B 2 1 u L.length (ints L)∧qZ (gO tg cl' 3) u (4+q)):=by
  rcases hu with hu|⟨hu,hu2⟩
  ·exact .inl hu
  ·exact .inr ⟨hu,fun b hb=>.inl (by unfold gO;rw[if_neg (hu2 b hb).2];exact(hu2 b hb).1)⟩
 have hb':aG (w'.setCell ⟨g,o,none⟩ cl') g T (mk ev cl'):=by
  have h1:aG w' g T (mk ev cl):=(hk g (by rw[h.tb];omega) (by rw[h.tb];omega)).trans h.b;have:=h1.fH o cl';rwa[hmk]at this
 have hg:∀b,b≠g→(w'.setCell ⟨g,o,none⟩ cl').heap[b]?=w'.heap[b]?:=fun b hb=>kZ _ _ _ _ hb;have he':(w'.setCell ⟨g,o,none⟩ cl').ownsRow B 116 6 ev n (ints E):=dZ (dZ h.e fun b hb=>hk b (by rw[h.te b hb];omega) (by rw[h.te b hb];omega)) fun b hb=>hg b (by rintro rfl;have:=h.te _ hb;have:=h.tb;omega);have hc':(w'.setCell ⟨g,o,none⟩ cl').ownsRow B 61 1 cl' (q+1) ((List.range (q+1)).map fun i=>if i=q then u else U i):=by
  have h1:(List.range (q+1)).map (fun i=>if i=q then u else U i)=(List.range q).map U++[u]:=by
   rw[List.range_succ,List.map_append]
   congr 1
   ·exact List.map_congr_left fun i hi=>by rw[if_neg (by have:=List.mem_range.1 hi;omega)]
   ·simp
  rw[h1];exact dZ ho fun b hb=>hg b (by rintro rfl;have:=hf _ hb;have:=h.tb;omega)
 have hu':∀i,i<q→KH B (gO tg cl' 3) (4+i) (w'.setCell ⟨g,o,none⟩ cl') (U i) (C i):=fun i hi=>(((h.u i hi).blk fun b hb=>hk b qo qo).blk fun b hb=>hg b (by rintro rfl;have:=h.tb;omega)).tag hf qo qo;have hlt':∀b,gO tg cl' 3 b≠0→b<(w'.setCell ⟨g,o,none⟩ cl').heap.size:=by
  rw[oE];exact DC (fun b hb=>Nat.lt_of_lt_of_le (h.lt b hb) hz) fun b hb=>(ho.lt b hb).2
 have htb':=lL hf h.tb qo qo;have aaU:=oT hf h.te qo qo;have aaV:=zS (tg:=tg) cl' 3;have hk':(default:bQ).P (w'.setCell ⟨g,o,none⟩ cl'):=bQ.loc _ _ _ h.k fun b hb=>(kZ _ _ _ _ (h.kf b hb).2).trans (hk b (by rw[(h.kf b hb).1];omega) (by rw[(h.kf b hb).1];omega));have Qv:∀b,(default:bQ).F b→gO tg cl' 3 b=1∧b≠g:=fun b hb=>⟨lL hf (h.kf b hb).1 qo qo,(h.kf b hb).2⟩
 rcases hf2 with⟨A,k,hA,hL⟩|⟨hu1,hu2⟩
 ·refine⟨_,⟨hb',he',hc',fun i hi=>?_,htb',aaU,aaV,hlt',h.lo,hk',Qv⟩,fun b h0 h1 _=>hz0 b h0 h1⟩
  by_cases Jv:i=q
  ·subst Jv
   simp only[if_true]
   exact .inl ⟨A,k,hA,hL⟩
  ·simp only[if_neg Jv]
   exact hu' i qo
 ·refine⟨gO (gO tg cl' 3) u (4+q),⟨hb',he',hc',fun i hi=>?_,lL hu2 htb' qo qo,oT hu2 aaU qo qo,oT hu2 aaV qo qo,DC hlt' fun b hb=>by rw[oE];exact(hu1.lt b hb).2,h.lo,hk',fun b hb=>⟨lL hu2 (Qv b hb).1 qo qo,(Qv b hb).2⟩⟩,fun b h0 h1 h2=>by unfold gO;rw[if_neg h2];exact hz0 b h0 h1⟩
  by_cases Jv:i=q
  ·subst Jv
   simp only[if_true]
   refine .inr ⟨dZ hu1 fun b hb=>hg b ?_,zS _ _⟩;rintro rfl
   rcases hu with⟨A,k,rfl,hL⟩|⟨_,h3⟩
   ·have:=hu2 _ hb
    omega
   ·have:=(h3 _ hb).1
    have:=h.tb;omega
  ·simp only[if_neg Jv]
   exact(hu' i qo).tag hu2 qo qo
theorem aZ.IY {gc cap:Nat}(h:aZ T mk B g tg ev (.slice (some ⟨gc,0,none⟩) q cap) n q E U C w){i:Nat}(hi:i<q){u:Value}{L:List Int}(hu:w.ownsRow B 2 1 u L.length (ints L))(hf:∀b,u.ownBlock=some b→tg b=0):
 aZ T mk B g (gO tg u (4+i)) ev (.slice (some ⟨gc,0,none⟩) q cap) n q E (fun j=>if j=i then u else U j) (fun j=>if j=i then L else C j) (w.setCell ⟨gc,i,none⟩ u):=by
 have hF:qZ tg u (4+i):=fun b hb=>.inl (hf b hb);have hgc:tg gc=3:=h.tc gc rfl;have hk:∀b,tg b≠3→(w.setCell ⟨gc,i,none⟩ u).heap[b]?=w.heap[b]?:=fun b hb=>kZ _ _ _ _ (by rintro rfl;exact hb hgc);refine⟨(hk g (by rw[h.tb];omega)).trans h.b,dZ h.e fun b hb=>hk b (by rw[h.te b hb];omega),by have:=(h.c.stored i u).1;rwa[UA]at this,fun j hj=>?_,lL hF h.tb qo qo,oT hF h.te qo qo,oT hF h.tc qo qo,?_,h.lo,bQ.loc _ _ _ h.k fun b hb=>hk b (by rw[(h.kf b hb).1];omega),fun b hb=>⟨lL hF (h.kf b hb).1 qo qo,(h.kf b hb).2⟩⟩
 ·by_cases hji:j=i
  ·subst hji
   simp only[if_true]
   exact .inr ⟨dZ hu fun b hb=>hk b (by rw[hf b hb];omega),zS _ _⟩
  ·simp only[if_neg hji]
   exact((h.u j hj).blk fun b hb=>hk b qo).tag hF qo qo
 ·rw[oE]
  exact DC h.lt fun b hb=>(hu.lt b hb).2
theorem aZ.bB {gi cap:Nat}(h:aZ T mk B g tg ev cl n q E U C w){i k:Nat}(hi:i<q)(hU:U i=.slice (some ⟨gi,0,none⟩) (C i).length cap)(hk:k<(C i).length)(x:Int):
 aZ T mk B g tg ev cl n q E U (fun j=>if j=i then(C i).set k x else C j) (w.setCell ⟨gi,k,none⟩ (.int .i64 x)):=by
 have hc:=h.u i hi;rw[hU]at hc
 rcases hc with⟨A,c,e,hL⟩|⟨ho,ht⟩
 ·rw[hL]at hk
  simp at hk
 have hgi:tg gi=4+i:=ht gi rfl;have hkp:∀b,tg b≠4+i→(w.setCell ⟨gi,k,none⟩ (.int .i64 x)).heap[b]?=w.heap[b]?:=fun b hb=>kZ _ _ _ _ (by rintro rfl;exact hb hgi);refine⟨(hkp g (by rw[h.tb];omega)).trans h.b,dZ h.e fun b hb=>hkp b (by rw[h.te b hb];omega),dZ h.c fun b hb=>hkp b (by rw[h.tc b hb];omega),fun j hj=>?_,h.tb,h.te,h.tc,fun b hb=>by rw[oE];exact h.lt b hb,h.lo,bQ.loc _ _ _ h.k fun b hb=>hkp b (by rw[(h.kf b hb).1];omega),h.kf⟩
 by_cases hji:j=i
 ·subst hji
  simp only[if_true]
  refine .inr ⟨?_,by rw[hU];exact ht⟩;have:=(ho.stored k (.int .i64 x)).1;rw[hU,List.length_set];have h2:ints ((C j).set k x)=(ints (C j)).set k (.int .i64 x):=by simp[ints,List.map_set]
  rw[h2];exact this
 ·simp only[if_neg hji]
  exact(h.u j hj).blk fun b hb=>hkp b qo
theorem aZ.cellAt {gc cap:Nat}(h:aZ T mk B g tg ev (.slice (some ⟨gc,0,none⟩) q cap) n q E U C w){i:Nat}(hi:i<q):w.cell? ⟨gc,i,none⟩=some (U i):=by
 rw[h.c.cellAt i qo]
 simp[hi]
theorem aZ.form (h:aZ T mk B g tg ev cl n q E U C w)(hq:0<q):∃gc cap,cl=.slice (some ⟨gc,0,none⟩) q cap:=by
 rcases h.c.2 with⟨_,h0⟩|⟨gc,cap,_,rfl,_⟩
 ·omega
 ·exact⟨gc,cap,rfl⟩
theorem aZ.len (h:aZ T mk B g tg ev cl n q E U C w):E.length=6*n:=by
 have:=h.e.1
 simp[ints]at this
 omega
theorem aZ.read (h:aZ T mk B g tg ev cl n q E U C w){i:Nat}(hi:i<q):∃A c,U i=.slice A (C i).length c∧Rd w A (C i).length (fun j=>.int .i64 ((C i).getD j 0)):=by
 rcases h.u i hi with⟨A,c,e,hL⟩|⟨ho,_⟩
 ·refine⟨A,c,?_,?_⟩
  ·rw[e,hL];rfl
  ·rw[hL]
   intro h0
   simp at h0
 ·obtain⟨A,c,e⟩:=aE ho
  refine⟨A,c,e,fun h0=>?_⟩;rw[e]at ho
  rcases ho.2 with⟨_,h1⟩|⟨g',cap,_,hg,_⟩
  ·omega
  injection hg with hA _ hc;subst hA;refine⟨g',0,rfl,(ho.lt g' rfl).2,fun j hj=>?_⟩;rw[Nat.zero_add,ho.cellAt j qo]
  simp[ints,List.getD,hj]
theorem aZ.oK (h:aZ T mk B g tg ev cl n q E U C w){i:Nat}(hi:i<q)(h0:0<(C i).length):∃gi cap,U i=.slice (some ⟨gi,0,none⟩) (C i).length cap∧((C i).length≤cap∧cap≤maxLen)∧gi<w.heap.size∧B≤gi∧tg gi=4+i∧(∀j,j<(C i).length→w.cell? ⟨gi,j,none⟩=some (.int .i64 ((C i).getD j 0)))∧∀j,w.frozen? ⟨gi,j,none⟩=false:=by
 rcases h.u i hi with⟨A,c,e,hL⟩|⟨ho,ht⟩
 ·rw[hL]at h0
  simp at h0
 ·rcases ho.2 with⟨_,h1⟩|⟨gi,cap,cur,e,hb,hc,hnc,hcm,_⟩
  ·omega
  refine⟨gi,cap,e,⟨hnc,hcm⟩,(Array.getElem?_eq_some_iff.1 hc).1,hb,ht gi (by rw[e];rfl),fun j hj=>?_,fun j=>?_⟩
  ·rw[e]at ho
   rw[ho.cellAt j qo]
   simp[ints,List.getD,hj]
  ·rw[e]at ho
   exact ho.frozenAt j
theorem aZ.qW {gc cap:Nat}(h:aZ T mk B g tg ev (.slice (some ⟨gc,0,none⟩) q cap) n q E U C w)(i:Nat):w.frozen? ⟨gc,i,none⟩=false:=h.c.frozenAt i
end
instance kX:Inhabited bQ:=⟨⟨fun _=>True,fun _=>False,fun _ _ _ _=>trivial⟩⟩
@[reducible] def dD (A:OA) (N:Nat) (f:Nat→Value):Inhabited bQ:=⟨⟨fun w=>Rd w A N f,Fb A N,(aS A N f).1⟩⟩
open Classical in
theorem dO.keep {T:TypeId}{mk:Value→Value→Array Value}{B g q:Nat}{E:List Int}{C:Nat→List Int}{w w':World}(h:@dO kX T mk B g q E C w)(hb:Below w.heap.size w w')(K:Inhabited bQ)(hk:K.default.P w')(hf:∀b,K.default.F b→w.heap.size≤b∧b<w'.heap.size):@dO K T mk B g q E C w':=by
 obtain⟨tg,ev,cl,n,U,H⟩:=h;have hlt:=@aZ.lt kX _ _ _ _ _ _ _ _ _ _ _ _ _ H;have hH:=@aZ.below kX _ _ _ _ _ _ _ _ _ _ _ _ _ _ H hb;have h0:∀b,K.default.F b→tg b=0:=fun b hb=>Decidable.byContradiction fun hn=>by have:=hlt b hn;have:=(hf b hb).1;omega
 have hold:∀b,tg b≠0→(if K.default.F b then 1 else tg b)=tg b:=fun b hb=>if_neg fun hF=>hb (h0 b hF);have htag:∀(v:Value) (c:Nat),c≠0→K5 tg v c→K5 (fun b=>if K.default.F b then 1 else tg b) v c:=fun v c hc hv b hb=>by
  have:=hv b hb;exact(hold b qo).trans this
 refine⟨fun b=>if K.default.F b then 1 else tg b,ev,cl,n,U,?_⟩;have hb1:=@aZ.b kX _ _ _ _ _ _ _ _ _ _ _ _ _ hH;have he1:=@aZ.e kX _ _ _ _ _ _ _ _ _ _ _ _ _ hH;have hc1:=@aZ.c kX _ _ _ _ _ _ _ _ _ _ _ _ _ hH;have hu1:=@aZ.u kX _ _ _ _ _ _ _ _ _ _ _ _ _ hH;have htb:=@aZ.tb kX _ _ _ _ _ _ _ _ _ _ _ _ _ hH;have hte:=@aZ.te kX _ _ _ _ _ _ _ _ _ _ _ _ _ hH;have htc:=@aZ.tc kX _ _ _ _ _ _ _ _ _ _ _ _ _ hH;have hlt2:=@aZ.lt kX _ _ _ _ _ _ _ _ _ _ _ _ _ hH;have hlo:=@aZ.lo kX _ _ _ _ _ _ _ _ _ _ _ _ _ hH;refine @aZ.mk K _ _ _ _ _ _ _ _ _ _ _ _ _ hb1 he1 hc1 (fun i hi=>?_) ((hold g qo).trans htb) (htag _ _ qo hte) (htag _ _ qo htc) (fun b hb=>?_) hlo hk (fun b hb=>⟨if_pos hb,fun e=>?_⟩)
 ·rcases hu1 i hi with h|⟨h1,h2⟩
  ·exact .inl h
  ·exact .inr ⟨h1,htag _ _ qo h2⟩
 ·by_cases hF:K.default.F b
  ·exact(hf b hF).2
  ·rw[if_neg hF]at hb
   exact hlt2 b hb
 ·have:=h0 b hb
  rw[e]at this;omega
theorem aZ.free (K:Inhabited bQ){T:TypeId}{mk:Value→Value→Array Value}{B g:Nat}{tg:Nat→Nat}{ev cl:Value}{n q:Nat}{E:List Int}{U:Nat→Value}{C:Nat→List Int}{w:World}(h:@aZ K T mk B g tg ev cl n q E U C w):@aZ kX T mk B g tg ev cl n q E U C w:=
 @aZ.mk kX _ _ _ _ _ _ _ _ _ _ _ _ _ (@aZ.b K _ _ _ _ _ _ _ _ _ _ _ _ _ h) (@aZ.e K _ _ _ _ _ _ _ _ _ _ _ _ _ h) (@aZ.c K _ _ _ _ _ _ _ _ _ _ _ _ _ h) (@aZ.u K _ _ _ _ _ _ _ _ _ _ _ _ _ h) (@aZ.tb K _ _ _ _ _ _ _ _ _ _ _ _ _ h) (@aZ.te K _ _ _ _ _ _ _ _ _ _ _ _ _ h) (@aZ.tc K _ _ _ _ _ _ _ _ _ _ _ _ _ h) (@aZ.lt K _ _ _ _ _ _ _ _ _ _ _ _ _ h) (@aZ.lo K _ _ _ _ _ _ _ _ _ _ _ _ _ h) trivial (fun _ hb=>hb.elim)
theorem dO.free (K:Inhabited bQ){T:TypeId}{mk:Value→Value→Array Value}{B g q:Nat}{E:List Int}{C:Nat→List Int}{w:World}(h:@dO K T mk B g q E C w):@dO kX T mk B g q E C w∧K.default.P w:=by
 obtain⟨tg,ev,cl,n,U,H⟩:=h;exact⟨⟨tg,ev,cl,n,U,aZ.free K H⟩,@aZ.k K _ _ _ _ _ _ _ _ _ _ _ _ _ H⟩
end Go.Proofs.YtimlpmbabbbcaaaGreat
namespace Go.Proofs.YtimlpmbabbbcaaaGreat
open Go.RowKit
theorem OG {P:Program}{o:Oper}{cond:Bool}{a:Act}{K:Act→World→Prop}{Q:Exit→Act→World→Prop}{E:Prop}(W:World)(hcond:cond=true)(s x:Operand)(t:TypeId)
 (ho:o.op=.call {callee:=.builtin .append,args:=#[s,x],argTypes:=#[t,t]})
 (base:Nat) (e:TypeId) (i:TypeInfo) (z:Value) (size bytes:Nat) (ht:P.underlying t=some (.slice e)) (hi:P.info? e=some i) (hz:i.zero=some z)
 (hsize:i.size=size) (hby:i.bytes=bytes) (hzs:z.cells.size=size) (hsz:0<size)
 (v:Value) (n:Nat) (xs:List Value) (hs:a.eval s=v) (hown:W.ownsRow base e size v n xs)
 (A2:OA) (m c:Nat) (f:Nat→Value) (hx:a.eval x=.slice A2 m c) (hrd:Rd W A2 (m*size) f) (h1:∀j,(f j).oneCell'=true)
 (h63:n+m≤maxLen) (hbytes:(n+m)*bytes≤140737488355328) (hbase:base≤W.heap.size)
 (h:∀v' w',w'.ownsRow base e size v' (n+m) (xs++(List.range (m*size)).map f)→Fr W w' (fun b=>v.ownBlock=some b)→K (a.put o.dst v') w'):
 if cond=true then Oper.wp P o a W K Q else E:=by
 rw[if_pos hcond]
 rcases A2 with _|ad
 ·have hm:m=0:=by
   rcases Nat.eq_zero_or_pos m with h0|h0
   ·exact h0
   ·obtain⟨g,o',e,_⟩:=hrd (Nat.mul_pos h0 hsz)
    cases e
  subst hm;have hr:=nY (P:=P) W base t o.type e i size ht hi v n xs hown c;unfold Oper.wp execOp
  simp only[ho,resolve,invoke,builtin,Sem.run_bind,Sem.run_pure,Result.andThen_ok,List.map_toArray,List.map_cons,List.map_nil,hs,hx,hr]
  exact h _ _ (by simpa using hown) (Fr.refl _ _)
 ·refine wp_append_own W s x t ho base e i z size bytes ht hi hz hsize hby hzs hsz v n xs hs hown ad m c ((List.range (m*size)).map f) hx qj (fun j u hu=>?_) (fun u hu=>?_) h63 hbytes hbase ?_
  ·obtain⟨hj,rfl⟩:j<m*size∧f j=u:=by
    by_cases hj:j<m*size
    ·simp[hj]at hu;exact⟨hj,hu⟩
    ·rw[List.getElem?_eq_none (by simpa using hj)]at hu;cases hu
   obtain⟨g,o',e,_,hr⟩:=hrd qo;injection e with e;subst e;rw[Addr.add_lit];exact hr j hj
  ·obtain⟨j,_,rfl⟩:=List.mem_map.1 hu
   exact h1 j
  ·intro v' w' h2 h3 _
   exact h v' w' h2 ⟨h3.os,h3.tape,h3.output,h3.size,fun b hb hne=>h3.block b hb (fun e=>hne e.symm)⟩
theorem OF {P:Program}{o:Oper}{cond:Bool}{a:Act}{K:Act→World→Prop}{Q:Exit→Act→World→Prop}{E:Prop}(W:World)(hcond:cond=true)(s x:Operand)(t:TypeId)
 (ho:o.op=.call {callee:=.builtin .append,args:=#[s,x],argTypes:=#[t,t]})
 (base:Nat) (e:TypeId) (i:TypeInfo) (z:Value) (size bytes:Nat) (ht:P.underlying t=some (.slice e)) (hi:P.info? e=some i) (hz:i.zero=some z)
 (hsize:i.size=size) (hby:i.bytes=bytes) (hzs:z.cells.size=size) (hsz:0<size)
 (v:Value) (n:Nat) (xs:List Value) (hs:a.eval s=v) (hown:W.ownsRow base e size v n xs)
 (g2 o2 m c:Nat) (f:Nat→Value) (hx:a.eval x=.slice (some ⟨g2,o2,none⟩) m c) (hrd:d7 W g2 o2 (m*size) f) (h1:∀j,(f j).oneCell'=true)
 (h63:n+m≤maxLen) (hbytes:(n+m)*bytes≤140737488355328) (hbase:base≤W.heap.size)
 (h:∀v' w',w'.ownsRow base e size v' (n+m) (xs++(List.range (m*size)).map f)→Fr W w' (fun b=>v.ownBlock=some b)→(v'.ownBlock=v.ownBlock∨v'.ownBlock=some W.heap.size)→K (a.put o.dst v') w'):
 if cond=true then Oper.wp P o a W K Q else E:=by
 rw[if_pos hcond];obtain⟨v',w',hr,h2,h3,_,h5⟩:=run_append_own_at (P:=P) W base t o.type e i z size bytes ht hi hz hsize hby hzs hsz v n xs hown ⟨g2,o2,none⟩ m c ((List.range (m*size)).map f) qj (by
  intro j u hu;obtain⟨hj,rfl⟩:j<m*size∧f j=u:=by
   by_cases hj:j<m*size
   ·simp[hj]at hu;exact⟨hj,hu⟩
   ·rw[List.getElem?_eq_none (by simpa using hj)]at hu;cases hu
  rw[Addr.add_lit];exact hrd j hj) (fun u hu=>by obtain⟨j,_,rfl⟩:=List.mem_map.1 hu;exact h1 j) h63 hbytes hbase
 unfold Oper.wp execOp
 simp only[ho,resolve,invoke,builtin,Sem.run_bind,Sem.run_pure,Result.andThen_ok,List.map_toArray,List.map_cons,List.map_nil,hs,hx,hr]
 exact h v' w' h2 ⟨h3.os,h3.tape,h3.output,h3.size,fun b hb hne=>h3.block b hb (fun e=>hne e.symm)⟩ h5
end Go.Proofs.YtimlpmbabbbcaaaGreat
