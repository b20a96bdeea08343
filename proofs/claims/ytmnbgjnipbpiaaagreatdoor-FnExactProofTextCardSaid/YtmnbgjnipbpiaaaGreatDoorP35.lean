/- Walks and plain lemmas. -/
import Derived.Test.YtmnbgjnipbpiaaaGreatDoorP33
import Derived.Test.YtmnbgjnipbpiaaaGreatDoorP32
import Derived.Test.YtmnbgjnipbpiaaaGreatDoorP34
import Derived.Test.YtmnbgjnipbpiaaaGreatDoorCards
import Derived.Test.YtmnbgjnipbpiaaaGreatDoorTie
import Derived.Deep.DeepHandedRow
import Derived.Stop.LaidErr
import Derived.Lib.TrailingZeros
set_option linter.unusedVariables false
set_option linter.unusedSimpArgs false
set_option maxHeartbeats 8000000
set_option maxRecDepth 20000
namespace Go.Proofs.YtmnbgjnipbpiaaaGreatDoor
open Go.RowKit
attribute [local go_sem ↓] Go.wp_at_zero Go.wp_at_succ
def eO (w:World):Prop:=∃m:Int,w.cell? ⟨1,0,none⟩=some (.int .i64 m)
theorem pC:Loc eO (fun b=>b=1):=by
 refine⟨fun w w' ⟨m,h⟩ hF=>⟨m,(World.cell?_of_block (w:=w) (a:=⟨_,0,none⟩) (hF _ rfl)).trans h⟩,fun w b ⟨m,h⟩ hb=>?_⟩;subst hb;exact World.block_lt_of_cell? w _ h
theorem eO.below {w w':World}(h:eO w)(hb:Below w.heap.size w w'):eO w':=pC.below h hb
theorem rP (L:List Int):(⟨(Lib.replaceAll (d6 (fun j=>L.getD j 0) L.length).data.toList (⟨#[32]⟩:ByteArray).data.toList (⟨#[44]⟩:ByteArray).data.toList).toArray⟩:ByteArray)=BA (cD L):=by
 show BA (Lib.replaceAll _ [32] [44])=_;rw[jJ,rJ]
theorem kQ {L:List Int}(h:L.length≤12∧∀x∈L,0≤x∧x≤12):∀j,j<L.length→nF (L.getD j 0):=fun j hj=>by
 have:=h.2 (L.getD j 0) (by rw[show L.getD j 0=L[j]by simp[List.getD,hj]];exact List.getElem_mem _);exact⟨by omega,by omega⟩
theorem p8 (L:List Int)(w:World)(h:L.length≤12∧∀x∈L,0≤x∧x≤12)(hm:eO w):
 Calls Tryz.prog 63 #[.string (d6 (fun j=>L.getD j 0) L.length),.string ⟨#[32]⟩,.string ⟨#[44]⟩] w (jA w (cD L)):=by
 obtain⟨m,hm⟩:=hm;have h1:=nE (fun j=>L.getD j 0) L.length (kQ h);have h2:=Lib.countB_mul_le (⟨#[32]⟩:ByteArray) (Nat.le_refl 1) _ (d6 (fun j=>L.getD j 0) L.length) ql;have h3:(⟨#[32]⟩:ByteArray).size=1:=rfl;have h4:(⟨#[44]⟩:ByteArray).size=1:=rfl;rw[h3,Nat.mul_one]at h2;refine(Tryz.strings_ReplaceAll (d6 (fun j=>L.getD j 0) L.length) ⟨#[32]⟩ ⟨#[44]⟩ m w qo hm (Nat.le_refl 1) (by rw[h4,Nat.mul_one];omega)).mono ?_;rintro e w' ⟨rfl,hb⟩;exact⟨by rw[rP],hb⟩
def fP (f:aF)(j:Nat):List ByteArray:=[BA [102,111,114,109],dec f.1,dec f.2.1]++(f.2.2.take j).map fun L=>BA (cD L)
theorem pR {f:aF}{j:Nat}{L:List Int}(h:f.2.2[j]?=some L):fP f (j+1)=fP f j++[BA (cD L)]:=by
 have hj:=List.getElem?_eq_some_iff.1 h;rw[fP,fP,List.take_succ_eq_append_getElem hj.1,hj.2]
 simp
theorem rD {f:aF}{j:Nat}(h:j≤f.2.2.length):(fP f j).length=3+j:=by
 simp[fP]
 omega
theorem oA (g:List Int→List UInt8):∀Ls:List (List Int),Lib.joinTail [32] (Ls.map g)=(Ls.map fun L=>[32]++g L).flatten
 |[]=>rfl
 |L::Ls=>by
  have e:Lib.joinTail [32] ((L::Ls).map g)=[32]++g L++Lib.joinTail [32] (Ls.map g):=by simp[Lib.joinTail]
  rw[e,oA g Ls]
  simp
theorem pS (f:aF):Lib.join ((fP f f.2.2.length).map (·.data.toList)) [32]=bR f:=by
 have e:(f.2.2.map fun L=>BA (cD L)).map (·.data.toList)=f.2.2.map cD:=by
  rw[List.map_map];exact List.map_congr_left fun L _=>aN _
 rw[fP,List.take_length,List.map_append,e];show Lib.join ((BA [102,111,114,109]).data.toList::((dec f.1).data.toList::(dec f.2.1).data.toList::f.2.2.map cD)) [32]=_;rw[Lib.join_cons,bR,gN,cZ,←oA]
 simp[Lib.joinTail,aN,aV]
theorem m9 {f:aF}(h:qD f):(bR f).length≤30046:=by
 obtain⟨f1,f2,f3,f4⟩:=h;have h3:=mA f4;have h4:=m8 f1 f2
 simp only[bR,List.length_append]
 omega
theorem kP (f:aF)(Af:OA)(cf:Nat)(w:World)(hr:bD true w Af f.2.2)(hg:qD f)(ht:Tab w)(hm:eO w):
 Calls Tryz.prog 29 #[.agg #[.int .i64 f.1,.int .i64 f.2.1,.slice Af f.2.2.length cf]] w (jA w (bR f)):=by
 obtain⟨i0,hi,iz,is,ib⟩:=info_parts iG;have HG:=qh hg;have HJ:=qh (pS f);have y6:=qh (fun j=>@pR f j);have qP:=qh (fun j=>@rD f j);have HW0:=qh (show fP f 0=[BA [102,111,114,109],dec f.1,dec f.2.1]from rfl);have tE:=qh (m9 hg);obtain⟨fs,fp,fl⟩:=f;have hfn:fl.length≤100:=HG.o.2.2.1;obtain⟨wb,hwb⟩:=qx (w.alloc (.cells #[.int .i64 fs,.int .i64 fp,.slice Af fl.length cf] 54));have cU:=qh (show aJ wb w.heap.size 54 #[.int .i64 fs,.int .i64 fp,.slice Af fl.length cf]by rw[hwb];exact aJ.at_ w _ _ rfl);have HW:=qh (show Below w.heap.size w wb by rw[hwb];exact qb);have HT:=qh (ht.below HW.o);have HM:=qh (hm.below HW.o);have fG:=qh (hr.below HW.o);have h0:wb.cell? ⟨w.heap.size,0,none⟩=some (.int .i64 fs):=cU.o.cell 0;have h1:wb.cell? ⟨w.heap.size,1,none⟩=some (.int .i64 fp):=cU.o.cell 1;have h2:wb.cell? ⟨w.heap.size,2,none⟩=some (.slice Af fl.length cf):=cU.o.cell 2;have hz:=cU.o.lt
 simp only at fG
 clear ht hm hr hg
 go_enter Tryz.func29,Tryz.ntmps29
 go_upto_region 1 with fail
 rw[←hwb];clear hwb
 go_cut [3]from 6 to 28 (fun s wx=>∃v,v=s∧Hq (wx.ownsRow wb.heap.size 9 1 v 3 ([BA [102,111,114,109],dec fs,dec fp].map .string))∧Hq (Below wb.heap.size wb wx))
 case first=>
  go_region_with (first
   |(go_at_call_of 62 (Value.int .i64 fs);refine(aE fs HG.o.1.1 HG.o.1.2 _ (qB HT.o 1)).mono ?_;rintro e w1 ⟨rfl,hb1⟩;have HT1:=qh (Tab.below (qB HT.o 1) hb1);have hz1:w.heap.size<w1.heap.size:=Nat.lt_of_lt_of_le hz hb1.size;have m1:=((aA hb1).1 w.heap.size 1 hz).trans h1;have HB1:=qh hb1;have hs1:wb.heap.size≤w1.heap.size:=hb1.size;clear hb1)
   |(go_at_call_of 62 (Value.int .i64 fp);refine(aE fp HG.o.2.1.1 HG.o.2.1.2 _ HT1.o).mono ?_;rintro e w2 ⟨rfl,hb2⟩;have HB2:=qh hb2;have hs2:w1.heap.size≤w2.heap.size:=hb2.size;clear hb2))
  all_goals
   go_wp2
   go_meet
   refine⟨_,rfl,qh (World.ownsRow_lit (base:=wb.heap.size) (e:=9) (size:=1) _ #[.string (BA [102,111,114,109]),.string (dec fs),.string (dec fp)] 3 (by first|(simp;done)|(simp;omega)|omega) qm rfl),qh (Below.alloc ((((Below.refl _ _).drew).trans (HB1.o)).trans (HB2.o.mono (by first|exact HB1.o.size|omega))) (by first|(simp;done)|(simp;omega)|omega) _)⟩
 case rest=>
  obtain⟨v,hv,HO,HB⟩:=hcut;subst hv;have h2:=a6 HB.o hz h2;rw[←HW0.o]at HO;clear h0 h1 HW0
  go_wp2_with fail
  go_loopw [3,5,16] (fun s _ i wr=>∃j:Nat,j≤fl.length∧i=.int .i64 j∧Hq (wr.ownsRow wb.heap.size 9 1 s (3+j) ((fP (fs,fp,fl) j).map .string))∧Hq (Below wb.heap.size wb wr)) (fun _ _ i _=>fl.length-(intOf i).toNat)
  case atStart=>exact⟨0,Nat.zero_le _,rfl,HO,HB⟩
  case round=>
   clear HO HB;obtain⟨j,hj,rfl,HO,HB⟩:=hrel
   by_cases hjl:j<fl.length
   ·obtain⟨M,hM⟩:=dT (L:=fl) (k:=j) hjl
    obtain⟨gl,ol,Al,cl,rfl,hgl,hlc,hlr,_⟩:=(fG.o.below HB.o).at hM;have l3:=qh (HG.o.2.2.2 M (List.mem_of_getElem? hM));have tF:=qh (y6.o j hM);have l7:=qh hlr;have b3:(0:Int)≤(j:Int):=qo;have b4:(j:Int)<(fl.length:Int):=qo;clear hM hlr
    go_wp2_with (first
     |(go_at_call 64;refine(kW _ _ _ (fun j=>M.getD j 0) _ l7.o (by have:=l3.o.1;omega) (kQ l3.o) (HT.o.below HB.o)).mono ?_;rintro e w2 ⟨rfl,hb2⟩;have HB2:=HB.st hb2;have aL:=qh (own_below HO.o hb2);clear hb2)
     |(go_at_call 63;refine(p8 M _ l3.o (HM.o.below HB2.o)).mono ?_;rintro e w3 ⟨rfl,hb3⟩;have HB3:=HB2.st hb3;have dB:=qh (own_below aL.o hb3);clear hb3)
     |(at_builtin;go_must (refine aC w3 rfl (.tmp 20) (.tmp 24) _ rfl wb.heap.size 9 i0 _ 1 16 Tryz.underlying107 hi iz is ib rfl qo u3 (3+j) _ rfl dB.o _ 1 1 _ rfl rfl (by simp[Value.oneCell']) qm qo HB3.o.size ?_);intro v' w' hown' hb';have xX:=qh hown';have i8:=qh (HB3.o.trans hb');clear hown' hb'))
    go_roundw
    case rel=>exact⟨j+1,by omega,qg,qh (by rw[tF.o,List.map_append];exact xX.o),i8⟩
    case measure=>exact qs
   ·obtain rfl:j=fl.length:=qo
    have bL:=qh (bG wb.heap.size _ (3+fl.length) (fP (fs,fp,fl) fl.length) wr HO.o (qP.o _ ql) qo qo (by rw[HJ.o];have:=tE.o;omega));rw[HJ.o]at bL
    go_wp2_with fail
    refine bL.o.mono ?_;rintro e w9 ⟨rfl,aP⟩;have cO:=HB.st aP;clear aP
    go_wp2_with fail
    go_ret
    exact⟨rfl,HW.o.trans (cO.o.mono HW.o.size)⟩
attribute [local go_sem ↓] Go.wp_at_zero Go.wp_at_succ
def dS (b:Nat)(l:List UInt8)(w:World):Prop:=Lib.IsBuilder 66 5 b b (Lib.byteCells l) w
theorem dS.below {b:Nat}{l:List UInt8}{w w':World}(h:dS b l w)(hb:Below w.heap.size w w'):dS b l w':=by
 have k:∀p,Lib.BuilderAt 66 5 b b p (Lib.byteCells l) w→Lib.BuilderAt 66 5 b b p (Lib.byteCells l) w':=fun p h=>by
  have hlt:=h.lt;obtain⟨h1,v,h2,h3,h4⟩:=h;exact⟨h1,v,(hb.block _ hlt).trans h2,own_below h3 hb,h4⟩
 exact h.imp (k _) (k _)
theorem dS.fresh (w:World):dS w.heap.size [] (w.alloc (.cells #[.pointer none,.slice none 0 0] 66)):=Lib.fresh_isBuilder _ _ w
theorem dS.lt {b:Nat}{l:List UInt8}{w:World}(h:dS b l w):b<w.heap.size:=h.elim (fun h=>h.lt) fun h=>h.lt
theorem iU (b:Nat)(l:List UInt8)(s:ByteArray)(w:World)(h:dS b l w)(hl:l.length+s.size≤140737488355328):
 Calls Tryz.prog 28 #[.pointer (some ⟨b,0,none⟩),.string s] w fun e w'=>(∃v,e=.returned v)∧dS b (l++s.data.toList) w'∧Below b w w':=by
 refine(Any.Builder_WriteString {Tryz.lays156 with} Tryz.Builder_Extra_156 b b (Lib.byteCells l) s w h (by rw[Lib.byteCells_length];exact hl) (Nat.le_of_lt h.lt)).mono ?_;rintro e w' ⟨rfl,h1,h2⟩;exact⟨⟨_,rfl⟩,.inr (by rw[Lib.byteCells_append];exact h1),h2⟩
theorem oS (b:Nat)(l:List UInt8)(w:World)(h:dS b l w):
 Calls Tryz.prog 31 #[.pointer (some ⟨b,0,none⟩)] w fun e w'=>e=.returned (.string (BA l))∧Below b w w':=
 Tryz.Builder_String_any b b l w h (Nat.le_of_lt h.lt)
end Go.Proofs.YtmnbgjnipbpiaaaGreatDoor
namespace Go.Proofs.YtmnbgjnipbpiaaaGreatDoor
open Go.ChangeShapes Go.WideShapes Go.ChangeAt Go.RowKit
abbrev L9:List (String×DataW Unit):=[("math/bits.deBruijn32tab",Rows.laid_math_bits_deBruijn32tab),("math/bits.deBruijn64tab",Rows.laid_math_bits_deBruijn64tab),("internal/strconv.uint64pow10",Rows.laid_internal_strconv_uint64pow10),("unicode/utf8.acceptRanges",Rows.laid_unicode_utf8_acceptRanges),("unicode/utf8.first",Rows.laid_unicode_utf8_first)]
theorem pQ:(Tryz.prog.globals[0]?).map (·.type)=some 178:=by kernel_rfl
def tN (w:World):Prop:=Tab w∧eO w
theorem door {W:World}(h:laidMet Tryz.prog L9 W)(hsh:W.ShapedOpen Tryz.prog):tN W:=
 ⟨Lib.tabIs_of_head sG pQ Tryz.underlying178 Tryz.underlying118 qk qk h.tail.tail,
  cell_of_shapedOpen_int (zero:=#[.int .i64 0]) (t:=3) hsh (of_decide_eq_true qk) qk rfl qk qk Tryz.underlying3⟩
def fM (n:Nat)(vs:List Value)(h:Array Obj):Array Obj:=h.modify n fun o=>match o with
 |.cells _ t frozen=>.cells vs.toArray t frozen
 |o=>o
noncomputable def fN (os:Os):World:=
 {World.holding Tryz.prog os ⟨#[],#[],[]⟩with heap:=fM 2 (Go.Pinned.utf8FirstZ.map fun(z:Nat)=>Value.int .u8 z) (fM 3 [Value.int .u8 128,Value.int .u8 191,Value.int .u8 160,Value.int .u8 191,Value.int .u8 128,Value.int .u8 159,Value.int .u8 144,Value.int .u8 191,Value.int .u8 128,Value.int .u8 143,Value.int .u8 0,Value.int .u8 0,Value.int .u8 0,Value.int .u8 0,Value.int .u8 0,Value.int .u8 0,Value.int .u8 0,Value.int .u8 0,Value.int .u8 0,Value.int .u8 0,Value.int .u8 0,Value.int .u8 0,Value.int .u8 0,Value.int .u8 0,Value.int .u8 0,Value.int .u8 0,Value.int .u8 0,Value.int .u8 0,Value.int .u8 0,Value.int .u8 0,Value.int .u8 0,Value.int .u8 0] (fM 0 (Lib.pow10Tab.map fun z=>Value.int .u64 z) (fM 4 (Lib.deBruijn32tab.map fun(z:Nat)=>Value.int .u8 z) (fM 5 (Lib.deBruijn64tab.map fun(z:Nat)=>Value.int .u8 z) (World.holding Tryz.prog os ⟨#[],#[],[]⟩).heap))))}
theorem pE (os:Os)(args:Array Value):laidMet Tryz.prog L9 ((fN os).forCall (fun _ _=>0) ⟨#[],args,[]⟩).memory:=
 laidMet_of_run' 8 qk qk
end Go.Proofs.YtmnbgjnipbpiaaaGreatDoor
