/- Walks and plain lemmas. -/
import Derived.Test.YtmnbgjnipbpiaaaGreatDoorP04
import Derived.Test.YtmnbgjnipbpiaaaGreatDoorP07
set_option linter.unusedVariables false
set_option linter.unusedSimpArgs false
set_option maxRecDepth 20000
namespace Go.Proofs.YtmnbgjnipbpiaaaGreatDoor
open Go.RowKit
theorem info64:(Tryz.prog.info? 2).map (fun i=>(i.zero,i.size,i.bytes))=some (some (.int .i64 0),1,8):=by kernel_rfl
theorem kI (m:Nat)(hm:m≤1000000):∃cs:Array Value,cs.size=m∧(∀j,j<m→cs[j]?=some (.int .i64 0))∧∀w:World,(Instr.makeSlice 57 (.int .i64 (m:Int)) (.int .i64 (m:Int))).run Tryz.prog w=.ok (.slice (some ⟨w.heap.size,0,none⟩) m m) (w.alloc (.cells cs 2)):=by
 obtain⟨i0,hi,iz,is,ib⟩:=info_parts info64;refine⟨madeCells (Value.int .i64 0).cells m,size_madeCells _ _,fun j hj=>?_,fun w=>?_⟩
 ·simp[madeCells,hj,Value.cells,Nat.mod_one]
 ·have h:=run_makeSlice (P:=Tryz.prog) w 57 2 i0 (.int .i64 0) Tryz.underlying57 hi iz .i64 .i64 m m qo (Int.le_refl _) (by rw[is];simp;omega) (by rw[ib];omega) qo
  rw[is]at h
  simpa using h
end Go.Proofs.YtmnbgjnipbpiaaaGreatDoor
