/- Walk: the decimal form of a number, by the program (strconv's table as the row lists it). No condition but the bounds and that table. -/
import Derived.Test.YtpgmkkepbnonmaaDoorDec
import Derived.Test.YtpgmkkepbnonmaaDoorShStrconvFormatInt10
import Derived.Lib.SmallJoins
namespace Go.Proofs.YtpgmkkepbnonmaaDoor
open Go.RowKit Go.Joins Go.Sort
set_option maxRecDepth 20000

/-- strconv's table holds the powers of ten. -/
def Tab (w : World) : Prop := Lib.TabIs Tryd.prog w "internal/strconv.uint64pow10" .u64 Lib.pow10Tab
theorem gTab : Tryd.prog.globalNamed "internal/strconv.uint64pow10" = some 3 := by kernel_rfl
theorem Tab.below {w w' : World} (h : Tab w) (hb : Below w.heap.size w w') : Tab w' := by
  exact tab_stays gTab h hb (Nat.le_refl _)
theorem tab_loc : Loc Tab (fun b => b = 3) := by
  refine ⟨fun w w' h hF => ?_, fun w b h hb => ?_⟩
  · have hb := hF _ rfl
    unfold Tab Lib.TabIs World.var? at *
    rw [gTab] at *
    simpa [hb] using h
  · subst hb
    exact World.block_lt_of_cell? w ⟨_, 0, none⟩ (Lib.TabIs.cell h gTab 0 (by decide))
theorem Tab.base {w w' : World} {B : Nat} (h : Tab w) (hb : Below B w w') (hB : w.heap.size ≤ B) : Tab w' := h.below (hb.mono hB)
theorem below_grow (w : World) (k : Nat) (os : Array Obj) : Below w.heap.size w (grow (w.drewN k) os) :=
  ⟨rfl, rfl, rfl, by simp [grow], fun b hb => by
    have hb' : b < w.heap.size := hb
    simp [grow, Array.getElem?_append, hb']⟩
theorem Decimal_any (n : Int) (h0 : -9223372036854775808 ≤ n) (h1 : n ≤ 9223372036854775807) (w : World) (ht : Tab w) :
    Calls Tryd.prog 31 #[.int .i64 n] w fun e w' => e = .returned (.string (dec n)) ∧ Below w.heap.size w w' := by
  have HT := Lib.hid ht
  clear ht
  go_enter Tryd.func31, Tryd.ntmps31
  go_wp2_with fail
  refine (Tryd.strconv_FormatInt_10 n h0 h1 _ HT.out).mono ?_
  rintro e w1 ⟨rfl, k, os, rfl⟩
  go_wp2
  go_ret
  exact ⟨rfl, below_grow w k os⟩
end Go.Proofs.YtpgmkkepbnonmaaDoor
