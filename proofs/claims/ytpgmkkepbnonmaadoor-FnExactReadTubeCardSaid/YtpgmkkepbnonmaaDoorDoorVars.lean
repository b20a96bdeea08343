/- Plain lemmas: what is known of the library's variables (strconv's table, its two errors, bytealg's length) where a text is read. -/
import Derived.Test.YtpgmkkepbnonmaaDoorDecI
namespace Go.Proofs.YtpgmkkepbnonmaaDoor
open Go.RowKit

/-- A variable that holds an error. -/
def ErrIs (w : World) (x : String) : Prop := ∃ tp p, w.var? Tryd.prog x = some #[.iface tp p]
theorem gES : Tryd.prog.globalNamed "strconv.ErrSyntax" = some 1 := by kernel_rfl
theorem gER : Tryd.prog.globalNamed "strconv.ErrRange" = some 2 := by kernel_rfl
theorem errIs_loc {x : String} {g : Nat} (hg : Tryd.prog.globalNamed x = some g) : Loc (fun w => ErrIs w x) (fun b => b = g) := by
  refine ⟨fun w w' h hF => ?_, fun w b h hb => ?_⟩
  · have hb := hF _ rfl
    obtain ⟨tp, p, h⟩ := h
    refine ⟨tp, p, ?_⟩
    unfold World.var? at *
    rw [hg] at *
    simpa [hb] using h
  · subst hb
    obtain ⟨tp, p, h⟩ := h
    exact World.block_lt_of_cell? w ⟨_, 0, none⟩ (by have h0 := World.var?_cell hg h 0; simpa using h0)
/-- bytealg's greatest length: some number. -/
def MaxL (w : World) : Prop := ∃ m : Int, w.cell? ⟨0, 0, none⟩ = some (.int .i64 m)
theorem maxL_loc : Loc MaxL (fun b => b = 0) := by
  refine ⟨fun w w' ⟨m, h⟩ hF => ⟨m, (World.cell?_of_block (w := w) (a := ⟨_, 0, none⟩) (hF _ rfl)).trans h⟩, fun w b ⟨m, h⟩ hb => ?_⟩
  subst hb
  exact World.block_lt_of_cell? w _ h
/-- All that is known of the library's variables. -/
def Door (w : World) : Prop := Tab w ∧ ErrIs w "strconv.ErrSyntax" ∧ ErrIs w "strconv.ErrRange" ∧ MaxL w
def FDoor (b : Nat) : Prop := b = 3 ∨ b = 1 ∨ b = 2 ∨ b = 0
theorem door_loc : Loc Door FDoor := by
  refine ⟨fun w w' h hF => ⟨tab_loc.1 w w' h.1 fun b hb => hF b (.inl hb), (errIs_loc gES).1 w w' h.2.1 fun b hb => hF b (.inr (.inl hb)), (errIs_loc gER).1 w w' h.2.2.1 fun b hb => hF b (.inr (.inr (.inl hb))), maxL_loc.1 w w' h.2.2.2 fun b hb => hF b (.inr (.inr (.inr hb)))⟩, fun w b h hb => ?_⟩
  rcases hb with hb | hb | hb | hb
  · exact tab_loc.2 w b h.1 hb
  · exact (errIs_loc gES).2 w b h.2.1 hb
  · exact (errIs_loc gER).2 w b h.2.2.1 hb
  · exact maxL_loc.2 w b h.2.2.2 hb
theorem Door.below {w w' : World} (h : Door w) (hb : Below w.heap.size w w') : Door w' := door_loc.below h hb
end Go.Proofs.YtpgmkkepbnonmaaDoor
