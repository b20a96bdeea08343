/- Walks and plain lemmas. -/
import Derived.Test.YtimlpmbabbbcaaaGreatP00
set_option linter.unusedVariables false
set_option linter.unusedSimpArgs false
namespace Go.Proofs.YtimlpmbabbbcaaaGreat
open Go.RowKit
theorem cH (n lo hi:Int)(w:World):
 Calls Tryz.prog 47 #[.int .i64 n,.int .i64 lo,.int .i64 hi] w fun e w'=>e=.returned (.bool (aJ n lo hi))∧w=w':=by
 go_enter Tryz.func47,Tryz.ntmps47
 go_wp2
 all_goals go_ret
 all_goals exact⟨by simp[aJ];omega,rfl⟩
theorem bX (n lo hi:Int)(w:World):
 Calls Tryz.prog 58 #[.int .i64 n,.int .i64 lo,.int .i64 hi] w fun e w'=>e=.returned (.bool (aJ n lo hi))∧w=w':=by
 go_enter Tryz.func58,Tryz.ntmps58
 go_wp2
 all_goals go_ret
 all_goals exact⟨by simp[aJ];omega,rfl⟩
theorem iU (n:Int)(w:World):
 Calls Tryz.prog 97 #[.int .i64 n] w fun e w'=>e=.returned (.bool (aJ n 1 4))∧w=w':=by
 go_enter Tryz.func97,Tryz.ntmps97
 go_wp2_with ((go_at_call 58;refine(bX _ _ _ _).mono ?_;rintro e w' ⟨rfl,rfl⟩))
 go_ret
 exact⟨rfl,rfl⟩
theorem kV (n:Int)(w:World):
 Calls Tryz.prog 77 #[.int .i64 n] w fun e w'=>e=.returned (.bool (aJ n 1 4))∧w=w':=by
 go_enter Tryz.func77,Tryz.ntmps77
 go_wp2_with ((go_at_call 47;refine(cH _ _ _ _).mono ?_;rintro e w' ⟨rfl,rfl⟩))
 go_ret
 exact⟨rfl,rfl⟩
end Go.Proofs.YtimlpmbabbbcaaaGreat
