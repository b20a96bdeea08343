/- Walks and plain lemmas. -/
import Derived.Test.YtdnmhhohcedjbaaGreatQ00
set_option linter.unusedVariables false
set_option linter.unusedSimpArgs false
namespace Go.Proofs.YtdnmhhohcedjbaaGreat
open Go.RowKit
theorem dK (n lo hi:Int)(w:World):
 Calls Tryz.prog 31 #[.int .i64 n,.int .i64 lo,.int .i64 hi] w fun e w'=>e=.returned (.bool (aK n lo hi))∧w=w':=by
 go_enter Tryz.func31,Tryz.ntmps31
 go_wp2
 all_goals go_ret
 all_goals exact⟨by simp[aK];omega,rfl⟩
theorem eB (n lo hi:Int)(w:World):
 Calls Tryz.prog 37 #[.int .i64 n,.int .i64 lo,.int .i64 hi] w fun e w'=>e=.returned (.bool (aK n lo hi))∧w=w':=by
 go_enter Tryz.func37,Tryz.ntmps37
 go_wp2
 all_goals go_ret
 all_goals exact⟨by simp[aK];omega,rfl⟩
theorem jT (n:Int)(w:World):
 Calls Tryz.prog 152 #[.int .i64 n] w fun e w'=>e=.returned (.bool (aK n 1 4))∧w=w':=by
 go_enter Tryz.func152,Tryz.ntmps152
 go_wp2_with ((go_at_call 37;refine(eB _ _ _ _).mono ?_;rintro e w' ⟨rfl,rfl⟩))
 go_ret
 exact⟨rfl,rfl⟩
theorem jJ (n:Int)(w:World):
 Calls Tryz.prog 113 #[.int .i64 n] w fun e w'=>e=.returned (.bool (aK n 1 4))∧w=w':=by
 go_enter Tryz.func113,Tryz.ntmps113
 go_wp2_with ((go_at_call 31;refine(dK _ _ _ _).mono ?_;rintro e w' ⟨rfl,rfl⟩))
 go_ret
 exact⟨rfl,rfl⟩
end Go.Proofs.YtdnmhhohcedjbaaGreat
