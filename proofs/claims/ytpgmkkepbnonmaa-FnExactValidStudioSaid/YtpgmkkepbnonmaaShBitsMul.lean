/- The library's contracts at this dump, in plain declarations (laid by the kit's tools). -/
import Derived.Shelf.Bits.Mul64
import Derived.Test.YtpgmkkepbnonmaaProg
namespace Go.Proofs
open Go.Shelf
def Try.lays212_ren : Go.Shelf.Ren := ⟨fun | 212 => 110 | 263 => 160 | 264 => 161 | n => n, fun | 46 => 163 | 51 => 219 | 146 => 220 | 53 => 222 | 148 => 223 | n => n, fun | n => n⟩
theorem Try.lays212 : Go.Proofs.Lays.n212 Try.prog Try.lays212_ren := {
  mixed := by kernel_rfl
  f212 := Try.func110.trans (congrArg some (by kernel_rfl))
  f263 := Try.func160.trans (congrArg some (by kernel_rfl))
  f264 := Try.func161.trans (congrArg some (by kernel_rfl))
  t46 := Try.underlying163
  a46 := Try.isAgg163
  z46 := Try.sizeOf163
  v46 := Try.zeroValue163
  t51 := Try.underlying219
  a51 := Try.isAgg219
  z51 := Try.sizeOf219
  v51 := Try.zeroValue219
  t53 := Try.underlying222
  a53 := Try.isAgg222
  z53 := Try.sizeOf222
  v53 := Try.zeroValue222
  t146 := Try.underlying220
  a146 := Try.isAgg220
  z146 := Try.sizeOf220
  v146 := Try.zeroValue220
  t148 := Try.underlying223
  a148 := Try.isAgg223
  z148 := Try.sizeOf223
  v148 := Try.zeroValue223 }
open Go.RowKit Go.Lib in
theorem Try.bits_Mul (x y : Nat) (hx : x < 18446744073709551616) (hy : y < 18446744073709551616) (w : World) :
    Calls Try.prog 110 #[.int .u64 x, .int .u64 y] w fun e w' => e = .returned (.tuple #[.int .u64 ((x * y / 18446744073709551616 : Nat) : Int), .int .u64 ((x * y % 18446744073709551616 : Nat) : Int)]) ∧ w' = w := Any.bits_Mul Try.lays212 x y hx hy w
end Go.Proofs
