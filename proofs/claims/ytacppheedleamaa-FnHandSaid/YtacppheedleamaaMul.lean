/- The library's contract of math/bits.Mul, at this dump's number. -/
import Derived.Test.YtacppheedleamaaShBitsMul
namespace Go.Proofs.Ytacppheedleamaa
theorem bitsMul_any (x y : Nat) (hx : x < 18446744073709551616) (hy : y < 18446744073709551616) (w : World) :
    Calls Try.prog 70 #[.int .u64 x, .int .u64 y] w fun e w' => e = .returned (.tuple #[.int .u64 ((x * y / 18446744073709551616 : Nat) : Int), .int .u64 ((x * y % 18446744073709551616 : Nat) : Int)]) ∧ w' = w := Go.Proofs.Try.bits_Mul x y hx hy w
end Go.Proofs.Ytacppheedleamaa
