/- Walks: equality of states, by the reference and by the program. No condition but the bounds. (Printed by wip/samestudiogen.py.) -/
import Derived.Test.YtjegoffdkmbibaaSameStudiosF
import Derived.Test.YtjegoffdkmbibaaSameStudiosTF
import Derived.Test.YtjegoffdkmbibaaSameStudiosTT
import Derived.RegionTactic
import Derived.Deep.RegionWith
import Derived.Deep.RegionHeld3
import Derived.Deep.RegionLaw
namespace Go.Proofs.Ytjegoffdkmbibaa
open Go.RowKit
set_option maxRecDepth 100000
attribute [local go_sem ↓] Go.wp_at_zero Go.wp_at_succ


theorem implSameStudio_any (x1 s1 : Int) (A1 O1 B1 : Option Addr) (n1 q1 m1 p1 l1 t1 : Nat) (d1 c1 : Nat → Int) (As1 : Nat → Option Addr) (ns1 cs1 : Nat → Nat) (z1 : Nat → Nat → Int) (o1 b1 : Nat → Int) (x2 s2 : Int) (A2 O2 B2 : Option Addr) (n2 q2 m2 p2 l2 t2 : Nat) (d2 c2 : Nat → Int) (As2 : Nat → Option Addr) (ns2 cs2 : Nat → Nat) (z2 : Nat → Nat → Int) (o2 b2 : Nat → Int) (w : World) (hA1 : RdRows A1 n1 d1 c1 As1 ns1 cs1 z1 w) (hO1 : Rd w O1 (m1 * 8) (fun j => .int .i64 (o1 j))) (hB1 : Rd w B1 l1 (fun j => .int .i64 (b1 j))) (hA2 : RdRows A2 n2 d2 c2 As2 ns2 cs2 z2 w) (hO2 : Rd w O2 (m2 * 8) (fun j => .int .i64 (o2 j))) (hB2 : Rd w B2 l2 (fun j => .int .i64 (b2 j))) (hn1 : n1 ≤ 1048576) (hns1 : ∀ j, j < n1 → ns1 j ≤ 1048576) (hm1 : m1 ≤ 1048576) (hl1 : l1 ≤ 1048576) (hn2 : n2 ≤ 1048576) (hns2 : ∀ j, j < n2 → ns2 j ≤ 1048576) (hm2 : m2 ≤ 1048576) (hl2 : l2 ≤ 1048576) :
    Calls Try.prog 46 #[.agg #[.int .i64 x1, .slice A1 n1 q1, .slice O1 m1 p1, .int .i64 s1, .slice B1 l1 t1], .agg #[.int .i64 x2, .slice A2 n2 q2, .slice O2 m2 p2, .int .i64 s2, .slice B2 l2 t2]] w (SameP w ((decide (x1 = x2) && eqLR n1 d1 c1 ns1 z1 n2 d2 c2 ns2 z2) && (eqL8 m1 o1 m2 o2) && (decide (s1 = s2) && eqL l1 b1 l2 b2))) := by
  cases hv1 : (decide (x1 = x2) && eqLR n1 d1 c1 ns1 z1 n2 d2 c2 ns2 z2)
  · have h := implSameStudioF x1 s1 A1 O1 B1 n1 q1 m1 p1 l1 t1 d1 c1 As1 ns1 cs1 z1 o1 b1 x2 s2 A2 O2 B2 n2 q2 m2 p2 l2 t2 d2 c2 As2 ns2 cs2 z2 o2 b2 w hA1 hO1 hB1 hA2 hO2 hB2 hn1 hns1 hm1 hl1 hn2 hns2 hm2 hl2 hv1
    rw [hv1] at h
    exact h
  · cases hv2 : (eqL8 m1 o1 m2 o2)
    · have h := implSameStudioTF x1 s1 A1 O1 B1 n1 q1 m1 p1 l1 t1 d1 c1 As1 ns1 cs1 z1 o1 b1 x2 s2 A2 O2 B2 n2 q2 m2 p2 l2 t2 d2 c2 As2 ns2 cs2 z2 o2 b2 w hA1 hO1 hB1 hA2 hO2 hB2 hn1 hns1 hm1 hl1 hn2 hns2 hm2 hl2 hv1 hv2
      rw [hv1, hv2] at h
      exact h
    · have h := implSameStudioTT x1 s1 A1 O1 B1 n1 q1 m1 p1 l1 t1 d1 c1 As1 ns1 cs1 z1 o1 b1 x2 s2 A2 O2 B2 n2 q2 m2 p2 l2 t2 d2 c2 As2 ns2 cs2 z2 o2 b2 w hA1 hO1 hB1 hA2 hO2 hB2 hn1 hns1 hm1 hl1 hn2 hns2 hm2 hl2 hv1 hv2
      rw [hv1, hv2] at h
      exact h
end Go.Proofs.Ytjegoffdkmbibaa
