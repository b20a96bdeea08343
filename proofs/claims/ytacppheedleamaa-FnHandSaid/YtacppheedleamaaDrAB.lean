/- The drawn numbers behind a text's end: within 2^40 + 1 steps one of them is even. Walks: the source of drawn numbers. No condition but the bounds. Walks: one in some, one of some numbers, drawn. No condition but the bounds. -/
import Derived.Test.YtacppheedleamaaBounds
import Derived.Test.YtacppheedleamaaObj2
import Derived.Test.YtacppheedleamaaLst
import Derived.Laws.Bits64b
namespace Go.Proofs.Ytacppheedleamaa.Lcg
def itr (f : Nat → Nat) : Nat → Nat → Nat
  | 0, s => s
  | n + 1, s => itr f n (f s)
theorem itr_succ (f : Nat → Nat) (n s : Nat) : itr f (n + 1) s = itr f n (f s) := rfl
theorem itr_zero (f : Nat → Nat) (s : Nat) : itr f 0 s = s := rfl
theorem itr_add (f : Nat → Nat) (m n s : Nat) : itr f (m + n) s = itr f n (itr f m s) := by
  induction m generalizing s with
  | zero => rw [Nat.zero_add, itr_zero]
  | succ m ih => rw [Nat.add_right_comm, itr_succ, itr_succ]; exact ih (f s)
theorem step (p u v s t M : Nat) (h : t % M = (s * (1 + p * (4 * u)) + p * (2 * v + 1)) % M) :
    (t * (1 + p * (4 * u)) + p * (2 * v + 1)) % M = (s * (1 + p * 2 * (4 * (u + p * (2 * u * u)))) + p * 2 * (2 * (v + p * u * (2 * v + 1)) + 1)) % M := by
  rw [Nat.add_mod, Nat.mul_mod, h, ← Nat.mul_mod, ← Nat.add_mod]
  refine congrArg (· % M) ?_
  grind
/-- 2^k steps at once. -/
theorem itr_pow (f : Nat → Nat) (M u0 v0 : Nat) (hf : ∀ s, f s % M = (s * (1 + 4 * u0) + (2 * v0 + 1)) % M) (k : Nat) :
    ∃ u v, ∀ s, itr f (2 ^ k) s % M = (s * (1 + 2 ^ k * (4 * u)) + 2 ^ k * (2 * v + 1)) % M := by
  induction k with
  | zero => exact ⟨u0, v0, fun s => by rw [Nat.pow_zero, Nat.one_mul, Nat.one_mul, itr_succ f 0 s, itr_zero]; exact hf s⟩
  | succ k ih =>
    obtain ⟨u, v, h⟩ := ih
    refine ⟨u + 2 ^ k * (2 * u * u), v + 2 ^ k * u * (2 * v + 1), fun s => ?_⟩
    rw [Nat.pow_succ, show 2 ^ k * 2 = 2 ^ k + 2 ^ k from Nat.mul_two _, itr_add, h, step _ _ _ _ _ _ (h s), Nat.mul_two]
/-- Half the period of bit q: it turns. -/
theorem flips (f : Nat → Nat) (M u0 v0 q : Nat) (hf : ∀ s, f s % M = (s * (1 + 4 * u0) + (2 * v0 + 1)) % M) (hM : 2 ^ q * 2 ∣ M) (s : Nat) :
    (itr f (2 ^ q) s / 2 ^ q) % 2 ≠ (s / 2 ^ q) % 2 := by
  obtain ⟨u, v, e⟩ := itr_pow f M u0 v0 hf q
  have e := congrArg (· % (2 ^ q * 2)) (e s)
  simp only [Nat.mod_mod_of_dvd _ hM] at e
  have hp : 0 < 2 ^ q := Nat.two_pow_pos q
  revert e hp
  generalize 2 ^ q = p
  intro e hp
  have h2 : s * (1 + p * (4 * u)) + p * (2 * v + 1) = (s + p) + p * 2 * (2 * (s * u) + v) := by grind
  rw [h2, Nat.add_mul_mod_self_left] at e
  revert e
  generalize itr f p s = t
  intro e h
  have hd (x : Nat) : x / p % 2 = x % (p * 2) / p := by rw [Nat.mod_mul_right_div_self]
  rw [hd t, e, ← hd, Nat.add_div_right _ hp] at h
  omega
/-- What a draw behind the end of a text does with its seed. -/
def nx (s : Nat) : Nat := (s * 6364136223846793005 + 1442695040888963407) % 18446744073709551616
theorem nx_flip (s : Nat) : (itr nx (2 ^ 40) s / 2 ^ 40) % 2 ≠ (s / 2 ^ 40) % 2 :=
  flips nx 18446744073709551616 1591034055961698251 721347520444481703 40 (fun s => by unfold nx; rw [Nat.mod_mod]) (by decide) s
/-- Within 2^40 + 1 steps a byte is even. -/
theorem even_soon (s : Nat) : ∃ n, n ≤ 2 ^ 40 ∧ (itr nx (n + 1) s / 2 ^ 40 % 256) % 2 = 0 := by
  have h := nx_flip (nx s)
  have hd (x : Nat) : x / 2 ^ 40 % 256 % 2 = x / 2 ^ 40 % 2 := Nat.mod_mod_of_dvd _ (by decide)
  by_cases h0 : (nx s / 2 ^ 40) % 2 = 0
  · refine ⟨0, Nat.zero_le _, ?_⟩
    rw [hd, itr_succ, itr_zero]; exact h0
  · refine ⟨2 ^ 40, Nat.le_refl _, ?_⟩
    rw [hd, itr_succ]
    revert h h0; generalize itr nx (2 ^ 40) (nx s) / 2 ^ 40 = a; generalize nx s / 2 ^ 40 = b; intro h h0; omega
/-- The byte that is drawn m + 1 steps behind this seed is even. -/
def ev (m s : Nat) : Prop := (itr nx (m + 1) s / 2 ^ 40 % 256) % 2 = 0
theorem even_soon' (s : Nat) : ∃ m, m ≤ 1099511627776 ∧ ev m s := by
  obtain ⟨m, h1, h2⟩ := even_soon s
  exact ⟨m, Nat.le_trans h1 (by decide), h2⟩
/-- So many draws at most, until an even byte is drawn (n: the text's length, i: drawn so far). -/
def Mt (n i s m : Nat) : Prop := (i < n ∧ m = n - i + 1099511627776) ∨ (n ≤ i ∧ m ≤ 1099511627776 ∧ ev m s)
theorem Mt_any (n i s : Nat) (hn : n ≤ 1048576) : ∃ m, m ≤ 1099512676352 ∧ Mt n i s m := by
  by_cases h : i < n
  · exact ⟨n - i + 1099511627776, by omega, .inl ⟨h, rfl⟩⟩
  · obtain ⟨m, h1, h2⟩ := even_soon' s
    exact ⟨m, by omega, .inr ⟨by omega, h1, h2⟩⟩
theorem Mt_step {n i s m y u : Nat} (h : Mt n i s m) (hx : n ≤ i → y = nx s ∧ u = y / 2 ^ 40 % 256) (hu : u % 2 = 1) : ∃ m', m' < m ∧ Mt n (i + 1) y m' := by
  rcases h with ⟨h1, rfl⟩ | ⟨h1, h2, h3⟩
  · by_cases h4 : i + 1 < n
    · exact ⟨n - (i + 1) + 1099511627776, by omega, .inl ⟨h4, rfl⟩⟩
    · obtain ⟨m, h5, h6⟩ := even_soon' y
      exact ⟨m, by omega, .inr ⟨by omega, h5, h6⟩⟩
  · rw [(hx h1).2, (hx h1).1] at hu
    rw [(hx h1).1]
    by_cases h0 : m = 0
    · rw [h0] at h3
      unfold ev at h3
      rw [itr_succ, itr_zero] at h3
      rw [h3] at hu
      exact absurd hu Nat.zero_ne_one
    · obtain ⟨k, hk⟩ : ∃ k, m = k + 1 := ⟨m - 1, by omega⟩
      rw [hk] at h3
      unfold ev at h3
      rw [itr_succ] at h3
      exact ⟨k, by omega, .inr ⟨by omega, by omega, h3⟩⟩
end Go.Proofs.Ytacppheedleamaa.Lcg

namespace Go.Proofs.Ytacppheedleamaa
open Go.RowKit
set_option maxRecDepth 20000

/-- A source of drawn numbers lies in block g: bytes b of length n, i drawn so far, its seed x. -/
structure Src (w : World) (g : Nat) (A : Option Addr) (n c : Nat) (b : Nat → Int) (i x : Nat) : Prop where
  blk : Blk w g 87 #[.slice A n c, .int .i64 i, .int .u64 x]
  x : x < 18446744073709551616
  rd : Rd w A n (fun j => .int .u8 (b j))
  b : ∀ j, j < n → 0 ≤ b j ∧ b j < 256
  lt : ∀ a, 0 < n → A = some a → a.block < g
  n : n ≤ 1048576
theorem seed_wrap (x : Nat) (t : Int) (h : 0 ≤ t) : ∃ y : Nat, (y : Int) = IntKind.u64.wrap (IntKind.u64.wrap (IntKind.u64.wrap ((x : Int) * 6364136223846793005) + t) + 1442695040888963407) ∧ y < 18446744073709551616 := by
  refine ⟨((x * 6364136223846793005 + t.toNat) + 1442695040888963407) % 18446744073709551616, ?_, by omega⟩
  simp only [IntKind.wrap_u64]
  omega
theorem seed_wrap0 (x : Nat) : ∃ y : Nat, (y : Int) = IntKind.u64.wrap (IntKind.u64.wrap (IntKind.u64.wrap ((x : Int) * 6364136223846793005)) + 1442695040888963407) ∧ y < 18446744073709551616 ∧ y = Lcg.nx x := by
  refine ⟨(x * 6364136223846793005 + 1442695040888963407) % 18446744073709551616, ?_, by omega, rfl⟩
  simp only [IntKind.wrap_u64]
  omega
theorem draw_val (y : Nat) (hy : y < 18446744073709551616) : wrap64 (bits BinOp.and IntKind.u64 ((y : Int) / 1099511627776) 255) = ((y / 2 ^ 40 % 256 : Nat) : Int) := by
  rw [show ((y : Int) / 1099511627776) = ((y / 1099511627776 : Nat) : Int) by omega, show (255 : Int) = ((255 : Nat) : Int) from rfl, bits_and_u64_nat _ _ (by omega) (by omega), show y / 1099511627776 &&& 255 = y / 1099511627776 % 256 from Nat.and_two_pow_sub_one_eq_mod _ 8, IntWalk.wrap64_in _ ⟨by omega, by omega⟩]
theorem Src.step {g : Nat} {A : Option Addr} {n c : Nat} {b : Nat → Int} {i x y : Nat} {w w' : World} (h : Src w g A n c b i x) (hy : y < 18446744073709551616) (hb : Blk w' g 87 #[.slice A n c, .int .i64 ((i : Int) + 1), .int .u64 y]) (hf : Fr w w' (fun b => b = g)) : Src w' g A n c b (i + 1) y := by
  refine ⟨hb, hy, fun h0 => ?_, h.b, h.lt, h.n⟩
  obtain ⟨ga, o, rfl, hg, hr⟩ := h.rd h0
  have := h.lt _ h0 rfl
  simp only at this
  exact ⟨ga, o, rfl, Nat.lt_of_lt_of_le hg hf.size, fun j hj => (World.cell?_of_block (w := w) (a := ⟨ga, o + j, none⟩) (hf.block ga hg (by omega))).trans (hr j hj)⟩
theorem src_next (g : Nat) (A : Option Addr) (n c : Nat) (b : Nat → Int) (i x : Nat) (w : World) (h : Src w g A n c b i x) (hi : i < 4611686018427387904) :
    Calls Try.prog 82 #[.pointer (some ⟨g, 0, none⟩)] w fun e w' => ∃ v y : Nat, e = .returned (.int .i64 v) ∧ v < 256 ∧ Src w' g A n c b (i + 1) y ∧ Fr w w' (fun b => b = g) ∧ (n ≤ i → y = Lcg.nx x ∧ v = y / 2 ^ 40 % 256) := by
  have H := Lib.hid h
  have h0 : w.cell? ⟨g, 0, none⟩ = some (.slice A n c) := h.blk.cell 0
  have h1 : w.cell? ⟨g, 1, none⟩ = some (.int .i64 i) := h.blk.cell 1
  have h2 : w.cell? ⟨g, 2, none⟩ = some (.int .u64 x) := h.blk.cell 2
  have hf := fun j => h.blk.frozen j
  have hn := h.n
  have b0 : (0 : Int) ≤ (i : Int) := by omega
  have HF : ∀ (q1 q2 : Nat) (v1 v2 : Value), Fr w ((((w.drewN q1).setCell ⟨g, 1, none⟩ v1).setCell ⟨g, 2, none⟩ v2).drewN q2) (fun b => b = g) := fun q1 q2 v1 v2 => ((((Fr.refl w (fun b => b = g)).then_below (Below.drewN' (Below.refl _ _) q1)).set (p := ⟨g, 1, none⟩) rfl v1).set (p := ⟨g, 2, none⟩) rfl v2).then_below (Below.drewN' (Below.refl _ _) q2)
  have HB : ∀ (q1 q2 : Nat) (v1 v2 : Value), Blk ((((w.drewN q1).setCell ⟨g, 1, none⟩ v1).setCell ⟨g, 2, none⟩ v2).drewN q2) g 87 #[.slice A n c, v1, v2] := fun q1 q2 v1 v2 => (((h.blk.drewN q1).set_ 1 v1).set_ 2 v2).drewN q2
  by_cases hlt : i < n
  · obtain ⟨ga, o, rfl, hg, hr⟩ := h.rd (by omega)
    have hc := hr i hlt
    have hb := h.b i hlt
    have b1 : (i : Int) < (n : Int) := by omega
    have b2 : (i : Int) + 1 ≤ (n : Int) := by omega
    obtain ⟨y, hy⟩ : ∃ y, y = b i := ⟨_, rfl⟩
    simp only [← hy] at hc hb
    obtain ⟨s, hs, hsl⟩ := seed_wrap x y hb.1
    clear h hr hy
    go_enter Try.func82, Try.ntmps82
    go_wp2_with fail
    go_quiet (fail)
    go_wp2_with fail
    go_quiet (fail)
    go_wp2_with fail
    go_quiet (fail)
    go_wp2_with fail
    go_ret
    obtain ⟨v, rfl⟩ := Int.eq_ofNat_of_zero_le hb.1
    refine ⟨v, s, rfl, by omega, H.out.step hsl ?_ (HF _ _ _ _), HF _ _ _ _, fun h => by omega⟩
    rw [hs]
    exact HB _ _ _ _
  · have b1 : ¬ (i : Int) < (n : Int) := by omega
    have b2 : ¬ (i : Int) + 1 ≤ (n : Int) := by omega
    obtain ⟨s, hs, hsl, hsn⟩ := seed_wrap0 x
    clear h
    go_enter Try.func82, Try.ntmps82
    go_wp2_with fail
    go_quiet (fail)
    go_wp2_with fail
    go_quiet (fail)
    go_wp2_with fail
    rw [← hs]
    go_ret
    refine ⟨s / 2 ^ 40 % 256, s, by rw [← draw_val s hsl]; rfl, by omega, H.out.step hsl (HB _ _ _ _) (HF _ _ _ _), HF _ _ _ _, fun h => ⟨hsn, rfl⟩⟩
/-- Some numbers were drawn: at most K. -/
def Drawn (w w' : World) (g : Nat) (A : Option Addr) (n c : Nat) (b : Nat → Int) (i K : Nat) : Prop := ∃ i' y, Src w' g A n c b i' y ∧ i' ≤ i + K ∧ Fr w w' (fun b => b = g)
theorem src_pickS (k : Nat) (h2 : 2 ≤ k) (hk : k ≤ 200) (g : Nat) (A : Option Addr) (n c : Nat) (b : Nat → Int) (i x : Nat) (w : World) (h : Src w g A n c b i x) (hi : i < 4611686018427387904) :
    Calls Try.prog 50 #[.pointer (some ⟨g, 0, none⟩), .int .i64 k] w fun e w' => ∃ u y : Nat, e = .returned (.int .i64 ((u % k : Nat) : Int)) ∧ u < 256 ∧ Src w' g A n c b (i + 1) y ∧ Fr w w' (fun b => b = g) ∧ (n ≤ i → y = Lcg.nx x ∧ u = y / 2 ^ 40 % 256) := by
  have H := Lib.hid h
  have b1 : ¬ (k : Int) ≤ 1 := by omega
  have b2 : ¬ (200 : Int) < (k : Int) := by omega
  have b3 : ¬ (k : Int) = 0 := by omega
  clear h
  go_enter Try.func50, Try.ntmps50
  go_wp2_with fail
  refine (src_next g A n c b i x _ H.out hi).mono ?_
  rintro e w1 ⟨u, y, rfl, hu, hs, hf, hx⟩
  have HS := Lib.hid hs
  have HF := Lib.hid hf
  have HX := Lib.hid hx
  clear hs hf hx
  go_wp2_with fail
  go_ret
  exact ⟨u, y, rfl, hu, HS.out, HF.out, HX.out⟩
theorem src_pick (k : Int) (hk : k ≤ 1099511627776) (g : Nat) (A : Option Addr) (n c : Nat) (b : Nat → Int) (i x : Nat) (w : World) (h : Src w g A n c b i x) (hi : i < 4611686018427387900) :
    Calls Try.prog 50 #[.pointer (some ⟨g, 0, none⟩), .int .i64 k] w fun e w' => ∃ v : Nat, e = .returned (.int .i64 v) ∧ (v = 0 ∨ (v : Int) < k) ∧ Drawn w w' g A n c b i 2 := by
  by_cases h1 : k ≤ 1
  · have H := Lib.hid h
    clear h
    go_enter Try.func50, Try.ntmps50
    go_wp2_with fail
    go_ret
    exact ⟨0, rfl, .inl rfl, i, x, H.out, by omega, Fr.refl _ _⟩
  · obtain ⟨m, rfl⟩ := Int.eq_ofNat_of_zero_le (show 0 ≤ k by omega)
    by_cases h2 : m ≤ 200
    · refine (src_pickS m (by omega) h2 g A n c b i x w h (by omega)).mono ?_
      rintro e w1 ⟨u, y, rfl, hu, hs, hf, _⟩
      exact ⟨u % m, rfl, .inr (by have := Nat.mod_lt u (show 0 < m by omega); show ((u % m : Nat) : Int) < (m : Int); omega), i + 1, y, hs, by omega, hf⟩
    · have H := Lib.hid h
      have b1 : ¬ (m : Int) ≤ 1 := by omega
      have b2 : (200 : Int) < (m : Int) := by omega
      have b3 : ¬ (m : Int) = 0 := by omega
      clear h h1
      go_enter Try.func50, Try.ntmps50
      go_wp2_with fail
      refine (src_next g A n c b i x _ H.out (by omega)).mono ?_
      rintro e w1 ⟨u, y, rfl, hu, hs, hf, _⟩
      have HS := Lib.hid hs
      have HF := Lib.hid hf
      clear hs hf
      go_wp2_with fail
      refine (src_next g A n c b (i + 1) y _ HS.out (by omega)).mono ?_
      rintro e w2 ⟨u2, y2, rfl, hu2, hs2, hf2, _⟩
      have HS2 := Lib.hid hs2
      have HF2 := Lib.hid (HF.out.trans hf2)
      clear hs2 hf2
      go_wp2_with fail
      go_ret
      exact ⟨(u * 256 + u2) % m, rfl, .inr (by have := Nat.mod_lt (u * 256 + u2) (show 0 < m by omega); show (((u * 256 + u2) % m : Nat) : Int) < (m : Int); omega), i + 2, y2, HS2.out, by omega, HF2.out⟩
end Go.Proofs.Ytacppheedleamaa

namespace Go.Proofs.Ytacppheedleamaa
open Go.RowKit
set_option maxRecDepth 20000

theorem Drawn.now {w : World} {g : Nat} {A : Option Addr} {n c : Nat} {b : Nat → Int} {i x : Nat} (h : Src w g A n c b i x) : Drawn w w g A n c b i 0 := ⟨i, x, h, Nat.le_refl _, Fr.refl _ _⟩
theorem Rd.src {w w' : World} {g : Nat} {A : Option Addr} {n : Nat} {f : Nat → Value} (h : Rd w A n f) (hf : Fr w w' (fun b => b = g)) (hA : ∀ a, A = some a → a.block ≠ g) : Rd w' A n f := fun h0 => by
  obtain ⟨ga, o, rfl, hg, hr⟩ := h h0
  have := hA _ rfl
  simp only at this
  exact ⟨ga, o, rfl, Nat.lt_of_lt_of_le hg hf.size, fun j hj => (World.cell?_of_block (w := w) (a := ⟨ga, o + j, none⟩) (hf.block ga hg this)).trans (hr j hj)⟩
theorem Src.below {w w' : World} {g : Nat} {A : Option Addr} {n c : Nat} {b : Nat → Int} {i x : Nat} (h : Src w g A n c b i x) (hb : Below w.heap.size w w') : Src w' g A n c b i x := ⟨h.blk.below hb h.blk.lt, h.x, h.rd.below hb, h.b, h.lt, h.n⟩
theorem Src.base {w w' : World} {B g : Nat} {A : Option Addr} {n c : Nat} {b : Nat → Int} {i x : Nat} (h : Src w g A n c b i x) (hb : Below B w w') (hg : g < B) : Src w' g A n c b i x := by
  refine ⟨h.blk.below hb hg, h.x, fun h0 => ?_, h.b, h.lt, h.n⟩
  obtain ⟨ga, o, rfl, hga, hr⟩ := h.rd h0
  have := h.lt _ h0 rfl
  simp only at this
  exact ⟨ga, o, rfl, Nat.lt_of_lt_of_le hga hb.size, fun j hj => (World.cell?_of_block (w := w) (a := ⟨ga, o + j, none⟩) (hb.block ga (by omega))).trans (hr j hj)⟩
theorem rdI_lit (w : World) (t : TypeId) (L : List Int) (cs : Array Value) (h : cs = (ints L).toArray) : RdI (w.alloc (.cells cs t)) (some ⟨w.heap.size, 0, none⟩) L := fun _ => by
  subst h
  refine ⟨_, _, rfl, by simp, fun j hj => ?_⟩
  rw [Nat.zero_add, cell_of_row _ _ _ _ _ _ (heap_alloc_new w _)]
  simp [ints, List.getD, hj]
theorem src_one (k : Nat) (h2 : 2 ≤ k) (hk : k ≤ 200) (g : Nat) (A : Option Addr) (n c : Nat) (b : Nat → Int) (i x : Nat) (w : World) (h : Src w g A n c b i x) (hi : i < 4611686018427387904) :
    Calls Try.prog 80 #[.pointer (some ⟨g, 0, none⟩), .int .i64 k] w fun e w' => ∃ t : Bool, e = .returned (.bool t) ∧ Drawn w w' g A n c b i 1 := by
  have H := Lib.hid h
  clear h
  go_enter Try.func80, Try.ntmps80
  go_wp2_with fail
  refine (src_pickS k h2 hk g A n c b i x _ H.out hi).mono ?_
  rintro e w1 ⟨u, y, rfl, hu, hs, hf, _⟩
  have HD := Lib.hid (show Drawn w w1 g A n c b i 1 from ⟨i + 1, y, hs, by omega, hf⟩)
  clear hs hf
  go_wp2_with fail
  go_ret
  exact ⟨_, rfl, HD.out⟩
theorem src_among (L : List Int) (A1 : Option Addr) (c1 : Nat) (h2 : 2 ≤ L.length) (hk : L.length ≤ 200) (g : Nat) (A : Option Addr) (n c : Nat) (b : Nat → Int) (i x : Nat) (w : World) (h : Src w g A n c b i x) (hi : i < 4611686018427387904) (hL : RdI w A1 L) (hA : ∀ a, A1 = some a → a.block ≠ g) :
    Calls Try.prog 51 #[.pointer (some ⟨g, 0, none⟩), .slice A1 L.length c1] w fun e w' => ∃ u y : Nat, e = .returned (.int .i64 (L.getD (u % L.length) 0)) ∧ u < 256 ∧ Src w' g A n c b (i + 1) y ∧ Fr w w' (fun b => b = g) ∧ (n ≤ i → y = Lcg.nx x ∧ u = y / 2 ^ 40 % 256) := by
  have H := Lib.hid h
  have HL := Lib.hid hL
  have HA := Lib.hid hA
  clear h hL hA
  go_enter Try.func51, Try.ntmps51
  go_wp2_with fail
  refine (src_pickS L.length h2 hk g A n c b i x _ H.out hi).mono ?_
  rintro e w1 ⟨u, y, rfl, hu, hs, hf, hx⟩
  have HS := Lib.hid hs
  have HF := Lib.hid hf
  have HX := Lib.hid hx
  have htl : u % L.length < L.length := Nat.mod_lt _ (by omega)
  obtain ⟨ga, o, rfl, hg, hr⟩ := (HL.out.src HF.out HA.out) (by omega)
  have hc := hr _ htl
  have b1 : (0 : Int) ≤ (u : Int) % (L.length : Int) := by omega
  have b2 : (u : Int) % (L.length : Int) < (L.length : Int) := by omega
  have b3 : (0 : Int) ≤ ((u % L.length : Nat) : Int) := by omega
  have b4 : ((u % L.length : Nat) : Int) < (L.length : Int) := by omega
  clear hs hf hx hr
  go_wp2_with fail
  go_ret
  exact ⟨u, y, by rw [show L.getD (u % L.length) 0 = L[u % L.length] by simp [List.getD, htl]]; rfl, hu, HS.out, HF.out, HX.out⟩
end Go.Proofs.Ytacppheedleamaa
