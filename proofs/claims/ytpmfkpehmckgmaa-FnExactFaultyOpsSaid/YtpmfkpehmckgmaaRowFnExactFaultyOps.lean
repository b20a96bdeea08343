/- For every width, all operations and every fault: the program's FaultyOps returns what the reference's returns, in new memory, and leaves its arguments alone. No condition. -/
import Derived.Test.YtpmfkpehmckgmaaFaultyOpsLaw
import Derived.Test.YtpmfkpehmckgmaaOpenOps
import Derived.Test.YtpmfkpehmckgmaaRowWords
namespace Go.Proofs.Ytpmfkpehmckgmaa.FnExactFaultyOps
open Go.ChangeShapes Go.WideShapes Go.ChangeAt Go.RowKit Go.Deep Go.Joins

set_option maxRecDepth 100000 in
theorem lifted (os : Os) (started : os.Started) (H : Type) (enc : TypeId × Value → H) :
    ReturnsInHanded {} Try.checked os 9 .any (Rows.fnExactFaultyOpsSpec.pre6 enc Try.prog Try.f9 Rows.fnExactFaultyOpsRow.domain false) (Rows.fnExactFaultyOpsSpec.post enc Try.prog Try.f9 false true false false) := by
  refine returnsInHanded_of_change (C := Try.checked) own started (by kernel_rfl) Try.func9
    (ChangeSpec.witness6 (enc := enc) (C := Try.checked) false ⟨#[], #[.int .i64 0, .slice none 0 0, .agg #[.int .i64 0, .int .i64 0]], []⟩ 8 (by kernel_rfl) (by kernel_rfl) (by kernel_rfl) (by kernel_rfl)) ?_
  intro W base args ds gs before hval0 hW hcnd _
  have hval : ∀ (j : Nat) t v, Try.f9.params[j]? = some t → args[j]? = some v → Value.okWide Try.prog W .any base t v := hval0
  have hW' := hW
  obtain ⟨p, q, hA0, hV, rfl, hfz, hnd⟩ := hW
  have hA : DataW.TrodAll enc Try.prog W 0 (fun _ => true) true Try.f9.params.toList args.toList ds p := hA0
  rw [Try.params9] at hA hval
  obtain ⟨v0, vs0, d0, ds0, p0, q0, hargs, rfl, rfl, h0, r0⟩ := trodAll_cons hA
  obtain ⟨v1, vs1, d1, ds1, p1, q1, rfl, rfl, rfl, h1, r1⟩ := trodAll_cons r0
  obtain ⟨v2, vs2, d2, ds2, p2, q2, rfl, rfl, rfl, h2, r2⟩ := trodAll_cons r1
  obtain ⟨rfl, rfl, rfl⟩ := trodAll_nil r2
  obtain rfl : args = #[v0, v1, v2] := by cases args; simp_all
  obtain ⟨rfl, rfl⟩ := trodVars_none hV
  obtain ⟨W0, rfl, rfl, rfl, w_W0⟩ := open_int Try.underlying2 (hval 0 2 v0 rfl rfl) h0
  obtain ⟨Ax, nx, cx, zx, ex, rdx, nmx⟩ := open_ops Try.underlying22 Try.underlying62 (by kernel_rfl) (by kernel_rfl) (by kernel_rfl) Try.underlying2 Try.underlying2 rfl rfl Try.underlying2 Try.underlying2 Try.underlying60 (by kernel_rfl) Try.underlying2 Try.underlying2 (hval 1 22 v1 rfl rfl) h1
  subst ex
  obtain ⟨c0f, c1f, y0f, y1f, mf, rfl, rfl, rfl, hy0f, hy1f⟩ := open_agg2' Try.underlying49 (by kernel_rfl) (by kernel_rfl) (hval 2 49 v2 rfl rfl) h2
  obtain ⟨kf, e0f, _, w0f⟩ := DataW.trod_int Try.underlying2 hy0f
  obtain ⟨af, e1f, _, w1f⟩ := DataW.trod_int Try.underlying2 hy1f
  simp at e0f e1f
  subst e0f e1f
  clear hA0 hval0
  refine (lawFaultyOps_walk W0 Ax nx cx zx kf af W rdx nmx).mono fun e W' ⟨he, hb⟩ => ?_
  subst he
  exact post_law laidOut rfl rfl rfl Try.underlying4 (by rw [Try.params9]; simp only [List.mem_cons, List.not_mem_nil, or_false, forall_eq_or_imp, forall_eq]; exact ⟨⟨by kernel_rfl, of_decide_eq_true (by kernel_rfl)⟩, ⟨by kernel_rfl, of_decide_eq_true (by kernel_rfl)⟩, ⟨by kernel_rfl, of_decide_eq_true (by kernel_rfl)⟩⟩) hW' hb

theorem holds : Rows.FnExactFaultyOpsSaid :=
  OpenClaim.holds_of_wide 9 Try.f9 rfl rfl rfl rfl rfl rfl rfl ⟨rfl, rfl, rfl, rfl, rfl⟩ rfl rfl rfl rfl rfl (by kernel_rfl) Try.func9 (by kernel_rfl)
    (of_decide_eq_true (by kernel_rfl)) (by unfold Func.isWrapper; first | (rw [if_pos (by decide +kernel)]; kernel_rfl) | (rw [if_neg (by decide +kernel)]; exact ⟨rfl, rfl⟩))
    (fun os started H enc _ => lifted os started H enc)
end Go.Proofs.Ytpmfkpehmckgmaa.FnExactFaultyOps
