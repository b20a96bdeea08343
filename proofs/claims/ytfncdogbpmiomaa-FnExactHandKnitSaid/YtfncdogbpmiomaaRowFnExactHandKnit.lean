/- For every chart: the program's HandKnit returns what the reference's returns, in new memory, and leaves its argument alone. No condition. -/
import Derived.Test.YtfncdogbpmiomaaHandKnitLaw
import Derived.Test.YtfncdogbpmiomaaOpenStudio
import Derived.Test.YtfncdogbpmiomaaRowWords
namespace Go.Proofs.Ytfncdogbpmiomaa.FnExactHandKnit
open Go.ChangeShapes Go.WideShapes Go.ChangeAt Go.RowKit Go.Deep Go.Joins

set_option maxRecDepth 100000 in
theorem lifted (os : Os) (started : os.Started) (H : Type) (enc : TypeId × Value → H) :
    ReturnsInHanded {} Try.checked os 3 .any (Rows.fnExactHandKnitSpec.pre6 enc Try.prog Try.f3 Rows.fnExactHandKnitRow.domain false) (Rows.fnExactHandKnitSpec.post enc Try.prog Try.f3 false true false false) := by
  refine returnsInHanded_of_change (C := Try.checked) own started (by kernel_rfl) Try.func3
    (ChangeSpec.witness6 (enc := enc) (C := Try.checked) false ⟨#[], #[.agg #[.int .i64 0, .slice none 0 0]], []⟩ 8 (by kernel_rfl) (by kernel_rfl) (by kernel_rfl) (by kernel_rfl)) ?_
  intro W base args ds gs before hval0 hW hcnd _
  have hval : ∀ (j : Nat) t v, Try.f3.params[j]? = some t → args[j]? = some v → Value.okWide Try.prog W .any base t v := hval0
  have hW' := hW
  obtain ⟨p, q, hA0, hV, rfl, hfz, hnd⟩ := hW
  have hA : DataW.TrodAll enc Try.prog W 0 (fun _ => true) true Try.f3.params.toList args.toList ds p := hA0
  rw [Try.params3] at hA hval
  obtain ⟨v0, vs0, d0, ds0, p0, q0, hargs, rfl, rfl, h0, r0⟩ := trodAll_cons hA
  obtain ⟨rfl, rfl, rfl⟩ := trodAll_nil r0
  obtain rfl : args = #[v0] := by cases args; simp_all
  obtain ⟨rfl, rfl⟩ := trodVars_none hV
  obtain ⟨c0x, c1x, y0x, y1x, kx, rfl, rfl, rfl, hy0x, hy1x⟩ := open_agg2' Try.underlying24 (by kernel_rfl) (by kernel_rfl) (hval 0 24 v0 rfl rfl) h0
  obtain ⟨xx, e0x, _, w0x⟩ := DataW.trod_int Try.underlying2 hy0x
  obtain ⟨Ax, nx, qx, dx, cx, Asx, nsx, csx, zx, e1x, rax, nmx, nsmx⟩ := open_rows_rd Try.underlying22 Try.underlying145 (by kernel_rfl) (by kernel_rfl) Try.underlying2 Try.underlying2 Try.underlying41 Try.underlying2 (by kernel_rfl) hy1x
  simp at e0x
  subst e0x e1x
  clear hA0 hval0
  refine (lawHandKnit_walk xx Ax nx qx dx cx Asx nsx csx zx W rax nmx nsmx).mono fun e W' ⟨he, hb⟩ => ?_
  subst he
  exact post_law laidOut rfl rfl rfl Try.underlying4 (by rw [Try.params3]; simp only [List.mem_cons, List.not_mem_nil, or_false, forall_eq]; exact ⟨by kernel_rfl, of_decide_eq_true (by kernel_rfl)⟩) hW' hb

theorem holds : Rows.FnExactHandKnitSaid :=
  OpenClaim.holds_of_wide 3 Try.f3 rfl rfl rfl rfl rfl rfl rfl ⟨rfl, rfl, rfl, rfl, rfl⟩ rfl rfl rfl rfl rfl (by kernel_rfl) Try.func3 (by kernel_rfl)
    (of_decide_eq_true (by kernel_rfl)) (by unfold Func.isWrapper; first | (rw [if_pos (by decide +kernel)]; kernel_rfl) | (rw [if_neg (by decide +kernel)]; exact ⟨rfl, rfl⟩))
    (fun os started H enc _ => lifted os started H enc)
end Go.Proofs.Ytfncdogbpmiomaa.FnExactHandKnit
