/- For every state: the program's ValidStudio answers what the reference's answers. No condition. -/
import Derived.Test.YtpgmkkepbnonmaaValidStudioLaw
import Derived.Test.YtpgmkkepbnonmaaOpenStudio
import Derived.Test.YtpgmkkepbnonmaaRowWords
namespace Go.Proofs.Ytpgmkkepbnonmaa.FnExactValidStudio
open Go.ChangeShapes Go.WideShapes Go.ChangeAt Go.RowKit Go.Deep Go.Joins

set_option maxRecDepth 100000 in
theorem lifted (os : Os) (started : os.Started) (H : Type) (enc : TypeId × Value → H) :
    ReturnsInHanded {} Try.checked os 7 .any (Rows.fnExactValidStudioSpec.pre6 enc Try.prog Try.f7 Rows.fnExactValidStudioRow.domain false) (Rows.fnExactValidStudioSpec.post enc Try.prog Try.f7 false true false false) := by
  refine returnsInHanded_of_change (C := Try.checked) own started (by kernel_rfl) Try.func7
    (ChangeSpec.witness6 (enc := enc) (C := Try.checked) false ⟨#[], #[.agg #[.int .i64 0, .slice none 0 0, .slice none 0 0, .int .i64 0, .slice none 0 0]], []⟩ 8 (by kernel_rfl) (by kernel_rfl) (by kernel_rfl) (by kernel_rfl)) ?_
  intro W base args ds gs before hval0 hW hcnd _
  have hval : ∀ (j : Nat) t v, Try.f7.params[j]? = some t → args[j]? = some v → Value.okWide Try.prog W .any base t v := hval0
  have hW' := hW
  obtain ⟨p, q, hA0, hV, rfl, hfz, hnd⟩ := hW
  have hA : DataW.TrodAll enc Try.prog W 0 (fun _ => true) true Try.f7.params.toList args.toList ds p := hA0
  rw [Try.params7] at hA hval
  obtain ⟨v0, vs0, d0, ds0, p0, q0, hargs, rfl, rfl, h0, r0⟩ := trodAll_cons hA
  obtain ⟨rfl, rfl, rfl⟩ := trodAll_nil r0
  obtain rfl : args = #[v0] := by cases args; simp_all
  obtain ⟨rfl, rfl⟩ := trodVars_none hV
  obtain ⟨v0a, v1a, v2a, v3a, v4a, y0a, y1a, y2a, y3a, ka, rfl, hy0a, hy1a, hy2a, hy3a⟩ := open_studio Try.underlying66 (by kernel_rfl) (by kernel_rfl) (by kernel_rfl) (hval 0 66 v0 rfl rfl) h0
  obtain ⟨xa, e0a, _, w0a⟩ := DataW.trod_int Try.underlying2 hy0a
  obtain ⟨Aa, na, qa, da, ca, Asa, nsa, csa, za, e1a, raa, nma, nsma⟩ := open_rows_rd Try.underlying34 Try.underlying157 (by kernel_rfl) (by kernel_rfl) Try.underlying2 Try.underlying2 Try.underlying49 Try.underlying2 (by kernel_rfl) hy1a
  obtain ⟨Oa, ma, pa, oa, e2a, roa, mma⟩ := open_ops_rd Try.underlying62 Try.underlying196 (by kernel_rfl) (by kernel_rfl) (by kernel_rfl) Try.underlying2 Try.underlying2 rfl rfl Try.underlying2 Try.underlying2 Try.underlying194 (by kernel_rfl) Try.underlying2 Try.underlying2 hy2a
  obtain ⟨sa, Ba, la, ta, ba, e3a, e4a, rba, lma⟩ := open_braid Try.underlying64 (by kernel_rfl) Try.underlying2 Try.underlying49 Try.underlying2 (by kernel_rfl) hy3a
  simp at e0a
  subst e0a e1a e2a e3a e4a
  clear hA0 hval0
  refine (lawValidStudio_walk xa sa Aa Oa Ba na qa ma pa la ta da ca Asa nsa csa za oa ba W ⟨raa, roa, rba⟩ nma nsma mma lma).mono fun e W' ⟨he, hb⟩ => ?_
  subst he
  exact post_law laidOut rfl rfl rfl Try.underlying4 (by rw [Try.params7]; simp only [List.mem_cons, List.not_mem_nil, or_false, forall_eq]; exact ⟨by kernel_rfl, of_decide_eq_true (by kernel_rfl)⟩) hW' hb

theorem holds : Rows.FnExactValidStudioSaid :=
  OpenClaim.holds_of_wide 7 Try.f7 rfl rfl rfl rfl rfl rfl rfl ⟨rfl, rfl, rfl, rfl, rfl⟩ rfl rfl rfl rfl rfl (by kernel_rfl) Try.func7 (by kernel_rfl)
    (of_decide_eq_true (by kernel_rfl)) (by unfold Func.isWrapper; first | (rw [if_pos (by decide +kernel)]; kernel_rfl) | (rw [if_neg (by decide +kernel)]; exact ⟨rfl, rfl⟩))
    (fun os started H enc _ => lifted os started H enc)
end Go.Proofs.Ytpgmkkepbnonmaa.FnExactValidStudio
