/- For all costs: the program's CompareCosts returns what the reference's returns, and leaves its arguments alone. No condition. -/
import Derived.Test.YtmlimefpmldlbaaCompareLaw
import Derived.Test.YtmlimefpmldlbaaRowWords
namespace Go.Proofs.Ytmlimefpmldlbaa.FnExactCompareCosts
open Go.ChangeShapes Go.WideShapes Go.ChangeAt Go.RowKit Go.Deep Go.Joins

set_option maxRecDepth 100000 in
theorem lifted (os : Os) (started : os.Started) (H : Type) (enc : TypeId × Value → H) :
    ReturnsInHanded {} Try.checked os 8 .any (Rows.fnExactCompareCostsSpec.pre6 enc Try.prog Try.f8 Rows.fnExactCompareCostsRow.domain false) (Rows.fnExactCompareCostsSpec.post enc Try.prog Try.f8 false true false false) := by
  refine returnsInHanded_of_change (C := Try.checked) own started (by kernel_rfl) Try.func8
    (ChangeSpec.witness6 (enc := enc) (C := Try.checked) false ⟨#[], #[.agg #[.int .i64 0, .int .i64 0, .int .i64 0, .int .i64 0, .int .i64 0, .slice none 0 0], .agg #[.int .i64 0, .int .i64 0, .int .i64 0, .int .i64 0, .int .i64 0, .slice none 0 0]], []⟩ 8 (by kernel_rfl) (by kernel_rfl) (by kernel_rfl) (by kernel_rfl)) ?_
  intro W base args ds gs before hval0 hW hcnd _
  have hval : ∀ (j : Nat) t v, Try.f8.params[j]? = some t → args[j]? = some v → Value.okWide Try.prog W .any base t v := hval0
  have hW' := hW
  obtain ⟨p, q, hA0, hV, rfl, hfz, hnd⟩ := hW
  have hA : DataW.TrodAll enc Try.prog W 0 (fun _ => true) true Try.f8.params.toList args.toList ds p := hA0
  rw [Try.params8] at hA hval
  obtain ⟨v0, vs0, d0, ds0, p0, q0, hargs, rfl, rfl, h0, r0⟩ := trodAll_cons hA
  obtain ⟨v1, vs1, d1, ds1, p1, q1, rfl, rfl, rfl, h1, r1⟩ := trodAll_cons r0
  obtain ⟨rfl, rfl, rfl⟩ := trodAll_nil r1
  obtain rfl : args = #[v0, v1] := by cases args; simp_all
  obtain ⟨rfl, rfl⟩ := trodVars_none hV
  obtain ⟨c0xa, c1xa, c2xa, c3xa, c4xa, c5xa, y0xa, y1xa, y2xa, y3xa, y4xa, y5xa, mxa, rfl, rfl, rfl, hy0xa, hy1xa, hy2xa, hy3xa, hy4xa, hy5xa⟩ := open_agg6 Try.underlying48 (by kernel_rfl) (by kernel_rfl) (hval 0 48 v0 rfl rfl) h0
  obtain ⟨oxa, e0xa, _, w0xa⟩ := DataW.trod_int Try.underlying2 hy0xa
  obtain ⟨pxa, e1xa, _, w1xa⟩ := DataW.trod_int Try.underlying2 hy1xa
  obtain ⟨rxa, e2xa, _, w2xa⟩ := DataW.trod_int Try.underlying2 hy2xa
  obtain ⟨kxa, e3xa, _, w3xa⟩ := DataW.trod_int Try.underlying2 hy3xa
  obtain ⟨txa, e4xa, _, w4xa⟩ := DataW.trod_int Try.underlying2 hy4xa
  obtain ⟨Axa, nxa, qxa, zxa, e5xa, rdxa, nmxa, _⟩ := open_ints_rd Try.underlying46 Try.underlying2 (by kernel_rfl) hy5xa
  simp at e0xa e1xa e2xa e3xa e4xa
  subst e0xa e1xa e2xa e3xa e4xa e5xa
  obtain ⟨c0xb, c1xb, c2xb, c3xb, c4xb, c5xb, y0xb, y1xb, y2xb, y3xb, y4xb, y5xb, mxb, rfl, rfl, rfl, hy0xb, hy1xb, hy2xb, hy3xb, hy4xb, hy5xb⟩ := open_agg6 Try.underlying48 (by kernel_rfl) (by kernel_rfl) (hval 1 48 v1 rfl rfl) h1
  obtain ⟨oxb, e0xb, _, w0xb⟩ := DataW.trod_int Try.underlying2 hy0xb
  obtain ⟨pxb, e1xb, _, w1xb⟩ := DataW.trod_int Try.underlying2 hy1xb
  obtain ⟨rxb, e2xb, _, w2xb⟩ := DataW.trod_int Try.underlying2 hy2xb
  obtain ⟨kxb, e3xb, _, w3xb⟩ := DataW.trod_int Try.underlying2 hy3xb
  obtain ⟨txb, e4xb, _, w4xb⟩ := DataW.trod_int Try.underlying2 hy4xb
  obtain ⟨Axb, nxb, qxb, zxb, e5xb, rdxb, nmxb, _⟩ := open_ints_rd Try.underlying46 Try.underlying2 (by kernel_rfl) hy5xb
  simp at e0xb e1xb e2xb e3xb e4xb
  subst e0xb e1xb e2xb e3xb e4xb e5xb
  clear hA0 hval0
  refine (lawCompareCosts_walk oxa pxa rxa kxa txa oxb pxb rxb kxb txb Axa Axb nxa nxb qxa qxb zxa zxb W rdxa rdxb nmxa nmxb).mono fun e W' ⟨he, hb⟩ => ?_
  subst he
  exact post_law laidOut rfl rfl rfl Try.underlying4 (by rw [Try.params8]; simp only [List.mem_cons, List.not_mem_nil, or_false, forall_eq_or_imp, forall_eq]; exact ⟨⟨by kernel_rfl, of_decide_eq_true (by kernel_rfl)⟩, ⟨by kernel_rfl, of_decide_eq_true (by kernel_rfl)⟩⟩) hW' hb

theorem holds : Rows.FnExactCompareCostsSaid :=
  OpenClaim.holds_of_wide 8 Try.f8 rfl rfl rfl rfl rfl rfl rfl ⟨rfl, rfl, rfl, rfl, rfl⟩ rfl rfl rfl rfl rfl (by kernel_rfl) Try.func8 (by kernel_rfl)
    (of_decide_eq_true (by kernel_rfl)) (by unfold Func.isWrapper; first | (rw [if_pos (by decide +kernel)]; kernel_rfl) | (rw [if_neg (by decide +kernel)]; exact ⟨rfl, rfl⟩))
    (fun os started H enc _ => lifted os started H enc)
end Go.Proofs.Ytmlimefpmldlbaa.FnExactCompareCosts
