/- For every two states: the program's SameStudio answers what the reference's answers. No condition. -/
import Derived.Test.YtjegoffdkmbibaaSameStudioLaw
import Derived.Test.YtjegoffdkmbibaaOpenStudio
import Derived.Test.YtjegoffdkmbibaaRowWords
namespace Go.Proofs.Ytjegoffdkmbibaa.FnExactSameStudio
open Go.ChangeShapes Go.WideShapes Go.ChangeAt Go.RowKit Go.Deep Go.Joins

set_option maxRecDepth 100000 in
theorem lifted (os : Os) (started : os.Started) (H : Type) (enc : TypeId × Value → H) :
    ReturnsInHanded {} Try.checked os 10 .any (Rows.fnExactSameStudioSpec.pre6 enc Try.prog Try.f10 Rows.fnExactSameStudioRow.domain false) (Rows.fnExactSameStudioSpec.post enc Try.prog Try.f10 false true false false) := by
  refine returnsInHanded_of_change (C := Try.checked) own started (by kernel_rfl) Try.func10
    (ChangeSpec.witness6 (enc := enc) (C := Try.checked) false ⟨#[], #[.agg #[.int .i64 0, .slice none 0 0, .slice none 0 0, .int .i64 0, .slice none 0 0], .agg #[.int .i64 0, .slice none 0 0, .slice none 0 0, .int .i64 0, .slice none 0 0]], []⟩ 8 (by kernel_rfl) (by kernel_rfl) (by kernel_rfl) (by kernel_rfl)) ?_
  intro W base args ds gs before hval0 hW hcnd _
  have hval : ∀ (j : Nat) t v, Try.f10.params[j]? = some t → args[j]? = some v → Value.okWide Try.prog W .any base t v := hval0
  have hW' := hW
  obtain ⟨p, q, hA0, hV, rfl, hfz, hnd⟩ := hW
  have hA : DataW.TrodAll enc Try.prog W 0 (fun _ => true) true Try.f10.params.toList args.toList ds p := hA0
  rw [Try.params10] at hA hval
  obtain ⟨v0, vs0, d0, ds0, p0, q0, hargs, rfl, rfl, h0, r0⟩ := trodAll_cons hA
  obtain ⟨v1, vs1, d1, ds1, p1, q1, rfl, rfl, rfl, h1, r1⟩ := trodAll_cons r0
  obtain ⟨rfl, rfl, rfl⟩ := trodAll_nil r1
  obtain rfl : args = #[v0, v1] := by cases args; simp_all
  obtain ⟨rfl, rfl⟩ := trodVars_none hV
  obtain ⟨v0a, v1a, v2a, v3a, v4a, y0a, y1a, y2a, y3a, ka, rfl, hy0a, hy1a, hy2a, hy3a⟩ := open_studio Try.underlying59 (by kernel_rfl) (by kernel_rfl) (by kernel_rfl) (hval 0 59 v0 rfl rfl) h0
  obtain ⟨xa, e0a, _, w0a⟩ := DataW.trod_int Try.underlying2 hy0a
  obtain ⟨Aa, na, qa, da, ca, Asa, nsa, csa, za, e1a, raa, nma, nsma⟩ := open_rows_rd Try.underlying56 Try.underlying113 (by kernel_rfl) (by kernel_rfl) Try.underlying2 Try.underlying2 Try.underlying32 Try.underlying2 (by kernel_rfl) hy1a
  obtain ⟨Oa, ma, pa, oa, e2a, roa, mma⟩ := open_ops_rd Try.underlying57 Try.underlying118 (by kernel_rfl) (by kernel_rfl) (by kernel_rfl) Try.underlying2 Try.underlying2 rfl rfl Try.underlying2 Try.underlying2 Try.underlying116 (by kernel_rfl) Try.underlying2 Try.underlying2 hy2a
  obtain ⟨sa, Ba, la, ta, ba, e3a, e4a, rba, lma⟩ := open_braid Try.underlying46 (by kernel_rfl) Try.underlying2 Try.underlying32 Try.underlying2 (by kernel_rfl) hy3a
  simp at e0a
  subst e0a e1a e2a e3a e4a
  obtain ⟨v0b, v1b, v2b, v3b, v4b, y0b, y1b, y2b, y3b, kb, rfl, hy0b, hy1b, hy2b, hy3b⟩ := open_studio Try.underlying59 (by kernel_rfl) (by kernel_rfl) (by kernel_rfl) (hval 1 59 v1 rfl rfl) h1
  obtain ⟨xb, e0b, _, w0b⟩ := DataW.trod_int Try.underlying2 hy0b
  obtain ⟨Ab, nb, qb, db, cb, Asb, nsb, csb, zb, e1b, rab, nmb, nsmb⟩ := open_rows_rd Try.underlying56 Try.underlying113 (by kernel_rfl) (by kernel_rfl) Try.underlying2 Try.underlying2 Try.underlying32 Try.underlying2 (by kernel_rfl) hy1b
  obtain ⟨Ob, mb, pb, ob, e2b, rob, mmb⟩ := open_ops_rd Try.underlying57 Try.underlying118 (by kernel_rfl) (by kernel_rfl) (by kernel_rfl) Try.underlying2 Try.underlying2 rfl rfl Try.underlying2 Try.underlying2 Try.underlying116 (by kernel_rfl) Try.underlying2 Try.underlying2 hy2b
  obtain ⟨sb, Bb, lb, tb, bb, e3b, e4b, rbb, lmb⟩ := open_braid Try.underlying46 (by kernel_rfl) Try.underlying2 Try.underlying32 Try.underlying2 (by kernel_rfl) hy3b
  simp at e0b
  subst e0b e1b e2b e3b e4b
  clear hA0 hval0
  refine (lawSameStudio_walk xa sa Aa Oa Ba na qa ma pa la ta da ca Asa nsa csa za oa ba xb sb Ab Ob Bb nb qb mb pb lb tb db cb Asb nsb csb zb ob bb W ⟨raa, roa, rba⟩ ⟨rab, rob, rbb⟩ nma nsma mma lma nmb nsmb mmb lmb).mono fun e W' ⟨he, hb⟩ => ?_
  subst he
  exact post_law laidOut rfl rfl rfl Try.underlying4 (by rw [Try.params10]; simp only [List.mem_cons, List.not_mem_nil, or_false, forall_eq_or_imp, forall_eq]; exact ⟨⟨by kernel_rfl, of_decide_eq_true (by kernel_rfl)⟩, ⟨by kernel_rfl, of_decide_eq_true (by kernel_rfl)⟩⟩) hW' hb

theorem holds : Rows.FnExactSameStudioSaid :=
  OpenClaim.holds_of_wide 10 Try.f10 rfl rfl rfl rfl rfl rfl rfl ⟨rfl, rfl, rfl, rfl, rfl⟩ rfl rfl rfl rfl rfl (by kernel_rfl) Try.func10 (by kernel_rfl)
    (of_decide_eq_true (by kernel_rfl)) (by unfold Func.isWrapper; first | (rw [if_pos (by decide +kernel)]; kernel_rfl) | (rw [if_neg (by decide +kernel)]; exact ⟨rfl, rfl⟩))
    (fun os started H enc _ => lifted os started H enc)
end Go.Proofs.Ytjegoffdkmbibaa.FnExactSameStudio
