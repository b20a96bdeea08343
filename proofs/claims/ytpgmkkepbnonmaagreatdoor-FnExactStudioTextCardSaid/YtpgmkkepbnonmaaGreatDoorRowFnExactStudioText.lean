/- For every state: the program's StudioText returns what the reference's returns, and leaves its argument alone. No condition but what the card ties: strconv's and math/bits' tables. -/
import Derived.Test.YtpgmkkepbnonmaaGreatDoorStudioTextLaw
import Derived.Test.YtpgmkkepbnonmaaGreatDoorOpenStudio
import Derived.Test.YtpgmkkepbnonmaaGreatDoorDoorWords
namespace Go.Proofs.YtpgmkkepbnonmaaGreatDoor.FnExactStudioText
open Go.ChangeShapes Go.WideShapes Go.ChangeAt Go.RowKit Go.Deep Go.Joins

set_option maxRecDepth 100000 in
theorem contract (H : Type) (enc : TypeId × Value → H) (W : World) (base : Nat) (args : Array Value) (ds gs : List (DataW H)) (before : List MemPlace)
    (hval0 : ∀ (j : Nat) t v, Tryz.f3.params[j]? = some t → args[j]? = some v → Value.okWide Tryz.prog W .any base t v)
    (hW : DataW.Whole enc Tryz.prog Tryz.f3.params.toList Rows.fnExactStudioTextSpec.vars false W args.toList ds gs before) (hT : Tab W) :
    Calls Tryz.prog 3 args W fun e W' => ∃ v, e = .returned v ∧ Rows.fnExactStudioTextSpec.post enc Tryz.prog Tryz.f3 false true false false W args v W' := by
  have hval : ∀ (j : Nat) t v, Tryz.f3.params[j]? = some t → args[j]? = some v → Value.okWide Tryz.prog W .any base t v := hval0
  have hW' := hW
  obtain ⟨p, q, hA0, hV, rfl, hfz, hnd⟩ := hW
  have hA : DataW.TrodAll enc Tryz.prog W 0 (fun _ => true) true Tryz.f3.params.toList args.toList ds p := hA0
  rw [Tryz.params3] at hA hval
  obtain ⟨v0, vs0, d0, ds0, p0, q0, hargs, rfl, rfl, h0, r0⟩ := trodAll_cons hA
  obtain ⟨rfl, rfl, rfl⟩ := trodAll_nil r0
  obtain rfl : args = #[v0] := by cases args; simp_all
  obtain ⟨rfl, rfl⟩ := trodVars_none hV
  obtain ⟨v0a, v1a, v2a, v3a, v4a, y0a, y1a, y2a, y3a, ka, rfl, hy0a, hy1a, hy2a, hy3a⟩ := open_studio Tryz.underlying28 (by kernel_rfl) (by kernel_rfl) (by kernel_rfl) (hval 0 28 v0 rfl rfl) h0
  obtain ⟨xa, e0a, _, w0a⟩ := DataW.trod_int Tryz.underlying2 hy0a
  obtain ⟨Aa, na, qa, da, ca, Asa, nsa, csa, za, e1a, raa, nma, nsma⟩ := open_rows_rd Tryz.underlying22 Tryz.underlying57 (by kernel_rfl) (by kernel_rfl) Tryz.underlying2 Tryz.underlying2 Tryz.underlying24 Tryz.underlying2 (by kernel_rfl) hy1a
  obtain ⟨Oa, ma, pa, oa, e2a, roa, mma⟩ := open_ops_rd Tryz.underlying23 Tryz.underlying76 (by kernel_rfl) (by kernel_rfl) (by kernel_rfl) Tryz.underlying2 Tryz.underlying2 rfl rfl Tryz.underlying2 Tryz.underlying2 Tryz.underlying74 (by kernel_rfl) Tryz.underlying2 Tryz.underlying2 hy2a
  obtain ⟨sa, Ba, la, ta, ba, e3a, e4a, rba, lma⟩ := open_braid Tryz.underlying26 (by kernel_rfl) Tryz.underlying2 Tryz.underlying24 Tryz.underlying2 (by kernel_rfl) hy3a
  simp at e0a
  subst e0a e1a e2a e3a e4a
  clear hA0 hval0
  refine (lawStudioText_walk xa sa Aa Oa Ba na qa ma pa la ta da ca Asa nsa csa za oa ba W ⟨raa, roa, rba⟩ nma nsma mma lma hT).mono fun e W' ⟨he, hb⟩ => ?_
  subst he
  exact post_law laidOut rfl rfl rfl Tryz.underlying4 (by rw [Tryz.params3]; simp only [List.mem_cons, List.not_mem_nil, or_false, forall_eq]; exact ⟨by kernel_rfl, of_decide_eq_true (by kernel_rfl)⟩) hW' hb

theorem reads (os : Os) {H : Type} (enc : TypeId × Value → H) : ∃ places, DataW.whole enc Tryz.prog ((laidWorld os).forCall (fun _ _ => 0) ⟨#[], #[.agg #[.int .i64 0, .slice none 0 0, .slice none 0 0, .int .i64 0, .slice none 0 0]], []⟩).memory Tryz.f3.params.toList Rows.fnExactStudioTextSpec.vars false (#[.agg #[.int .i64 0, .slice none 0 0, .slice none 0 0, .int .i64 0, .slice none 0 0]] : Array Value).toList 8 = some ([.agg [.lit (.int .i64 0), .nil, .nil, .agg [.lit (.int .i64 0), .nil]]], [], places) :=
  ⟨[], by kernel_rfl⟩

set_option maxRecDepth 100000 in
theorem lifted (os : Os) (started : os.Started) (H : Type) (enc : TypeId × Value → H) (F : Stop.Interp) :
    ReturnsInHanded {} Tryz.checked os 3 .any ((OpenSpec.ofChange Rows.fnExactStudioTextSpec).preRow enc Tryz.prog Tryz.f3 Rows.fnExactStudioTextRow.domain false Rows.fnExactStudioTextRow.laid) (((OpenSpec.ofChange Rows.fnExactStudioTextSpec).at F).post enc Tryz.prog Tryz.f3 false true false false) := by
  obtain ⟨places, hx⟩ := reads os enc
  refine returnsInHanded_of_row (C := Tryz.checked) (s := OpenSpec.ofChange Rows.fnExactStudioTextSpec) own started (by kernel_rfl) Tryz.func3
    (witness_row_at (enc := enc) (C := Tryz.checked) false (laidWorld os) #[.agg #[.int .i64 0, .slice none 0 0, .slice none 0 0, .int .i64 0, .slice none 0 0]] rfl (by kernel_rfl) (by kernel_rfl) (by kernel_rfl)
      (OpenSpec.preRow_of_cond 8 hx (by kernel_rfl) (fun k hk => by cases hk) (by kernel_rfl) (laid_met os _))) ?_
  intro W base args ds gs before hval hW _ _ _ hL _ _
  exact contract H enc W base args ds gs before hval hW (table hL)

theorem said : Rows.FnExactStudioTextSaid :=
  OpenClaim.holds_of_cond 3 Tryz.f3 rfl rfl rfl rfl rfl rfl rfl ⟨rfl, rfl, rfl, rfl, rfl⟩ rfl rfl rfl rfl rfl (by kernel_rfl) Tryz.func3 (by kernel_rfl)
    (of_decide_eq_true (by kernel_rfl)) (by unfold Func.isWrapper; first | (rw [if_pos (by decide +kernel)]; kernel_rfl) | (rw [if_neg (by decide +kernel)]; exact ⟨rfl, rfl⟩))
    (fun os started H enc _ F => by rw [OpenClaim.pre_eq_preRow]; exact lifted os started H enc F)

theorem plain (f : FuncId) (fn : Func) (hf : Tryz.pinned.checked.prog.funcNamed "loop.example/g00856/laws.FnExactStudioText" = some f) (hfn : Tryz.pinned.checked.prog.funcs[f]? = some fn) :
    false = Tryz.pinned.checked.prog.looks [] ∧ ∀ (j : Nat) t, fn.params[j]? = some t → Tryz.pinned.checked.prog.wantsStandIn t = false := by
  obtain rfl : f = 3 := Option.some.inj ((show Tryz.prog.funcNamed "loop.example/g00856/laws.FnExactStudioText" = some 3 by kernel_rfl).symm.trans hf) |>.symm
  obtain rfl : fn = Tryz.f3 := (Option.some.inj (Tryz.func3.symm.trans hfn)).symm
  refine ⟨by kernel_rfl, fun j t ht => ?_⟩
  have hall : (Tryz.f3.params.toList.all fun u => !Tryz.prog.wantsStandIn u) = true := by kernel_rfl
  have hm : t ∈ Tryz.f3.params.toList := by simpa using Array.mem_of_getElem? ht
  exact (show Tryz.prog.wantsStandIn t = false by simpa using List.all_eq_true.1 hall t hm)

theorem holds : Rows.FnExactStudioTextCardSaid :=
  Claim7.holds_tied_plain_at .later [] _ _ _ _ said (fun _ h => by cases h) (by kernel_rfl) (fun _ h => by cases h) fnExactStudioText_row_tie rfl ⟨rfl, rfl⟩ (by kernel_rfl) rfl plain (by kernel_rfl)
end Go.Proofs.YtpgmkkepbnonmaaGreatDoor.FnExactStudioText
