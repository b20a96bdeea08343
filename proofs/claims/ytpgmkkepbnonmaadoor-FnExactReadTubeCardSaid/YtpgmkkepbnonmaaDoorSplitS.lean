/- Walk: the pieces of a text between the bytes c, by the reference. No condition but the bound. -/
import Derived.Test.YtpgmkkepbnonmaaDoorSplitText
import Derived.Test.YtpgmkkepbnonmaaDoorObj2
import Derived.Test.YtpgmkkepbnonmaaDoorAppR
namespace Go.Proofs.YtpgmkkepbnonmaaDoor
open Go.RowKit
set_option maxRecDepth 20000

theorem infoS : (Tryd.prog.info? 9).map (fun i => (i.zero, i.size, i.bytes)) = some (some (.string ByteArray.empty), 1, 16) := by kernel_rfl
def strs (ls : List ByteArray) : List Value := ls.map Value.string
theorem strs_app (a b : List ByteArray) : strs (a ++ b) = strs a ++ strs b := List.map_append
/-- The pieces up to the byte f, where the next one begins; none of the bytes from f to k - 1 is c. -/
structure SplTo (s : ByteArray) (c : UInt8) (f k : Nat) (ls : List ByteArray) : Prop where
  le : f ≤ k
  ks : k ≤ s.size
  len : ls.length ≤ k
  all : spl c s.data.toList = ls.map (·.data.toList) ++ spl c (s.data.toList.drop f)
  free : noB c ((s.data.toList.drop f).take (k - f))
  sz : ∀ x ∈ ls, x.size ≤ s.size
theorem ex_bytes (s : ByteArray) (a b : Nat) : (s.extract a b).data.toList = (s.data.toList.drop a).take (b - a) := by
  rw [ByteArray.data_extract]
  simp
theorem drop_split (l : List UInt8) (f k : Nat) (hk : k < l.length) (hf : f ≤ k) : l.drop f = (l.drop f).take (k - f) ++ l[k] :: l.drop (k + 1) := by
  have h1 : l.drop f = (l.drop f).take (k - f) ++ (l.drop f).drop (k - f) := (List.take_append_drop _ _).symm
  have h2 : (l.drop f).drop (k - f) = l.drop k := by rw [List.drop_drop, Nat.add_sub_cancel' hf]
  rw [h2, List.drop_eq_getElem_cons hk] at h1
  exact h1
theorem SplTo.start (s : ByteArray) (c : UInt8) : SplTo s c 0 0 [] :=
  ⟨Nat.le_refl _, Nat.zero_le _, Nat.le_refl _, rfl, fun x hx => by simp at hx, fun x hx => by cases hx⟩
theorem SplTo.pass {s : ByteArray} {c : UInt8} {f k : Nat} {ls : List ByteArray} (h : SplTo s c f k ls) (hk : k < s.size) (hc : s[k] ≠ c) : SplTo s c f (k + 1) ls := by
  refine ⟨Nat.le_succ_of_le h.le, hk, Nat.le_succ_of_le h.len, h.all, ?_, h.sz⟩
  have hl : k < s.data.toList.length := by simpa using hk
  have hle := h.le
  have e : k + 1 - f = (k - f) + 1 := by omega
  rw [e, List.take_succ_eq_append_getElem (by rw [List.length_drop]; omega)]
  intro x hx
  rcases List.mem_append.1 hx with hx | hx
  · exact h.free x hx
  · obtain rfl := List.mem_singleton.1 hx
    have hx' : (s.data.toList.drop f)[k - f]'(by rw [List.length_drop]; omega) = s[k] := by
      rw [List.getElem_drop]
      have : f + (k - f) = k := by omega
      simp only [this]
      rfl
    rw [hx']
    exact hc
theorem SplTo.cut {s : ByteArray} {c : UInt8} {f k : Nat} {ls : List ByteArray} (h : SplTo s c f k ls) (hk : k < s.size) (hc : s[k] = c) : SplTo s c (k + 1) (k + 1) (ls ++ [s.extract f k]) := by
  have hl : k < s.data.toList.length := by simpa using hk
  have hd := drop_split s.data.toList f k hl h.le
  have hcl : s.data.toList[k] = c := hc
  refine ⟨Nat.le_refl _, hk, by have := h.len; simp; omega, ?_, fun x hx => by simp at hx, fun x hx => ?_⟩
  · rw [h.all, hd, hcl, spl_cut c _ _ h.free]
    simp [ex_bytes]
  · rcases List.mem_append.1 hx with hx | hx
    · exact h.sz x hx
    · obtain rfl := List.mem_singleton.1 hx
      rw [ByteArray.size_extract]
      omega
theorem SplTo.last {s : ByteArray} {c : UInt8} {f : Nat} {ls : List ByteArray} (h : SplTo s c f s.size ls) : spl c s.data.toList = (ls ++ [s.extract f s.size]).map (·.data.toList) := by
  have hz : s.data.toList.length = s.size := by simp
  have hf := h.free
  rw [List.take_of_length_le (by rw [List.length_drop]; omega)] at hf
  rw [h.all, spl_none c _ hf, List.map_append, List.map_cons, List.map_nil, ex_bytes, List.take_of_length_le (by rw [List.length_drop]; omega)]
/-- The pieces, as a new slice. -/
def SplitP (s : ByteArray) (c : UInt8) (w : World) (e : Ending) (w' : World) : Prop := ∃ A cp, ∃ ls : List ByteArray, e = .returned (.slice A ls.length cp) ∧ New w w' A ls.length (fun j => .string (ls.getD j ByteArray.empty)) ∧ ls.map (·.data.toList) = spl c s.data.toList ∧ (∀ x ∈ ls, x.size ≤ s.size) ∧ ls.length ≤ s.size + 1 ∧ ls.length ≤ cp ∧ cp ≤ maxLen
set_option maxHeartbeats 1000000 in
theorem l01Split_any (s : ByteArray) (c : UInt8) (C : Int) (hC : C = (c.toNat : Int)) (w : World) (hs : s.size ≤ 1048576) : Calls Tryd.prog 11 #[.string s, .int .u8 C] w (SplitP s c w) := by
  obtain ⟨i0, hi, iz, is, ib⟩ := info_parts infoS
  have HC := Lib.hid hC
  clear hC
  go_enter Tryd.func11, Tryd.ntmps11
  go_wp2_with fail
  go_loopw [5, 6, 7] (fun v fv iv wr => ∃ (f k : Nat) (ls : List ByteArray), iv = .int .i64 k ∧ fv = .int .i64 f ∧ wr.ownsRow w.heap.size 9 1 v ls.length (strs ls) ∧ Below w.heap.size w wr ∧ SplTo s c f k ls) (fun _ _ iv _ => s.size - (intOf iv).toNat)
  case atStart => exact ⟨0, 0, [], rfl, rfl, World.ownsRow_made w #[] 0 (Nat.le_refl _) (by unfold maxLen; omega) rfl, by (repeat' first | with_reducible exact Below.refl _ _ | with_reducible refine Below.alloc ?_ ?_ _ | with_reducible refine Below.setCell ?_ ?_ _ | with_reducible refine Below.drew ?_ | with_reducible refine Below.drewN' ?_ _ | with_reducible (refine Below.trans ?_ (Below.mono (by assumption) ?_)) | exact Nat.le_refl _ | (simp; done) | (simp; omega) | omega), SplTo.start s c⟩
  case round =>
    obtain ⟨f, k, ls, rfl, rfl, hown, hb, hS⟩ := hrel
    have HOWN := Lib.hid hown
    have HB := Lib.hid hb
    have HS := Lib.hid hS
    have g1 := hS.le
    have g2 := hS.ks
    have g3 := hS.len
    clear hown hb hS
    by_cases hlt : k < s.size
    · by_cases hc : s[k] = c
      · have HT := Lib.hid (HS.out.cut hlt hc)
        have hc' : ((s[k].toNat : Int) == C) = true := by rw [HC.out, hc]; simp
        clear hc
        go_wp2_with (at_builtin; go_must (refine wpList_app wr rfl (.tmp 20) (.tmp 25) _ rfl w.heap.size 9 i0 _ 1 16 Tryd.underlying33 hi iz is ib rfl (by omega) u5 ls.length (strs ls) rfl HOWN.out _ 1 1 [.string (s.extract f k)] rfl rfl (by simp [Value.oneCell']) (by unfold maxLen; omega) (by omega) HB.out.size ?_); intro v' w' hown' hb'; have HOWN' := Lib.hid hown'; have HB' := Lib.hid (HB.out.trans hb'); clear hown' hb')
        go_roundw
        case rel => exact ⟨k + 1, k + 1, ls ++ [s.extract f k], by go_num, by go_num, by rw [strs_app, List.length_append]; exact HOWN'.out, HB'.out, HT.out⟩
        case measure => simp [intOf] <;> omega
      · have HT := Lib.hid (HS.out.pass hlt hc)
        have hc' : ((s[k].toNat : Int) == C) = false := by
          rw [HC.out]
          simpa using fun e => hc (UInt8.toNat_inj.1 (by omega))
        clear hc
        go_wp2
        go_roundw
        case rel => exact ⟨f, k + 1, ls, by go_num, rfl, HOWN.out, HB.out, HT.out⟩
        case measure => simp [intOf] <;> omega
    · obtain rfl : s.size = k := by omega
      have HL := Lib.hid HS.out.last
      have HZ := Lib.hid HS.out.sz
      go_wp2_with (at_builtin; go_must (refine wpList_app wr rfl (.tmp 29) (.tmp 33) _ rfl w.heap.size 9 i0 _ 1 16 Tryd.underlying33 hi iz is ib rfl (by omega) u5 ls.length (strs ls) rfl HOWN.out _ 1 1 [.string (s.extract f s.size)] rfl rfl (by simp [Value.oneCell']) (by unfold maxLen; omega) (by omega) HB.out.size ?_); intro v' w' hown' hb'; have HOWN' := Lib.hid hown'; have HB' := Lib.hid (HB.out.trans hb'); clear hown' hb')
      go_ret
      obtain ⟨A', c', rfl, hcc, hn⟩ := New.of_own_c HB'.out HOWN'.out
      refine ⟨A', c', ls ++ [s.extract f s.size], by rw [List.length_append]; rfl, ?_, HL.out.symm, fun x hx => ?_, by rw [List.length_append]; simp; omega, by rw [List.length_append]; exact hcc.1, hcc.2⟩
      · rw [Nat.mul_one] at hn
        rw [List.length_append]
        refine hn.congr fun j hj => ?_
        have e : strs ls ++ [Value.string (s.extract f s.size)] = (ls ++ [s.extract f s.size]).map Value.string := by simp [strs]
        rw [e]
        exact getD_map _ _ _ _ (by simpa using hj)
      · rcases List.mem_append.1 hx with hx | hx
        · exact HZ.out x hx
        · obtain rfl := List.mem_singleton.1 hx
          rw [ByteArray.size_extract]
          omega
end Go.Proofs.YtpgmkkepbnonmaaDoor
