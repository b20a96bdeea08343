/- The walk of the law on pictures: the pictures of a drawn chart have its rows, the back is the front in a mirror with knits and purls exchanged, and a drawn braid is read off its picture. No condition but that the argument is bytes. -/
import Derived.Test.YtacppheedleamaaDrX
import Derived.Deep.QuietTactic
import Derived.IntWalk
set_option linter.unusedVariables false
set_option linter.unusedSimpArgs false
namespace Go.Proofs.Ytacppheedleamaa
open Go.RowKit
set_option maxRecDepth 100000

set_option maxHeartbeats 16000000 in
theorem lawPictures_walk (A : Option Addr) (n c : Nat) (b : Nat → Int) (hn : n ≤ maxLen) (w : World) (ha : Rd w A n (fun j => .int .u8 (b j))) (hb : ∀ j, j < n → 0 ≤ b j ∧ b j < 256) :
    Calls Try.prog 4 #[.slice A n c] w fun e w' => e = .returned (.bool true) ∧ Below w.heap.size w w' := by
  by_cases hlong : 1048576 < n
  · go_enter Try.func4, Try.ntmps4
    go_wp2_with fail
    refine (b10Long_any A n c w).mono ?_
    rintro e w' ⟨rfl, rfl⟩
    rw [decide_eq_true hlong]
    go_wp2_with fail
    go_ret
    exact ⟨rfl, Below.refl _ _⟩
  have HCO := Lib.hid (show Code8 w A n b from ⟨ha, hb, by omega⟩)
  clear ha hb hn
  go_enter Try.func4, Try.ntmps4
  go_wp2_with fail
  refine (b10Long_any A n c w).mono ?_
  rintro e w' ⟨rfl, rfl⟩
  rw [decide_eq_false hlong]
  clear hlong
  go_wp2_with fail
  refine (drawFront_any A n c b w HCO.out).mono ?_
  rintro e w1 ⟨cols, A1, c1, rs, rfl, hl9, hrl, hrd, hb1⟩
  obtain ⟨N, hN⟩ : ∃ N, N = rs.length := ⟨_, rfl⟩
  obtain ⟨d, hd⟩ : ∃ f, f = dF rs := ⟨_, rfl⟩
  obtain ⟨cr, hcr⟩ : ∃ f, f = cF rs := ⟨_, rfl⟩
  obtain ⟨As, hAs⟩ : ∃ f, f = AF rs := ⟨_, rfl⟩
  obtain ⟨ns, hns0⟩ : ∃ f, f = nF rs := ⟨_, rfl⟩
  obtain ⟨cs, hcs⟩ : ∃ f, f = qF rs := ⟨_, rfl⟩
  obtain ⟨z, hz⟩ : ∃ f, f = zF rs := ⟨_, rfl⟩
  have hns : ∀ j, j < N → ns j ≤ 20 := fun j hj => by
    rw [hns0]
    exact hrl _ (getD_mem (show j < rs.length by omega))
  rw [← hN, ← hd, ← hcr, ← hAs, ← hns0, ← hcs, ← hz] at hrd
  rw [← hN] at hl9 ⊢
  clear hN hd hcr hAs hns0 hcs hz hrl
  have HN20 := Lib.hid hns
  have HNS : Hid (∀ j, j < N → ns j ≤ 1048576) := Lib.hid fun j hj => Nat.le_trans (hns j hj) (by decide)
  have hbx := box_new w1 #[.int .i64 cols, .slice A1 N c1] 26
  have hA1 := (Below.refl w1.heap.size w1).alloc (Nat.le_refl _) (.cells #[.int .i64 cols, .slice A1 N c1] 26)
  have HRD := Lib.hid ((rdRows_obj A1 N d cr As ns cs z).below hrd hA1)
  have HB := Lib.hid (hb1.trans (hA1.mono hb1.size))
  have HX := Lib.hid hbx
  clear hrd hb1 hA1 hns hbx
  go_upto_region 4 with fail
  obtain ⟨G, hG⟩ : ∃ G, G = w1.heap.size := ⟨_, rfl⟩
  obtain ⟨w2, hw2⟩ : ∃ x, x = w1.alloc (.cells #[.int .i64 cols, .slice A1 N c1] 26) := ⟨_, rfl⟩
  have hGl : G < w2.heap.size := by rw [hw2, hG]; simp
  rw [← hw2] at HRD HB HX ⊢
  rw [← hG] at HX ⊢
  clear hw2 hG
  have x0 : w2.cell? ⟨G, 0, none⟩ = some (.int .i64 cols) := HX.out 0
  have x1 : w2.cell? ⟨G, 1, none⟩ = some (.slice A1 N c1) := HX.out 1
  obtain ⟨C, hC⟩ : ∃ q, q = fpC cols N d cr ns z := ⟨_, rfl⟩
  obtain ⟨M, hM⟩ : ∃ q, q = fpN cols N d cr ns z := ⟨_, rfl⟩
  have HF := Lib.hid (implFrontPicture_any cols A1 N c1 d cr As ns cs z w2 HRD.out (by omega) HNS.out)
  rw [← hC, ← hM] at HF
  have HC := Lib.hid hC
  have HM := Lib.hid hM
  clear hC hM
  go_wp2_with fail
  refine HF.out.mono ?_
  rintro e w3 ⟨A3, c3, rfl, hn3⟩
  have HB3 := Lib.hid hn3.bl
  have HR3 := Lib.hid hn3.rd
  have x0 := ((bcell HB3.out).1 G 0 hGl).trans (HX.out 0)
  have x1 := ((bcell HB3.out).1 G 1 hGl).trans (HX.out 1)
  have HBk := Lib.hid (implBackPicture_any cols A1 N c1 d cr As ns cs z w3 ((rdRows_obj A1 N d cr As ns cs z).below HRD.out HB3.out) (by omega) HNS.out)
  rw [← HC.out, ← HM.out] at HBk
  simp only [List.getElem?_toArray, List.getElem?_cons_zero, List.getElem?_cons_succ] at x0 x1
  clear hn3 HF
  go_wp2_with fail
  refine HBk.out.mono ?_
  rintro e w4 ⟨A4, c4, rfl, hn4⟩
  have HB4 := Lib.hid hn4.bl
  have HR4 := Lib.hid hn4.rd
  clear hn4 HBk
  have HR34 := Lib.hid (HR3.out.below HB4.out)
  have HB24 := Lib.hid (HB3.out.trans (HB4.out.mono HB3.out.size))
  have HW4 := Lib.hid (HB.out.trans (HB24.out.mono HB.out.size))
  have x0 := ((bcell HB24.out).1 G 0 hGl).trans (HX.out 0)
  have x1 := ((bcell HB24.out).1 G 1 hGl).trans (HX.out 1)
  simp only [List.getElem?_toArray, List.getElem?_cons_zero, List.getElem?_cons_succ] at x0 x1
  have HRD4 := Lib.hid ((rdRows_obj A1 N d cr As ns cs z).below HRD.out HB24.out)
  have hG4 : G < w4.heap.size := Nat.lt_of_lt_of_le hGl HB24.out.size
  clear HB3 HB4 HR3 HB24 HRD HB HX hGl
  go_upto_if 37 with fail
  go_cut [] from 8 to 162 (fun wx => Hid (Below w.heap.size w wx))
  case first =>
    cases hv : chartB cols N d cr ns z
    · have e2 : C = 1 := by rw [HC.out, fpC, if_neg (by rw [hv]; exact Bool.false_ne_true)]
      subst e2
      clear hv
      go_wp2_with fail
      go_meet
      exact HW4
    · have e2 : C = 0 := by rw [HC.out, fpC, if_pos hv]
      have e1 : M = N := by rw [HM.out, fpN, if_pos hv]
      subst e2
      subst e1
      have HV := Lib.hid hv
      have hch := chartB_of hv
      clear hv
      go_wp2_with fail
      refine (specColumnsAfter_any cols A1 M c1 d cr As ns cs z w4 HRD4.out (by omega) HNS.out HV.out).mono ?_
      rintro e w5 ⟨A5, c5, rfl, hr5, hb5⟩
      have HR5 := Lib.hid hr5
      have HB5 := Lib.hid hb5
      have hsz : ∀ j, j < M → (fpT M ns z j).size ≤ 80 := fun j hj => by
        have h1 := fpT_size M ns z j
        have h2 := HN20.out (M - 1 - j) (by omega)
        omega
      have HSZ := Lib.hid hsz
      have HMI := Lib.hid (implMirrorPicture_any A4 M c4 (fun j => bpT M ns z j) w5 (HR4.out.below hb5) (by omega) (fun j hj => by
        have h1 := hsz j hj
        show (bkT (fpT M ns z j)).size ≤ 1048576
        rw [bkT_size]
        omega))
      clear hr5 hb5 hsz
      go_wp2_with fail
      refine HMI.out.mono ?_
      rintro e w6 ⟨A6, c6, rfl, hn6⟩
      have HT6 : Hid (Rd w6 A6 M (fun j => .string (tnT (fpT M ns z j)))) := Lib.hid hn6.rd
      have HR6 := Lib.hid (HR5.out.below hn6.bl)
      have HB46 := Lib.hid (HB5.out.trans (hn6.bl.mono HB5.out.size))
      have HF6 := Lib.hid (HR34.out.below HB46.out)
      have HW6 := Lib.hid (HW4.out.trans (HB46.out.mono HW4.out.size))
      have y1 := ((bcell HB46.out).1 G 1 hG4).trans x1
      clear hn6 HMI HR4 HR5 HB5 HR34 HRD4 HW4 HB46
      obtain ⟨gf, of_, rfl, hgf, hrf⟩ := HF6.out (by omega)
      obtain ⟨ga, oa, rfl, hga, hra⟩ := HR6.out (by omega)
      obtain ⟨gt, ot, rfl, hgt, hrt⟩ := HT6.out (by omega)
      have HRF := Lib.hid hrf
      have HRA := Lib.hid hra
      have HRT := Lib.hid hrt
      clear hrf hra hrt HF6 HR6 HT6
      go_upto_region 14 with fail
      go_loopg [11] M (fun gh i wr => ∃ k : Nat, i = .int .i64 k ∧ gh + k = M ∧ Hid (Below w6.heap.size w6 wr))
      case atStart => exact ⟨0, rfl, rfl, Lib.hid (Below.refl _ _)⟩
      case round =>
        obtain ⟨k, rfl, hgk, HBW⟩ := hrel
        by_cases hlt : k < M
        · have l1 : (k : Int) < (M : Int) := by omega
          have l0 : (0 : Int) ≤ (k : Int) := by omega
          have f0 : wr.cell? ⟨gf, of_ + k, none⟩ = some (.string (fpT M ns z k)) := ((bcell HBW.out).1 _ _ hgf).trans (HRF.out k hlt)
          have a0 : wr.cell? ⟨ga, oa + (M - 1 - k), none⟩ = some (.int .i64 (stN cols.toNat ns z (M - 1 - k + 1) : Int)) := ((bcell HBW.out).1 _ _ hga).trans (HRA.out (M - 1 - k) (by omega))
          have t0 : wr.cell? ⟨gt, ot + k, none⟩ = some (.string (tnT (fpT M ns z k))) := ((bcell HBW.out).1 _ _ hgt).trans (HRT.out k hlt)
          obtain ⟨F, hF⟩ : ∃ F, F = fpT M ns z k := ⟨_, rfl⟩
          rw [← hF] at f0 t0
          have hsN : stN cols.toNat ns z (M - 1 - k + 1) = F.size := by rw [hF, fpT_len]; rfl
          have hF80 : F.size ≤ 80 := by rw [hF]; exact HSZ.out k hlt
          rw [hsN] at a0
          obtain ⟨T, hT⟩ : ∃ T, T = tnT F := ⟨_, rfl⟩
          rw [← hT] at t0
          have hTs : T.size = F.size := by rw [hT, tnT_size]
          have HT := Lib.hid hT
          have HTS := Lib.hid hTs
          clear hsN hT hF
          have hch1 := hch.2.2.1
          have hch2 := hch.2.2.2.1
          have s1 : IntKind.i64.wrap ((M : Int) - 1) = (M : Int) - 1 := IntWalk.i64_in _ (by omega)
          have s2 : IntKind.i64.wrap ((M : Int) - 1 - (k : Int)) = (M : Int) - 1 - (k : Int) := IntWalk.i64_in _ (by omega)
          have s3 : (0 : Int) ≤ (M : Int) - 1 - (k : Int) := by omega
          have s4 : (M : Int) - 1 - (k : Int) < (M : Int) := by omega
          have s5 : ((M : Int) - 1 - (k : Int)).toNat = M - 1 - k := by omega
          go_wp2_with fail
          go_quiet (fail)
          clear s1 s2 s3 s4 s5 hTs
          go_wp2_with fail
          go_loop [12] (fun q => ∃ j : Nat, j ≤ F.size ∧ q = .int .i64 j) (fun q => F.size - (intOf q).toNat)
          case atStart => exact ⟨0, Nat.zero_le _, rfl⟩
          case round =>
            obtain ⟨j, hj, rfl⟩ := hrel
            by_cases hlj : j < F.size
            · have m1 : (j : Int) < (F.size : Int) := by omega
              have m0 : (0 : Int) ≤ (j : Int) := by omega
              have hTj : j < T.size := by have := HTS.out; omega
              have hw : (F[j] = 86 ∧ T[j] = 45) ∨ (F[j] = 45 ∧ T[j] = 86) ∨ (T[j] = F[j] ∧ ¬ F[j] = 86 ∧ ¬ F[j] = 45) := by
                have h := HT.out
                subst h
                exact tn_ways F j hlj hTj
              rcases hw with ⟨h1, h2⟩ | ⟨h1, h2⟩ | ⟨h1, h2, h3⟩
              · go_wp2_with fail
                go_round
                case rel => exact ⟨j + 1, by omega, by go_num⟩
                case measure => simp [intOf] <;> omega
              · go_wp2_with fail
                go_round
                case rel => exact ⟨j + 1, by omega, by go_num⟩
                case measure => simp [intOf] <;> omega
              · have nt : ∀ m : Nat, m < 256 → F[j] ≠ UInt8.ofNat m → ¬ (F[j].toNat : Int) = (m : Int) := fun m hm h he => h (UInt8.toNat_inj.1 (by rw [UInt8.toNat_ofNat', Nat.mod_eq_of_lt hm]; omega))
                have n1 : ¬ (F[j].toNat : Int) = 86 := nt 86 (by decide) h2
                have n2 : ¬ (F[j].toNat : Int) = 45 := nt 45 (by decide) h3
                have n3 : ((F[j].toNat : Int) == 86) = false := by rw [beq_eq_false_iff_ne]; exact n1
                have n4 : ((F[j].toNat : Int) == 45) = false := by rw [beq_eq_false_iff_ne]; exact n2
                clear nt h2 h3
                go_wp2_with fail
                go_round
                case rel => exact ⟨j + 1, by omega, by go_num⟩
                case measure => simp [intOf] <;> omega
            · obtain rfl : F.size = j := by omega
              have HE := Lib.hid (Below.drewN' HBW.out nq)
              go_wp2_with fail
              go_roundg (gk - 1)
              case measure => omega
              case rel => exact ⟨k + 1, i64c (by omega), by omega, HE⟩
        · obtain rfl : k = M := by omega
          have HE := Lib.hid (HW6.out.trans (HBW.out.mono HW6.out.size))
          go_wp2_with fail
          go_meet
          exact HE
  case rest =>
    have HWc := Lib.hid hcut
    clear hcut HW4 HC HM x0 x1 hG4 HR4 HR34 HRD4
    have HDB := Lib.hid (drawBraid_any A n c b wc (HCO.out.below HWc.out))
    go_wp2_with fail
    refine HDB.out.mono ?_
    rintro e w5 ⟨s, A5, c5, L, rfl, hL, hr5, hb5⟩
    have HR5 := Lib.hid (hr5.below ((Below.refl w5.heap.size w5).alloc (Nat.le_refl _) (.cells #[.int .i64 s, .slice A5 L.length c5] 53)))
    have HB5 := Lib.hid ((HWc.out.trans (hb5.mono HWc.out.size)).trans (((Below.refl w5.heap.size w5).alloc (Nat.le_refl _) (.cells #[.int .i64 s, .slice A5 L.length c5] 53)).mono (HWc.out.trans (hb5.mono HWc.out.size)).size))
    have HX := Lib.hid (box_new w5 #[.int .i64 s, .slice A5 L.length c5] 53)
    clear hr5 hb5 HDB HWc
    go_upto_region 26 with fail
    obtain ⟨G5, hG⟩ : ∃ G, G = w5.heap.size := ⟨_, rfl⟩
    obtain ⟨w6, hw6⟩ : ∃ x, x = w5.alloc (.cells #[.int .i64 s, .slice A5 L.length c5] 53) := ⟨_, rfl⟩
    have hGl : G5 < w6.heap.size := by rw [hw6, hG]; simp
    rw [← hw6] at HR5 HB5 HX ⊢
    rw [← hG] at HX ⊢
    clear hw6 hG
    have x0 : w6.cell? ⟨G5, 0, none⟩ = some (.int .i64 s) := HX.out 0
    have x1 : w6.cell? ⟨G5, 1, none⟩ = some (.slice A5 L.length c5) := HX.out 1
    obtain ⟨m, hm⟩ : ∃ m, m = L.length := ⟨_, rfl⟩
    obtain ⟨y, hy⟩ : ∃ y : Nat → Int, y = fun j => L.getD j 0 := ⟨_, rfl⟩
    have HRy : Hid (Rd w6 A5 m (fun j => .int .i64 (y j))) := Lib.hid (by rw [hm, hy]; exact HR5.out)
    rw [← hm] at HX x1 hL ⊢
    clear hm hy HR5
    have HPI := Lib.hid (implBraidPictureC_any s A5 m c5 y w6 HRy.out (by omega))
    cases hv : braidB s m y
    · rw [picN_no hv] at HPI
      have HV := Lib.hid hv
      clear hv
      go_wp2_with fail
      refine HPI.out.mono ?_
      rintro e w7 ⟨A7, c7, rfl, _, hn7⟩
      have HB7 := Lib.hid hn7.bl
      have z0 := ((bcell HB7.out).1 G5 0 hGl).trans x0
      have z1' := ((bcell HB7.out).1 G5 1 hGl).trans x1
      clear hn7 HPI
      go_wp2_with fail
      refine (specValidBraid_any s A5 m c5 y w7 (HRy.out.below HB7.out) (by omega)).mono ?_
      rintro e w8 ⟨rfl, hb8⟩
      rw [HV.out]
      have HE := Lib.hid (HB5.out.trans ((HB7.out.trans (hb8.mono HB7.out.size)).mono HB5.out.size))
      clear hb8
      go_wp2_with fail
      go_ret
      exact ⟨rfl, HE.out⟩
    · rw [picN_yes hv] at HPI
      obtain ⟨S, rfl, _⟩ := braidB_parts hv
      obtain ⟨k1, k2, k3, k4⟩ := read_all hv
      have HV := Lib.hid hv
      have K1 := Lib.hid k1
      have K2 := Lib.hid k2
      have K3 := Lib.hid k3
      have K4 := Lib.hid k4
      clear hv k1 k2 k3 k4
      go_wp2_with fail
      refine HPI.out.mono ?_
      rintro e w7 ⟨A7, c7, rfl, hc7, hn7⟩
      have HB7 := Lib.hid hn7.bl
      have HP7 : Hid (Rd w7 A7 (m + 1) (fun j => .string (picF S y j))) := Lib.hid hn7.rd
      have HC7 := Lib.hid hc7
      have z0 := ((bcell HB7.out).1 G5 0 hGl).trans x0
      have z1' := ((bcell HB7.out).1 G5 1 hGl).trans x1
      clear hn7 HPI hc7
      go_wp2_with fail
      refine (specValidBraid_any S A5 m c5 y w7 (HRy.out.below HB7.out) (by omega)).mono ?_
      rintro e w8 ⟨rfl, hb8⟩
      rw [HV.out]
      have HB8 := Lib.hid (HB7.out.trans (hb8.mono HB7.out.size))
      have HRD := Lib.hid (implReadC_any A7 (m + 1) c7 HC7.out.1 (picF S y) w8 (HP7.out.below hb8) (by omega) (fun j hj => by
        have h1 : (picF S y j).size = 2 * S - 1 := by unfold picF; split <;> rw [strF_size]
        have h2 : S ≤ 12 := by
          obtain ⟨S', e, h, _⟩ := braidB_parts HV.out
          omega
        omega))
      rw [K1.out, K2.out, K3.out] at HRD
      clear hb8
      go_wp2_with fail
      refine HRD.out.mono ?_
      rintro e w9 ⟨A9, c9, rfl, hn9⟩
      have HB9 := Lib.hid (HB8.out.trans (hn9.bl.mono HB8.out.size))
      have HR9 := Lib.hid (hn9.rd.below ((Below.refl w9.heap.size w9).alloc (Nat.le_refl _) (.cells #[.int .i64 S, .slice A9 m c9] 53)))
      have HB10 := Lib.hid (HB9.out.trans (((Below.refl w9.heap.size w9).alloc (Nat.le_refl _) (.cells #[.int .i64 S, .slice A9 m c9] 53)).mono HB9.out.size))
      have HX9 := Lib.hid (box_new w9 #[.int .i64 S, .slice A9 m c9] 53)
      clear hn9 HRD HB8 HB7 HP7 HC7 z0 z1'
      go_upto_region 30 with fail
      obtain ⟨G9, hG9⟩ : ∃ G, G = w9.heap.size := ⟨_, rfl⟩
      obtain ⟨w10, hw10⟩ : ∃ x, x = w9.alloc (.cells #[.int .i64 S, .slice A9 m c9] 53) := ⟨_, rfl⟩
      rw [← hw10] at HR9 HB10 HX9 ⊢
      rw [← hG9] at HX9 ⊢
      clear hw10 hG9
      have z0 := ((bcell HB10.out).1 G5 0 hGl).trans x0
      have z1' := ((bcell HB10.out).1 G5 1 hGl).trans x1
      have z2 : w10.cell? ⟨G9, 0, none⟩ = some (.int .i64 S) := HX9.out 0
      have z3 : w10.cell? ⟨G9, 1, none⟩ = some (.slice A9 m c9) := HX9.out 1
      have HSM := Lib.hid (specSameBraid_any S S A9 A5 m m c9 c5 (z1 (picF S y)) y w10 HR9.out (HRy.out.below HB10.out) (by omega) (by omega))
      rw [K4.out] at HSM
      have HE := Lib.hid (HB5.out.trans (HB10.out.mono HB5.out.size))
      clear x0 x1 HX HX9
      go_wp2_with (first | (go_at_call 25; refine HSM.out.mono ?_; rintro e w11 ⟨rfl, hb11⟩; have HE11 := Lib.hid (HE.out.trans (hb11.mono HE.out.size)); clear hb11))
      go_ret
      exact ⟨rfl, HE11.out⟩
end Go.Proofs.Ytacppheedleamaa
