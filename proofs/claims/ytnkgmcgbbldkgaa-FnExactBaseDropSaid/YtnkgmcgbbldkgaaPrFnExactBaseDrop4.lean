import Derived.Test.YtnkgmcgbbldkgaaPrFnExactBaseDrop3
/- Texts of this claim, one behind the other: words on worlds and rows, printed functions and their walks, plain lemmas. -/
namespace Go.Proofs.Ytnkgmcgbbldkgaa.P
open Go.RowKit Go.Proofs.YtnkgmcgbbldkgaaW.PrintWords Go.Proofs.YtnkgmcgbbldkgaaW.PrintLast Go.Proofs.YtnkgmcgbbldkgaaW.PrintMore
attribute [local go_sem] max2_int min2_int max_two min_two max_three min_three max_four min_four   -- for this text's walks alone
set_option linter.unusedVariables false
set_option linter.unusedSimpArgs false
def spec_ScoresOk.T4 : Bool × List (List Nat × List Nat) := (true, [([], []), ([], []), ([0, 1], [0, 1]), ([2], [2]), ([3], [3]), ([4], [4]), ([5], [5]), ([6], [6]), ([7], [7]), ([7], [7]), ([8, 9, 7], [7, 8, 9]), ([10, 7], [7, 10]), ([11, 7], [7, 11]), ([12, 7, 7], [7, 12]), ([13, 7], [7, 13]), ([7, 14], [7, 14]), ([15, 13], [15]), ([16], [16]), ([17, 16], [16, 17]), ([18, 16, 16], [16, 18]), ([19], [19]), ([19], [19]), ([21, 19], [19, 21]), ([20, 22, 19], [19, 20, 22]), ([23, 19], [19, 23]), ([19], [19]), ([19], [19]), ([25, 26, 19], [19, 25, 26]), ([27, 19], [19, 27]), ([24, 28, 19, 19], [19, 24, 28]), ([29, 19], [19, 29]), ([19, 30, 16], [16, 19, 30]), ([16, 31], [16, 31])])
def spec_ScoresOk.B4 : List Nat := [0, 0, 3, 7, 15, 31, 63, 127, 255, 255, 1023, 2047, 4095, 8191, 16383, 32767, 65535, 131071, 262143, 524287, 1048575, 1048575, 3145727, 8388607, 16777215, 1048575, 1048575, 101711871, 235929599, 536870911, 1073741823, 2147483647, 4294967295]
theorem spec_ScoresOk.tab4 : rtab .any (opsOf Try.f43 4) = spec_ScoresOk.T4 := by kernel_rfl
theorem spec_ScoresOk.bits4 : waitsOk spec_ScoresOk.T4.2 spec_ScoresOk.B4 = true := by kernel_rfl
def spec_ScoresOk.T9 : Bool × List (List Nat × List Nat) := (true, [([], []), ([], []), ([0, 1], [0, 1]), ([2], [2]), ([3], [3]), ([], []), ([], []), ([5, 6], [5, 6]), ([7], [7]), ([8], [8]), ([4, 9], [4, 9])])
def spec_ScoresOk.B9 : List Nat := [0, 0, 3, 7, 15, 0, 0, 96, 224, 480, 1023]
theorem spec_ScoresOk.tab9 : rtab .any (opsOf Try.f43 9) = spec_ScoresOk.T9 := by kernel_rfl
theorem spec_ScoresOk.bits9 : waitsOk spec_ScoresOk.T9.2 spec_ScoresOk.B9 = true := by kernel_rfl
set_option maxHeartbeats 8000000 in
set_option maxRecDepth 100000 in
theorem spec_ScoresOk.calls (k : Nat) (A0 : Option Addr) (c0 : Nat) (l0 : List (S99)) (r : Bool) (w : World) (hr0 : Kd.C k99 w A0 l0.length l0) (hc0 : l0.length ≤ c0) (h : spec_ScoresOk.f k l0 = some r) :
  Calls Try.prog 43 #[.slice A0 l0.length c0] w fun e w' => e = .returned (.bool r) ∧ Below w.heap.size w w' := by
 have hu99 := Try.underlying99; have HR0 := zq9 hr0; have HC0 := zq9 hc0; clear hr0 hc0
 have HB := zq9 (Below.refl w.heap.size w)
 have H : (spec_ScoresOk.l0 k l0 0) = some r := h
 clear h; have H' := zq9 H; clear H
 go_enter Try.func43, Try.ntmps43
 go_wp2
 go_loopg [3] k (fun kq v3 w' => ∃ (x3_1 : Int), v3 = .int .i64 x3_1 ∧ Aside0 (spec_ScoresOk.l0 kq l0 x3_1 = some r) ∧ Aside0 (kq ≤ k) ∧ Aside0 (Below w.heap.size w w'))
 case atStart => exact ⟨(0), (by first | rfl | (simp; done) | (simp [*]; done)), H', ⟨Nat.le_refl _⟩, ⟨by exact bl HB⟩⟩
 case round =>
  clear H'
  obtain ⟨x3_1, rfl, HA, HK1, HB⟩ := hrel
  cases gk with
  | zero => exact absurd HA.out (by simp [spec_ScoresOk.l0])
  | succ k1 =>
   have H := HA.out; clear HA
   simp only [spec_ScoresOk.l0] at H
   by_cases c2 : x3_1 < (l0.length : Int)
   ·rw [if_pos c2] at H; have c2b0 : decide (x3_1 < (l0.length : Int)) = true := decide_eq_true c2; clear c2; have HC3 := zq9 H; clear H
    go_upto_region 4 with (fail)
    go_cut [43] (fun v43 wc => ∃ (kq : Nat) (x43_2 : Bool), v43 = .bool x43_2 ∧ Aside0 (spec_ScoresOk.j1 kq l0 x3_1 x43_2 = some r) ∧ Aside0 (kq ≤ k1) ∧ Aside0 (Below w.heap.size w wc))
    case first =>
     have H := HC3.out; clear HC3
     by_cases c4 : 0 ≤ x3_1
     ·rw [if_pos c4] at H; have c4b0 : decide (0 ≤ x3_1) = true := decide_eq_true c4; clear c4
      (first | rw [c4b0] | (simp only [i64_w, i32_w]; rw [c4b0]) | skip)
      by_cases c5 : (((rd_T99 l0 x3_1).f0).size : Int) > 40
      ·rw [if_pos c5] at H; have c5b0 : decide (40 < (((rd_T99 l0 x3_1).f0).size : Int)) = true := decide_eq_true c5
       have c5b1 : decide (40 < ((rd_T99 l0 x3_1).f0).size) = true := decide_eq_true (by omega)
       clear c5; have H' := zq9 H; clear H
       try go_wp2
       have n0_ := zq9 (zq4 HB.out)
       clear HB; have HB := n0_; clear n0_
       have p119 : 0 ≤ (x3_1 : Int) := of_decide_eq_true ‹_›
       have q119 : x3_1 < (l0.length : Int) := of_decide_eq_true ‹_›
       obtain ⟨ad119, e119, hx119_0, hx119_1⟩ := at_T99 HR0.out x3_1 p119 q119
       have hw119_1 := hx119_1; have hw119_0 := hx119_0; cases e119; replace hx119_0 := hcl HB hx119_0; replace hx119_1 := hcl HB hx119_1; replace p119 := eq_true p119; replace q119 := eq_true q119
       refine start_ (n := 33) (S := fun w' => w'.cell? (ad119.add ((x3_1).toNat * 2)) = some (.string ((rd_T99 l0 x3_1).f0)) ∧ w'.cell? ⟨(ad119.add ((x3_1).toNat * 2)).block, (ad119.add ((x3_1).toNat * 2)).off + 1, none⟩ = some (.int .i64 ((rd_T99 l0 x3_1).f1))) (ds := []) #[false, false, false, false, false, false, false, false, false, false, false, false, false, false, false, false, false, false, false, false, false, false, false, false, false, false, false, false, false, false, false, false, false] (by kernel_rfl) rfl rfl ⟨(hcm HB hw119_0), (hcm HB hw119_1)⟩ (fun hHeld => ?_); refine with_tabW spec_ScoresOk.tab4 spec_ScoresOk.bits4 (fun HT_ HW_ => ?_)
       generalize wr.drew = w6 at HB hx119_0 hx119_1 hHeld ⊢
       refine pa HT_ 0 11 (zb 33 1) ?_; refine pa HT_ 1 12 (zb 33 3) ?_; refine pa HT_ 2 13 (zb 33 7) ?_; refine pa HT_ 3 14 (zb 33 15) ?_
       refine take_ (i := 4) (N := some 15) (v := ?_) (a' := ?_) (zb 33 31) rfl rfl (take_ofW HT_.out HW_.out (by kernel_rfl)) (fun _ _ _ h => h) (Or.inl ⟨by rfl, ?_⟩) hHeld ?_ ?_
       rotate_left; ·rintro w' ⟨s0, s1⟩; go_simp; with_reducible rfl
       rotate_left; ·simp only [Act.put, zq0, zq1, zq2, i64_w, i32_w]; rfl
       refine pa HT_ 5 16 (zb 33 63) ?_; refine pa HT_ 6 17 (zb 33 127) ?_; refine pa HT_ 7 18 (zb 33 255) ?_; refine pb HT_ 8 19 (zb 33 511) ?_; refine pb HT_ 9 20 (zb 33 1023) ?_; refine pb HT_ 10 21 (zb 33 2047) ?_; refine pb HT_ 11 22 (zb 33 4095) ?_; refine pb HT_ 12 23 (zb 33 8191) ?_; refine pb HT_ 13 24 (zb 33 16383) ?_; refine pb HT_ 14 25 (zb 33 32767) ?_; refine pa HT_ 15 26 (zb 33 65535) ?_
       refine pa HT_ 16 27 (zb 33 131071) ?_; refine pb HT_ 17 28 (zb 33 262143) ?_; refine pb HT_ 18 29 (zb 33 524287) ?_; refine pb HT_ 19 30 (zb 33 1048575) ?_; refine pb HT_ 20 31 (zb 33 2097151) ?_; refine pb HT_ 21 32 (zb 33 4194303) ?_; refine pb HT_ 22 33 (zb 33 8388607) ?_; refine pb HT_ 23 34 (zb 33 16777215) ?_; refine pb HT_ 24 35 (zb 33 33554431) ?_; refine pb HT_ 25 36 (zb 33 67108863) ?_
       refine pb HT_ 26 37 (zb 33 134217727) ?_; refine pb HT_ 27 38 (zb 33 268435455) ?_; refine pb HT_ 28 39 (zb 33 536870911) ?_; refine pb HT_ 29 40 (zb 33 1073741823) ?_; refine pb HT_ 30 41 (zb 33 2147483647) ?_; refine pb HT_ 31 42 (zb 33 4294967295) ?_; refine pa HT_ 32 43 (zb 33 8589934591) ?_
       refine done_ (done_of HT_.out (by kernel_rfl)) ?_
       try go_wp2
       go_meet
       case rel => exact ⟨_, (true), (by first | rfl | (simp; done) | (simp [*]; done)), H', ⟨by have := HK1.out; first | omega | exact Nat.le_refl _⟩, ⟨by exact bl HB⟩⟩
      ·rw [if_neg c5] at H; have c5b0 : decide (40 < (((rd_T99 l0 x3_1).f0).size : Int)) = false := decide_eq_false c5
       have c5b1 : decide (40 < ((rd_T99 l0 x3_1).f0).size) = false := decide_eq_false (by omega)
       clear c5; replace H := Option.bind_eq_some_iff.mp H; obtain ⟨t121, A70, H⟩ := H
       try dsimp only at H
       have A7 := zq9 A70; clear A70
       by_cases c8 : t121 = true
       ·subst c8
        have H1 : (if x3_1 > 0 then (if 0 ≤ (wrap64 (x3_1 - 1)) then (if (wrap64 (x3_1 - 1)) < (l0.length : Int) then ((spec_l3Ahead.f ((rd_T99 l0 (wrap64 (x3_1 - 1))).f0) ((rd_T99 l0 (wrap64 (x3_1 - 1))).f1) ((rd_T99 l0 x3_1).f0) ((rd_T99 l0 x3_1).f1)).bind fun t124 => (spec_ScoresOk.j1 k1 l0 x3_1 (!t124))) else (none)) else (none)) else (spec_ScoresOk.j1 k1 l0 x3_1 false)) = some r := by rw [if_pos rfl] at H; exact H
        clear H; have H := H1; clear H1
        by_cases c9 : x3_1 > 0
        ·rw [if_pos c9] at H; have c9b0 : decide (0 < x3_1) = true := decide_eq_true c9; clear c9
         obtain ⟨ji10, hji10⟩ : ∃ j_ : Int, (wrap64 (x3_1 - 1)) = j_ := ⟨_, rfl⟩
         replace H : (if 0 ≤ (ji10) then (if (ji10) < (l0.length : Int) then ((spec_l3Ahead.f ((rd_T99 l0 (ji10)).f0) ((rd_T99 l0 (ji10)).f1) ((rd_T99 l0 x3_1).f0) ((rd_T99 l0 x3_1).f1)).bind fun t124 => (spec_ScoresOk.j1 k1 l0 x3_1 (!t124))) else (none)) else (none)) = some r := by first | (rw [hji10] at H; exact H) | (simp only [hji10] at H ⊢; exact H)
         (try rw [hji10] at A7)
         have hji10w : (IntKind.i64.wrap (x3_1 - 1)) = ji10 := (i64_w _).trans hji10
         by_cases c11 : 0 ≤ (ji10)
         ·rw [if_pos c11] at H; have c11b0 : decide (0 ≤ (ji10)) = true := decide_eq_true c11; clear c11
          by_cases c12 : (ji10) < (l0.length : Int)
          ·rw [if_pos c12] at H; have c12b0 : decide ((ji10) < (l0.length : Int)) = true := decide_eq_true c12; clear c12; replace H := Option.bind_eq_some_iff.mp H; obtain ⟨t124, A130, H⟩ := H
           try dsimp only at H
           have A13 := zq9 A130; clear A130; have H' := zq9 H; clear H
           try go_wp2
           have n0_ := zq9 (zq4 HB.out)
           clear HB; have HB := n0_; clear n0_
           have p119 : 0 ≤ (x3_1 : Int) := of_decide_eq_true ‹_›
           have q119 : x3_1 < (l0.length : Int) := of_decide_eq_true ‹_›
           obtain ⟨ad119, e119, hx119_0, hx119_1⟩ := at_T99 HR0.out x3_1 p119 q119
           have hw119_1 := hx119_1; have hw119_0 := hx119_0; cases e119; replace hx119_0 := hcl HB hx119_0; replace hx119_1 := hcl HB hx119_1; replace p119 := eq_true p119; replace q119 := eq_true q119
           have p120 : 0 ≤ (x3_1 : Int) := of_decide_eq_true ‹_›
           have q120 : x3_1 < (l0.length : Int) := of_decide_eq_true ‹_›
           obtain ⟨ad120, e120, hx120_0, hx120_1⟩ := at_T99 HR0.out x3_1 p120 q120
           have hw120_1 := hx120_1; have hw120_0 := hx120_0
           obtain rfl : ad119 = ad120 := (by injection e120)
           replace hx120_0 := hcl HB hx120_0; replace hx120_1 := hcl HB hx120_1; replace p120 := eq_true p120; replace q120 := eq_true q120
           have p122 : 0 ≤ ((ji10) : Int) := of_decide_eq_true ‹_›
           have q122 : (ji10) < (l0.length : Int) := of_decide_eq_true ‹_›
           obtain ⟨ad122, e122, hx122_0, hx122_1⟩ := at_T99 HR0.out (ji10) p122 q122
           have hw122_1 := hx122_1; have hw122_0 := hx122_0
           obtain rfl : ad119 = ad122 := (by injection e122)
           replace hx122_0 := hcl HB hx122_0; replace hx122_1 := hcl HB hx122_1; replace p122 := eq_true p122; replace q122 := eq_true q122
           have p123 : 0 ≤ (x3_1 : Int) := of_decide_eq_true ‹_›
           have q123 : x3_1 < (l0.length : Int) := of_decide_eq_true ‹_›
           obtain ⟨ad123, e123, hx123_0, hx123_1⟩ := at_T99 HR0.out x3_1 p123 q123
           have hw123_1 := hx123_1; have hw123_0 := hx123_0
           obtain rfl : ad119 = ad123 := (by injection e123)
           replace hx123_0 := hcl HB hx123_0; replace hx123_1 := hcl HB hx123_1; replace p123 := eq_true p123; replace q123 := eq_true q123
           refine start_ (n := 33) (S := fun w' => w'.cell? (ad119.add ((x3_1).toNat * 2)) = some (.string ((rd_T99 l0 x3_1).f0)) ∧ w'.cell? ⟨(ad119.add ((x3_1).toNat * 2)).block, (ad119.add ((x3_1).toNat * 2)).off + 1, none⟩ = some (.int .i64 ((rd_T99 l0 x3_1).f1)) ∧ w'.cell? (ad119.add ((x3_1).toNat * 2)) = some (.string ((rd_T99 l0 x3_1).f0)) ∧ w'.cell? ⟨(ad119.add ((x3_1).toNat * 2)).block, (ad119.add ((x3_1).toNat * 2)).off + 1, none⟩ = some (.int .i64 ((rd_T99 l0 x3_1).f1)) ∧ w'.cell? (ad119.add (((ji10)).toNat * 2)) = some (.string ((rd_T99 l0 (ji10)).f0)) ∧ w'.cell? ⟨(ad119.add (((ji10)).toNat * 2)).block, (ad119.add (((ji10)).toNat * 2)).off + 1, none⟩ = some (.int .i64 ((rd_T99 l0 (ji10)).f1)) ∧ w'.cell? (ad119.add ((x3_1).toNat * 2)) = some (.string ((rd_T99 l0 x3_1).f0)) ∧ w'.cell? ⟨(ad119.add ((x3_1).toNat * 2)).block, (ad119.add ((x3_1).toNat * 2)).off + 1, none⟩ = some (.int .i64 ((rd_T99 l0 x3_1).f1))) (ds := []) #[false, false, false, false, false, false, false, false, false, false, false, false, false, false, false, false, false, false, false, false, false, false, false, false, false, false, false, false, false, false, false, false, false] (by kernel_rfl) rfl rfl ⟨(hcm HB hw119_0), (hcm HB hw119_1), (hcm HB hw120_0), (hcm HB hw120_1), (hcm HB hw122_0), (hcm HB hw122_1), (hcm HB hw123_0), (hcm HB hw123_1)⟩ (fun hHeld => ?_); refine with_tabW spec_ScoresOk.tab4 spec_ScoresOk.bits4 (fun HT_ HW_ => ?_)
           generalize wr.drew = w14 at HB hx119_0 hx119_1 hx120_0 hx120_1 hx122_0 hx122_1 hx123_0 hx123_1 hHeld ⊢
           refine pa HT_ 0 11 (zb 33 1) ?_; refine pa HT_ 1 12 (zb 33 3) ?_; refine pa HT_ 2 13 (zb 33 7) ?_; refine pa HT_ 3 14 (zb 33 15) ?_
           refine take_ (i := 4) (N := some 15) (v := ?_) (a' := ?_) (zb 33 31) rfl rfl (take_ofW HT_.out HW_.out (by kernel_rfl)) (fun _ _ _ h => h) (Or.inl ⟨by rfl, ?_⟩) hHeld ?_ ?_
           rotate_left; ·rintro w' ⟨s0, s1, s2, s3, s4, s5, s6, s7⟩; go_simp; with_reducible rfl
           rotate_left; ·simp only [Act.put, zq0, zq1, zq2, i64_w, i32_w]; rfl
           refine pa HT_ 5 16 (zb 33 63) ?_; refine pa HT_ 6 17 (zb 33 127) ?_; refine pa HT_ 7 18 (zb 33 255) ?_; refine pa HT_ 8 19 (zb 33 511) ?_; refine pa HT_ 9 20 (zb 33 1023) ?_; refine pa HT_ 10 21 (zb 33 2047) ?_; refine pa HT_ 11 22 (zb 33 4095) ?_
           refine take_ (i := 12) (N := some 23) (v := ?_) (a' := ?_) (zb 33 8191) rfl rfl (take_ofW HT_.out HW_.out (by kernel_rfl)) (fun _ _ _ h => h) (Or.inl ⟨by rfl, ?_⟩) hHeld ?_ ?_
           rotate_left; ·rintro w' ⟨s0, s1, s2, s3, s4, s5, s6, s7⟩; go_simp; with_reducible rfl
           rotate_left; ·simp only [Act.put, zq0, zq1, zq2, i64_w, i32_w]; rfl
           refine one_ (i := 13) (N := some 24) (zb 33 16383) rfl rfl (one_of HT_.out (by kernel_rfl)) (by decide) (fun K hK => ?_)
           refine gs Try.func40 #[.int .i64 ((rd_T99 l0 x3_1).f1), .int .i64 (-1000000000), .int .i64 1000000000] ?_
           with_reducible refine (spec_l1In.calls ((rd_T99 l0 x3_1).f1) (-1000000000) 1000000000 true _ A7.out).mono ?_
           rintro e w' ⟨rfl, ⟨nd, rfl⟩⟩
           refine ⟨_, rfl, ?_⟩
           refine hK.out _ _ ⟨(hcm HB hw119_0), (hcm HB hw119_1), (hcm HB hw120_0), (hcm HB hw120_1), (hcm HB hw122_0), (hcm HB hw122_1), (hcm HB hw123_0), (hcm HB hw123_1)⟩ (fun hHeld => ?_)
           clear hK K
           refine norm_ (a' := ?_) ?_ ?_
           rotate_left; ·show Act.put _ (some 24) _ = _; simp only [Act.put, zq0, zq1, zq2, i64_w, i32_w]; rfl
           refine pa HT_ 14 25 (zb 33 32767) ?_; refine pa HT_ 15 26 (zb 33 65535) ?_; refine pa HT_ 16 27 (zb 33 131071) ?_; refine pa HT_ 17 28 (zb 33 262143) ?_; refine pa HT_ 18 29 (zb 33 524287) ?_; refine pa HT_ 19 30 (zb 33 1048575) ?_; refine pa HT_ 20 31 (zb 33 2097151) ?_; refine pa HT_ 21 32 (zb 33 4194303) ?_; refine pa HT_ 22 33 (zb 33 8388607) ?_; refine pa HT_ 23 34 (zb 33 16777215) ?_
           refine pa HT_ 25 36 (zb 33 50331647) ?_; refine pa HT_ 26 37 (zb 33 117440511) ?_; refine pa HT_ 27 38 (zb 33 251658239) ?_
           refine take_ (i := 24) (N := some 35) (v := ?_) (a' := ?_) (zb 33 268435455) rfl rfl (take_ofW HT_.out HW_.out (by kernel_rfl)) (fun _ _ _ h => h) (Or.inl ⟨by rfl, ?_⟩) hHeld ?_ ?_
           rotate_left; ·rintro w' ⟨s0, s1, s2, s3, s4, s5, s6, s7⟩; go_simp; with_reducible rfl
           rotate_left; ·simp only [Act.put, zq0, zq1, zq2, i64_w, i32_w]; rfl
           refine take_ (i := 28) (N := some 39) (v := ?_) (a' := ?_) (zb 33 536870911) rfl rfl (take_ofW HT_.out HW_.out (by kernel_rfl)) (fun _ _ _ h => h) (Or.inl ⟨by rfl, ?_⟩) hHeld ?_ ?_
           rotate_left; ·rintro w' ⟨s0, s1, s2, s3, s4, s5, s6, s7⟩; go_simp; with_reducible rfl
           rotate_left; ·simp only [Act.put, zq0, zq1, zq2, i64_w, i32_w]; rfl
           refine one_ (i := 29) (N := some 40) (zb 33 1073741823) rfl rfl (one_of HT_.out (by kernel_rfl)) (by decide) (fun K hK => ?_)
           refine goes_ Try.func81 (by kernel_rfl) rfl #[.agg #[.string ((rd_T99 l0 (ji10)).f0), .int .i64 ((rd_T99 l0 (ji10)).f1)], .agg #[.string ((rd_T99 l0 x3_1).f0), .int .i64 ((rd_T99 l0 x3_1).f1)]] (by rfl) rfl rfl (by (try simp only [List.map_toArray, List.map_cons, List.map_nil]); first | done | (simp only [hji10]; rfl) | rfl | (simp only [zq33, zq34]; rfl)) ?_
           with_reducible refine (spec_l3Ahead.calls ((rd_T99 l0 (ji10)).f0) ((rd_T99 l0 (ji10)).f1) ((rd_T99 l0 x3_1).f0) ((rd_T99 l0 x3_1).f1) t124 _ A13.out).mono ?_
           rintro e w15 ⟨rfl, hb⟩
           refine ⟨_, rfl, ?_⟩
           have n0_ := zq9 (zq27 (by exact bl HB) hb)
           clear HB; have HB := n0_; clear n0_
           (try clear hb)
           (try clear hb2)
           (try clear hk)
           (try clear hi)
           refine hK.out _ _ ⟨(hcm HB hw119_0), (hcm HB hw119_1), (hcm HB hw120_0), (hcm HB hw120_1), (hcm HB hw122_0), (hcm HB hw122_1), (hcm HB hw123_0), (hcm HB hw123_1)⟩ (fun hHeld => ?_)
           clear hK K
           refine norm_ (a' := ?_) ?_ ?_
           rotate_left; ·show Act.put _ (some 40) _ = _; simp only [Act.put, zq0, zq1, zq2, i64_w, i32_w]; rfl
           refine pa HT_ 30 41 (zb 33 2147483647) ?_; refine pa HT_ 31 42 (zb 33 4294967295) ?_; refine pa HT_ 32 43 (zb 33 8589934591) ?_
           refine done_ (done_of HT_.out (by kernel_rfl)) ?_
           try go_wp2
           go_meet
           case rel => exact ⟨_, (!t124), (by first | rfl | (simp; done) | (simp [*]; done)), H', ⟨by have := HK1.out; first | omega | exact Nat.le_refl _⟩, ⟨by exact bl HB⟩⟩
          ·rw [if_neg c12] at H
           exact absurd H (by simp)
         ·rw [if_neg c11] at H
          exact absurd H (by simp)
        ·rw [if_neg c9] at H; have c9b0 : decide (0 < x3_1) = false := decide_eq_false c9; clear c9; have H' := zq9 H; clear H
         try go_wp2
         have n0_ := zq9 (zq4 HB.out)
         clear HB; have HB := n0_; clear n0_
         have p119 : 0 ≤ (x3_1 : Int) := of_decide_eq_true ‹_›
         have q119 : x3_1 < (l0.length : Int) := of_decide_eq_true ‹_›
         obtain ⟨ad119, e119, hx119_0, hx119_1⟩ := at_T99 HR0.out x3_1 p119 q119
         have hw119_1 := hx119_1; have hw119_0 := hx119_0; cases e119; replace hx119_0 := hcl HB hx119_0; replace hx119_1 := hcl HB hx119_1; replace p119 := eq_true p119; replace q119 := eq_true q119
         have p120 : 0 ≤ (x3_1 : Int) := of_decide_eq_true ‹_›
         have q120 : x3_1 < (l0.length : Int) := of_decide_eq_true ‹_›
         obtain ⟨ad120, e120, hx120_0, hx120_1⟩ := at_T99 HR0.out x3_1 p120 q120
         have hw120_1 := hx120_1; have hw120_0 := hx120_0
         obtain rfl : ad119 = ad120 := (by injection e120)
         replace hx120_0 := hcl HB hx120_0; replace hx120_1 := hcl HB hx120_1; replace p120 := eq_true p120; replace q120 := eq_true q120
         refine start_ (n := 33) (S := fun w' => w'.cell? (ad119.add ((x3_1).toNat * 2)) = some (.string ((rd_T99 l0 x3_1).f0)) ∧ w'.cell? ⟨(ad119.add ((x3_1).toNat * 2)).block, (ad119.add ((x3_1).toNat * 2)).off + 1, none⟩ = some (.int .i64 ((rd_T99 l0 x3_1).f1)) ∧ w'.cell? (ad119.add ((x3_1).toNat * 2)) = some (.string ((rd_T99 l0 x3_1).f0)) ∧ w'.cell? ⟨(ad119.add ((x3_1).toNat * 2)).block, (ad119.add ((x3_1).toNat * 2)).off + 1, none⟩ = some (.int .i64 ((rd_T99 l0 x3_1).f1))) (ds := []) #[false, false, false, false, false, false, false, false, false, false, false, false, false, false, false, false, false, false, false, false, false, false, false, false, false, false, false, false, false, false, false, false, false] (by kernel_rfl) rfl rfl ⟨(hcm HB hw119_0), (hcm HB hw119_1), (hcm HB hw120_0), (hcm HB hw120_1)⟩ (fun hHeld => ?_); refine with_tabW spec_ScoresOk.tab4 spec_ScoresOk.bits4 (fun HT_ HW_ => ?_)
         generalize wr.drew = w16 at HB hx119_0 hx119_1 hx120_0 hx120_1 hHeld ⊢
         refine pa HT_ 0 11 (zb 33 1) ?_; refine pa HT_ 1 12 (zb 33 3) ?_; refine pa HT_ 2 13 (zb 33 7) ?_; refine pa HT_ 3 14 (zb 33 15) ?_
         refine take_ (i := 4) (N := some 15) (v := ?_) (a' := ?_) (zb 33 31) rfl rfl (take_ofW HT_.out HW_.out (by kernel_rfl)) (fun _ _ _ h => h) (Or.inl ⟨by rfl, ?_⟩) hHeld ?_ ?_
         rotate_left; ·rintro w' ⟨s0, s1, s2, s3⟩; go_simp; with_reducible rfl
         rotate_left; ·simp only [Act.put, zq0, zq1, zq2, i64_w, i32_w]; rfl
         refine pa HT_ 5 16 (zb 33 63) ?_; refine pa HT_ 6 17 (zb 33 127) ?_; refine pa HT_ 7 18 (zb 33 255) ?_; refine pa HT_ 8 19 (zb 33 511) ?_; refine pa HT_ 9 20 (zb 33 1023) ?_; refine pa HT_ 10 21 (zb 33 2047) ?_; refine pa HT_ 11 22 (zb 33 4095) ?_
         refine take_ (i := 12) (N := some 23) (v := ?_) (a' := ?_) (zb 33 8191) rfl rfl (take_ofW HT_.out HW_.out (by kernel_rfl)) (fun _ _ _ h => h) (Or.inl ⟨by rfl, ?_⟩) hHeld ?_ ?_
         rotate_left; ·rintro w' ⟨s0, s1, s2, s3⟩; go_simp; with_reducible rfl
         rotate_left; ·simp only [Act.put, zq0, zq1, zq2, i64_w, i32_w]; rfl
         refine one_ (i := 13) (N := some 24) (zb 33 16383) rfl rfl (one_of HT_.out (by kernel_rfl)) (by decide) (fun K hK => ?_)
         refine gs Try.func40 #[.int .i64 ((rd_T99 l0 x3_1).f1), .int .i64 (-1000000000), .int .i64 1000000000] ?_
         with_reducible refine (spec_l1In.calls ((rd_T99 l0 x3_1).f1) (-1000000000) 1000000000 true _ A7.out).mono ?_
         rintro e w' ⟨rfl, ⟨nd, rfl⟩⟩
         refine ⟨_, rfl, ?_⟩
         refine hK.out _ _ ⟨(hcm HB hw119_0), (hcm HB hw119_1), (hcm HB hw120_0), (hcm HB hw120_1)⟩ (fun hHeld => ?_)
         clear hK K
         refine norm_ (a' := ?_) ?_ ?_
         rotate_left; ·show Act.put _ (some 24) _ = _; simp only [Act.put, zq0, zq1, zq2, i64_w, i32_w]; rfl
         refine pa HT_ 14 25 (zb 33 32767) ?_; refine pa HT_ 15 26 (zb 33 65535) ?_; refine pa HT_ 16 27 (zb 33 131071) ?_; refine pa HT_ 17 28 (zb 33 262143) ?_; refine pa HT_ 18 29 (zb 33 524287) ?_; refine pa HT_ 19 30 (zb 33 1048575) ?_; refine pb HT_ 20 31 (zb 33 2097151) ?_; refine pb HT_ 21 32 (zb 33 4194303) ?_; refine pb HT_ 22 33 (zb 33 8388607) ?_; refine pb HT_ 23 34 (zb 33 16777215) ?_
         refine pb HT_ 24 35 (zb 33 33554431) ?_; refine pb HT_ 25 36 (zb 33 67108863) ?_; refine pb HT_ 26 37 (zb 33 134217727) ?_; refine pb HT_ 27 38 (zb 33 268435455) ?_; refine pb HT_ 28 39 (zb 33 536870911) ?_; refine pb HT_ 29 40 (zb 33 1073741823) ?_; refine pb HT_ 30 41 (zb 33 2147483647) ?_; refine pa HT_ 31 42 (zb 33 4294967295) ?_; refine pa HT_ 32 43 (zb 33 8589934591) ?_
         refine done_ (done_of HT_.out (by kernel_rfl)) ?_
         try go_wp2
         go_meet
         case rel => exact ⟨_, (false), (by first | rfl | (simp; done) | (simp [*]; done)), H', ⟨by have := HK1.out; first | omega | exact Nat.le_refl _⟩, ⟨by exact bl HB⟩⟩
       ·replace c8 := Bool.eq_false_iff.mpr c8
        subst c8
        have H1 : (spec_ScoresOk.j1 k1 l0 x3_1 true) = some r := by rw [if_neg (show ¬ (false = true) by decide)] at H; exact H
        clear H; have H := H1; clear H1; have H' := zq9 H; clear H
        try go_wp2
        have n0_ := zq9 (zq4 HB.out)
        clear HB; have HB := n0_; clear n0_
        have p119 : 0 ≤ (x3_1 : Int) := of_decide_eq_true ‹_›
        have q119 : x3_1 < (l0.length : Int) := of_decide_eq_true ‹_›
        obtain ⟨ad119, e119, hx119_0, hx119_1⟩ := at_T99 HR0.out x3_1 p119 q119
        have hw119_1 := hx119_1; have hw119_0 := hx119_0; cases e119; replace hx119_0 := hcl HB hx119_0; replace hx119_1 := hcl HB hx119_1; replace p119 := eq_true p119; replace q119 := eq_true q119
        have p120 : 0 ≤ (x3_1 : Int) := of_decide_eq_true ‹_›
        have q120 : x3_1 < (l0.length : Int) := of_decide_eq_true ‹_›
        obtain ⟨ad120, e120, hx120_0, hx120_1⟩ := at_T99 HR0.out x3_1 p120 q120
        have hw120_1 := hx120_1; have hw120_0 := hx120_0
        obtain rfl : ad119 = ad120 := (by injection e120)
        replace hx120_0 := hcl HB hx120_0; replace hx120_1 := hcl HB hx120_1; replace p120 := eq_true p120; replace q120 := eq_true q120
        refine start_ (n := 33) (S := fun w' => w'.cell? (ad119.add ((x3_1).toNat * 2)) = some (.string ((rd_T99 l0 x3_1).f0)) ∧ w'.cell? ⟨(ad119.add ((x3_1).toNat * 2)).block, (ad119.add ((x3_1).toNat * 2)).off + 1, none⟩ = some (.int .i64 ((rd_T99 l0 x3_1).f1)) ∧ w'.cell? (ad119.add ((x3_1).toNat * 2)) = some (.string ((rd_T99 l0 x3_1).f0)) ∧ w'.cell? ⟨(ad119.add ((x3_1).toNat * 2)).block, (ad119.add ((x3_1).toNat * 2)).off + 1, none⟩ = some (.int .i64 ((rd_T99 l0 x3_1).f1))) (ds := []) #[false, false, false, false, false, false, false, false, false, false, false, false, false, false, false, false, false, false, false, false, false, false, false, false, false, false, false, false, false, false, false, false, false] (by kernel_rfl) rfl rfl ⟨(hcm HB hw119_0), (hcm HB hw119_1), (hcm HB hw120_0), (hcm HB hw120_1)⟩ (fun hHeld => ?_); refine with_tabW spec_ScoresOk.tab4 spec_ScoresOk.bits4 (fun HT_ HW_ => ?_)
        generalize wr.drew = w17 at HB hx119_0 hx119_1 hx120_0 hx120_1 hHeld ⊢
        refine pa HT_ 0 11 (zb 33 1) ?_; refine pa HT_ 1 12 (zb 33 3) ?_; refine pa HT_ 2 13 (zb 33 7) ?_; refine pa HT_ 3 14 (zb 33 15) ?_
        refine take_ (i := 4) (N := some 15) (v := ?_) (a' := ?_) (zb 33 31) rfl rfl (take_ofW HT_.out HW_.out (by kernel_rfl)) (fun _ _ _ h => h) (Or.inl ⟨by rfl, ?_⟩) hHeld ?_ ?_
        rotate_left; ·rintro w' ⟨s0, s1, s2, s3⟩; go_simp; with_reducible rfl
        rotate_left; ·simp only [Act.put, zq0, zq1, zq2, i64_w, i32_w]; rfl
        refine pa HT_ 5 16 (zb 33 63) ?_; refine pa HT_ 6 17 (zb 33 127) ?_; refine pa HT_ 7 18 (zb 33 255) ?_; refine pa HT_ 8 19 (zb 33 511) ?_; refine pa HT_ 9 20 (zb 33 1023) ?_; refine pa HT_ 10 21 (zb 33 2047) ?_; refine pa HT_ 11 22 (zb 33 4095) ?_
        refine take_ (i := 12) (N := some 23) (v := ?_) (a' := ?_) (zb 33 8191) rfl rfl (take_ofW HT_.out HW_.out (by kernel_rfl)) (fun _ _ _ h => h) (Or.inl ⟨by rfl, ?_⟩) hHeld ?_ ?_
        rotate_left; ·rintro w' ⟨s0, s1, s2, s3⟩; go_simp; with_reducible rfl
        rotate_left; ·simp only [Act.put, zq0, zq1, zq2, i64_w, i32_w]; rfl
        refine one_ (i := 13) (N := some 24) (zb 33 16383) rfl rfl (one_of HT_.out (by kernel_rfl)) (by decide) (fun K hK => ?_)
        refine gs Try.func40 #[.int .i64 ((rd_T99 l0 x3_1).f1), .int .i64 (-1000000000), .int .i64 1000000000] ?_
        with_reducible refine (spec_l1In.calls ((rd_T99 l0 x3_1).f1) (-1000000000) 1000000000 false _ A7.out).mono ?_
        rintro e w' ⟨rfl, ⟨nd, rfl⟩⟩
        refine ⟨_, rfl, ?_⟩
        refine hK.out _ _ ⟨(hcm HB hw119_0), (hcm HB hw119_1), (hcm HB hw120_0), (hcm HB hw120_1)⟩ (fun hHeld => ?_)
        clear hK K
        refine norm_ (a' := ?_) ?_ ?_
        rotate_left; ·show Act.put _ (some 24) _ = _; simp only [Act.put, zq0, zq1, zq2, i64_w, i32_w]; rfl
        refine pa HT_ 14 25 (zb 33 32767) ?_; refine pa HT_ 15 26 (zb 33 65535) ?_; refine pa HT_ 16 27 (zb 33 131071) ?_; refine pb HT_ 17 28 (zb 33 262143) ?_; refine pb HT_ 18 29 (zb 33 524287) ?_; refine pb HT_ 19 30 (zb 33 1048575) ?_; refine pb HT_ 20 31 (zb 33 2097151) ?_; refine pb HT_ 21 32 (zb 33 4194303) ?_; refine pb HT_ 22 33 (zb 33 8388607) ?_; refine pb HT_ 23 34 (zb 33 16777215) ?_
        refine pb HT_ 24 35 (zb 33 33554431) ?_; refine pb HT_ 25 36 (zb 33 67108863) ?_; refine pb HT_ 26 37 (zb 33 134217727) ?_; refine pb HT_ 27 38 (zb 33 268435455) ?_; refine pb HT_ 28 39 (zb 33 536870911) ?_; refine pb HT_ 29 40 (zb 33 1073741823) ?_; refine pb HT_ 30 41 (zb 33 2147483647) ?_; refine pb HT_ 31 42 (zb 33 4294967295) ?_; refine pa HT_ 32 43 (zb 33 8589934591) ?_
        refine done_ (done_of HT_.out (by kernel_rfl)) ?_
        try go_wp2
        go_meet
        case rel => exact ⟨_, (true), (by first | rfl | (simp; done) | (simp [*]; done)), H', ⟨by have := HK1.out; first | omega | exact Nat.le_refl _⟩, ⟨by exact bl HB⟩⟩
     ·rw [if_neg c4] at H
      exact absurd H (by simp)
    case rest =>
     clear HC3
     try clear c1
     try clear p1
     try clear q1
     try clear hx1
     try clear p2
     try clear c4
     try clear c8
     try clear c9
     try clear c9b0
     try clear c11
     try clear p11
     try clear q11
     try clear hx11
     try clear c12
     try clear p12
     try clear q12
     try clear hx12
     try clear hx119_0
     try clear hx119_1
     try clear hx120_0
     try clear hx120_1
     try clear p119
     try clear p120
     try clear q119
     try clear q120
     obtain ⟨kq, x43_2, rfl, HA, HJ2, HB⟩ := hcut
     cases kq with
     | zero => exact absurd HA.out (by simp [spec_ScoresOk.j1])
     | succ kj2 =>
      have H := HA.out; clear HA
      simp only [spec_ScoresOk.j1] at H
      by_cases c18 : x43_2 = true
      ·subst c18
       have H1 : (some false) = some r := by rw [if_pos rfl] at H; exact H
       clear H; have H := H1; clear H1; obtain rfl := Option.some.inj H
       go_wp2
       go_ret
       exact fz (by exact bl HB)
      ·replace c18 := Bool.eq_false_iff.mpr c18
       subst c18
       have H1 : (spec_ScoresOk.l1 kj2 l0 x3_1 0) = some r := by rw [if_neg (show ¬ (false = true) by decide)] at H; exact H
       clear H; have H := H1; clear H1; have H' := zq9 H; clear H
       go_wp2
       go_loopg [4] kj2 (fun kq v4 w' => ∃ (x4_3 : Int), v4 = .int .i64 x4_3 ∧ Aside0 (spec_ScoresOk.l1 kq l0 x3_1 x4_3 = some r) ∧ Aside0 (kq ≤ kj2) ∧ Aside0 (Below w.heap.size w w'))
       case atStart => exact ⟨(0), (by first | rfl | (simp; done) | (simp [*]; done)), H', ⟨Nat.le_refl _⟩, ⟨by exact bl HB⟩⟩
       case round =>
        clear H'
        try clear c1
        try clear p1
        try clear q1
        try clear hx1
        try clear p2
        try clear c4
        try clear c8
        try clear c9
        try clear c9b0
        try clear c11
        try clear p11
        try clear q11
        try clear hx11
        try clear c12
        try clear p12
        try clear q12
        try clear hx12
        try clear c18
        try clear hx119_0
        try clear hx119_1
        try clear hx120_0
        try clear hx120_1
        try clear p1
        try clear p11
        try clear p119
        try clear p12
        try clear p120
        try clear p2
        try clear q1
        try clear q11
        try clear q119
        try clear q12
        try clear q120
        obtain ⟨x4_3, rfl, HA, HK3, HB⟩ := hrel
        cases gk with
        | zero => exact absurd HA.out (by simp [spec_ScoresOk.l1])
        | succ k3 =>
         have H := HA.out; clear HA
         simp only [spec_ScoresOk.l1] at H
         by_cases c19 : x4_3 < x3_1
         ·rw [if_pos c19] at H; have c19b0 : decide (x4_3 < x3_1) = true := decide_eq_true c19; clear c19
          by_cases c20 : 0 ≤ x4_3
          ·rw [if_pos c20] at H; have c20b0 : decide (0 ≤ x4_3) = true := decide_eq_true c20; clear c20
           by_cases c21 : x4_3 < (l0.length : Int)
           ·rw [if_pos c21] at H; have c21b0 : decide (x4_3 < (l0.length : Int)) = true := decide_eq_true c21; clear c21
            by_cases c22 : 0 ≤ x3_1
            ·rw [if_pos c22] at H; have c22b0 : decide (0 ≤ x3_1) = true := decide_eq_true c22; clear c22
             by_cases c23 : x3_1 < (l0.length : Int)
             ·rw [if_pos c23] at H; have c23b0 : decide (x3_1 < (l0.length : Int)) = true := decide_eq_true c23; clear c23
              by_cases c24 : ((rd_T99 l0 x4_3).f0).toList = ((rd_T99 l0 x3_1).f0).toList
              ·rw [if_pos c24] at H
               have c24b0 : (((rd_T99 l0 x4_3).f0).toList == ((rd_T99 l0 x3_1).f0).toList) = true := beq_iff_eq.mpr c24
               have c24b1 : (((rd_T99 l0 x4_3).f0).toList != ((rd_T99 l0 x3_1).f0).toList) = false := bne_eq_false_iff_eq.mpr c24
               clear c24; obtain rfl := Option.some.inj H
               try go_wp2
               have n0_ := zq9 (zq4 HB.out)
               clear HB; have HB := n0_; clear n0_
               have p125 : 0 ≤ (x4_3 : Int) := of_decide_eq_true ‹_›
               have q125 : x4_3 < (l0.length : Int) := of_decide_eq_true ‹_›
               obtain ⟨ad125, e125, hx125_0, hx125_1⟩ := at_T99 HR0.out x4_3 p125 q125
               have hw125_1 := hx125_1; have hw125_0 := hx125_0; cases e125; replace hx125_0 := hcl HB hx125_0; replace hx125_1 := hcl HB hx125_1; replace p125 := eq_true p125; replace q125 := eq_true q125
               have p126 : 0 ≤ (x3_1 : Int) := of_decide_eq_true ‹_›
               have q126 : x3_1 < (l0.length : Int) := of_decide_eq_true ‹_›
               obtain ⟨ad126, e126, hx126_0, hx126_1⟩ := at_T99 HR0.out x3_1 p126 q126
               have hw126_1 := hx126_1; have hw126_0 := hx126_0
               obtain rfl : ad125 = ad126 := (by injection e126)
               replace hx126_0 := hcl HB hx126_0; replace hx126_1 := hcl HB hx126_1; replace p126 := eq_true p126; replace q126 := eq_true q126
               refine start_ (n := 11) (S := fun w' => w'.cell? (ad125.add ((x4_3).toNat * 2)) = some (.string ((rd_T99 l0 x4_3).f0)) ∧ w'.cell? ⟨(ad125.add ((x4_3).toNat * 2)).block, (ad125.add ((x4_3).toNat * 2)).off + 1, none⟩ = some (.int .i64 ((rd_T99 l0 x4_3).f1)) ∧ w'.cell? (ad125.add ((x3_1).toNat * 2)) = some (.string ((rd_T99 l0 x3_1).f0)) ∧ w'.cell? ⟨(ad125.add ((x3_1).toNat * 2)).block, (ad125.add ((x3_1).toNat * 2)).off + 1, none⟩ = some (.int .i64 ((rd_T99 l0 x3_1).f1))) (ds := []) #[false, false, false, false, false, false, false, false, false, false, false] (by kernel_rfl) rfl rfl ⟨(hcm HB hw125_0), (hcm HB hw125_1), (hcm HB hw126_0), (hcm HB hw126_1)⟩ (fun hHeld => ?_); refine with_tabW spec_ScoresOk.tab9 spec_ScoresOk.bits9 (fun HT_ HW_ => ?_)
               generalize wr.drew = w25 at HB hx125_0 hx125_1 hx126_0 hx126_1 hHeld ⊢
               refine pa HT_ 0 49 (zb 11 1) ?_; refine pa HT_ 1 50 (zb 11 3) ?_; refine pa HT_ 2 51 (zb 11 7) ?_; refine pa HT_ 3 52 (zb 11 15) ?_; refine pa HT_ 5 54 (zb 11 47) ?_; refine pa HT_ 6 55 (zb 11 111) ?_; refine pa HT_ 7 56 (zb 11 239) ?_; refine pa HT_ 8 57 (zb 11 495) ?_
               refine take_ (i := 4) (N := some 53) (v := ?_) (a' := ?_) (zb 11 511) rfl rfl (take_ofW HT_.out HW_.out (by kernel_rfl)) (fun _ _ _ h => h) (Or.inl ⟨by rfl, ?_⟩) hHeld ?_ ?_
               rotate_left; ·rintro w' ⟨s0, s1, s2, s3⟩; go_simp; with_reducible rfl
               rotate_left; ·simp only [Act.put, zq0, zq1, zq2, i64_w, i32_w]; rfl
               refine take_ (i := 9) (N := some 58) (v := ?_) (a' := ?_) (zb 11 1023) rfl rfl (take_ofW HT_.out HW_.out (by kernel_rfl)) (fun _ _ _ h => h) (Or.inl ⟨by rfl, ?_⟩) hHeld ?_ ?_
               rotate_left; ·rintro w' ⟨s0, s1, s2, s3⟩; go_simp; with_reducible rfl
               rotate_left; ·simp only [Act.put, zq0, zq1, zq2, i64_w, i32_w]; rfl
               refine pa HT_ 10 59 (zb 11 2047) ?_
               refine done_ (done_of HT_.out (by kernel_rfl)) ?_
               try go_wp2
               go_ret
               exact fz (by exact bl HB)
              ·rw [if_neg c24] at H
               have c24b0 : (((rd_T99 l0 x4_3).f0).toList == ((rd_T99 l0 x3_1).f0).toList) = false := beq_eq_false_iff_ne.mpr c24
               have c24b1 : (((rd_T99 l0 x4_3).f0).toList != ((rd_T99 l0 x3_1).f0).toList) = true := bne_iff_ne.mpr c24
               have H' := zq9 H; clear H
               try go_wp2
               have n0_ := zq9 (zq4 HB.out)
               clear HB; have HB := n0_; clear n0_
               have p125 : 0 ≤ (x4_3 : Int) := of_decide_eq_true ‹_›
               have q125 : x4_3 < (l0.length : Int) := of_decide_eq_true ‹_›
               obtain ⟨ad125, e125, hx125_0, hx125_1⟩ := at_T99 HR0.out x4_3 p125 q125
               have hw125_1 := hx125_1; have hw125_0 := hx125_0; cases e125; replace hx125_0 := hcl HB hx125_0; replace hx125_1 := hcl HB hx125_1; replace p125 := eq_true p125; replace q125 := eq_true q125
               have p126 : 0 ≤ (x3_1 : Int) := of_decide_eq_true ‹_›
               have q126 : x3_1 < (l0.length : Int) := of_decide_eq_true ‹_›
               obtain ⟨ad126, e126, hx126_0, hx126_1⟩ := at_T99 HR0.out x3_1 p126 q126
               have hw126_1 := hx126_1; have hw126_0 := hx126_0
               obtain rfl : ad125 = ad126 := (by injection e126)
               replace hx126_0 := hcl HB hx126_0; replace hx126_1 := hcl HB hx126_1; replace p126 := eq_true p126; replace q126 := eq_true q126
               refine start_ (n := 11) (S := fun w' => w'.cell? (ad125.add ((x4_3).toNat * 2)) = some (.string ((rd_T99 l0 x4_3).f0)) ∧ w'.cell? ⟨(ad125.add ((x4_3).toNat * 2)).block, (ad125.add ((x4_3).toNat * 2)).off + 1, none⟩ = some (.int .i64 ((rd_T99 l0 x4_3).f1)) ∧ w'.cell? (ad125.add ((x3_1).toNat * 2)) = some (.string ((rd_T99 l0 x3_1).f0)) ∧ w'.cell? ⟨(ad125.add ((x3_1).toNat * 2)).block, (ad125.add ((x3_1).toNat * 2)).off + 1, none⟩ = some (.int .i64 ((rd_T99 l0 x3_1).f1))) (ds := []) #[false, false, false, false, false, false, false, false, false, false, false] (by kernel_rfl) rfl rfl ⟨(hcm HB hw125_0), (hcm HB hw125_1), (hcm HB hw126_0), (hcm HB hw126_1)⟩ (fun hHeld => ?_); refine with_tabW spec_ScoresOk.tab9 spec_ScoresOk.bits9 (fun HT_ HW_ => ?_)
               generalize wr.drew = w26 at HB hx125_0 hx125_1 hx126_0 hx126_1 hHeld ⊢
               refine pa HT_ 0 49 (zb 11 1) ?_; refine pa HT_ 1 50 (zb 11 3) ?_; refine pa HT_ 2 51 (zb 11 7) ?_; refine pa HT_ 3 52 (zb 11 15) ?_; refine pa HT_ 5 54 (zb 11 47) ?_; refine pa HT_ 6 55 (zb 11 111) ?_; refine pa HT_ 7 56 (zb 11 239) ?_; refine pa HT_ 8 57 (zb 11 495) ?_
               refine take_ (i := 4) (N := some 53) (v := ?_) (a' := ?_) (zb 11 511) rfl rfl (take_ofW HT_.out HW_.out (by kernel_rfl)) (fun _ _ _ h => h) (Or.inl ⟨by rfl, ?_⟩) hHeld ?_ ?_
               rotate_left; ·rintro w' ⟨s0, s1, s2, s3⟩; go_simp; with_reducible rfl
               rotate_left; ·simp only [Act.put, zq0, zq1, zq2, i64_w, i32_w]; rfl
               refine take_ (i := 9) (N := some 58) (v := ?_) (a' := ?_) (zb 11 1023) rfl rfl (take_ofW HT_.out HW_.out (by kernel_rfl)) (fun _ _ _ h => h) (Or.inl ⟨by rfl, ?_⟩) hHeld ?_ ?_
               rotate_left; ·rintro w' ⟨s0, s1, s2, s3⟩; go_simp; with_reducible rfl
               rotate_left; ·simp only [Act.put, zq0, zq1, zq2, i64_w, i32_w]; rfl
               refine pa HT_ 10 59 (zb 11 2047) ?_
               refine done_ (done_of HT_.out (by kernel_rfl)) ?_
               try go_wp2
               go_roundg k3
               case measure => have := HK1.out; have := HJ2.out; have := HK3.out; omega
               case rel => exact ⟨(wrap64 (x4_3 + 1)), (by first | rfl | (simp; done) | (simp [*]; done)), H', ⟨by have := HK1.out; have := HJ2.out; have := HK3.out; omega⟩, ⟨by exact bl HB⟩⟩
             ·rw [if_neg c23] at H
              exact absurd H (by simp)
            ·rw [if_neg c22] at H
             exact absurd H (by simp)
           ·rw [if_neg c21] at H
            exact absurd H (by simp)
          ·rw [if_neg c20] at H
           exact absurd H (by simp)
         ·rw [if_neg c19] at H; have c19b0 : decide (x4_3 < x3_1) = false := decide_eq_false c19; clear c19; have H' := zq9 H; clear H
          go_wp2
          go_roundg k3
          case measure => have := HK1.out; have := HJ2.out; have := HK3.out; omega
          case rel => exact ⟨(wrap64 (x3_1 + 1)), (by first | rfl | (simp; done) | (simp [*]; done)), H', ⟨by have := HK1.out; have := HJ2.out; have := HK3.out; omega⟩, ⟨by exact bl HB⟩⟩
   ·rw [if_neg c2] at H; have c2b0 : decide (x3_1 < (l0.length : Int)) = false := decide_eq_false c2; clear c2; obtain rfl := Option.some.inj H
    go_wp2
    go_ret
    exact fz (by exact bl HB)
set_option maxHeartbeats 8000000 in
set_option maxRecDepth 100000 in
theorem spec_FieldsOk.calls (k : Nat) (A0 : Option Addr) (c0 : Nat) (l0 : List (S101)) (r : Bool) (w : World) (hr0 : Kd.C k101 w A0 l0.length l0) (hc0 : l0.length ≤ c0) (h : spec_FieldsOk.f k l0 = some r) :
  Calls Try.prog 44 #[.slice A0 l0.length c0] w fun e w' => e = .returned (.bool r) ∧ Drawn0 w w' := by
 have HR0 := zq9 hr0; have HC0 := zq9 hc0; clear hr0 hc0
 have H : (spec_FieldsOk.l0 k l0 0) = some r := h
 clear h; have H' := zq9 H; clear H
 go_enter Try.func44, Try.ntmps44
 go_wp2
 repeat (go_quiet (fail); try go_wp2)
 go_loopg [3] k (fun kq v3 w' => ∃ (x3_1 : Int), v3 = .int .i64 x3_1 ∧ Aside0 (spec_FieldsOk.l0 kq l0 x3_1 = some r) ∧ Aside0 (kq ≤ k) ∧ Drawn0 w w')
 case atStart => exact ⟨(0), (by first | rfl | (simp; done) | (simp [*]; done)), H', ⟨Nat.le_refl _⟩, by repeat (first | exact Drawn0.refl _ | apply Drawn0.step)⟩
 case round =>
  clear H'
  obtain ⟨x3_1, rfl, HA, HK1, ⟨m1, rfl⟩⟩ := hrel
  cases gk with
  | zero => exact absurd HA.out (by simp [spec_FieldsOk.l0])
  | succ k1 =>
   have H := HA.out; clear HA
   simp only [spec_FieldsOk.l0] at H
   refine (Classical.em (x3_1 < (l0.length : Int))).elim (fun c2 => ?p0) (fun c2 => ?n0)
   case' p0 =>
    rw [if_pos c2] at H; have c2b0 : decide (x3_1 < (l0.length : Int)) = true := decide_eq_true c2; clear c2
    refine (Classical.em (0 ≤ x3_1)).elim (fun c3 => ?p1) (fun c3 => ?n1)
    case' p1 =>
     rw [if_pos c3] at H; have c3b0 : decide (0 ≤ x3_1) = true := decide_eq_true c3; clear c3
     have p127 : 0 ≤ (x3_1 : Int) := of_decide_eq_true ‹_›
     have q127 : x3_1 < (l0.length : Int) := of_decide_eq_true ‹_›
     obtain ⟨ad127, e127, hx127_0, hx127_1⟩ := at_T101 HR0.out x3_1 p127 q127
     cases e127; replace p127 := eq_true p127; replace q127 := eq_true q127
     refine (Classical.em ((((rd_T101 l0 x3_1).f0).size : Int) > 40)).elim (fun c4 => ?p2) (fun c4 => ?n2)
     case' p2 =>
      rw [if_pos c4] at H; have c4b0 : decide (40 < (((rd_T101 l0 x3_1).f0).size : Int)) = true := decide_eq_true c4
      have c4b1 : decide (40 < ((rd_T101 l0 x3_1).f0).size) = true := decide_eq_true (by omega)
      clear c4; obtain rfl := Option.some.inj H
     case' n2 =>
      rw [if_neg c4] at H; have c4b0 : decide (40 < (((rd_T101 l0 x3_1).f0).size : Int)) = false := decide_eq_false c4
      have c4b1 : decide (40 < ((rd_T101 l0 x3_1).f0).size) = false := decide_eq_false (by omega)
      clear c4
      have p128 : 0 ≤ (x3_1 : Int) := of_decide_eq_true ‹_›
      have q128 : x3_1 < (l0.length : Int) := of_decide_eq_true ‹_›
      obtain ⟨ad128, e128, hx128_0, hx128_1⟩ := at_T101 HR0.out x3_1 p128 q128
      obtain rfl : ad127 = ad128 := (by injection e128)
      replace p128 := eq_true p128; replace q128 := eq_true q128
      refine (Classical.em ((((rd_T101 l0 x3_1).f1).size : Int) > 40)).elim (fun c5 => ?p3) (fun c5 => ?n3)
      case' p3 =>
       rw [if_pos c5] at H; have c5b0 : decide (40 < (((rd_T101 l0 x3_1).f1).size : Int)) = true := decide_eq_true c5
       have c5b1 : decide (40 < ((rd_T101 l0 x3_1).f1).size) = true := decide_eq_true (by omega)
       clear c5; obtain rfl := Option.some.inj H
      case n3 =>
       rw [if_neg c5] at H; have c5b0 : decide (40 < (((rd_T101 l0 x3_1).f1).size : Int)) = false := decide_eq_false c5
       have c5b1 : decide (40 < ((rd_T101 l0 x3_1).f1).size) = false := decide_eq_false (by omega)
       clear c5
       by_cases c6 : x3_1 > 0
       ·rw [if_pos c6] at H; have c6b0 : decide (0 < x3_1) = true := decide_eq_true c6; clear c6
        obtain ⟨ji7, hji7⟩ : ∃ j_ : Int, (wrap64 (x3_1 - 1)) = j_ := ⟨_, rfl⟩
        replace H : (if 0 ≤ (ji7) then (if (ji7) < (l0.length : Int) then (if ((Op.bytesLess (((rd_T101 l0 (ji7)).f0).toList) (((rd_T101 l0 x3_1).f0).toList)) = true) then (spec_FieldsOk.l0 k1 l0 (wrap64 (x3_1 + 1))) else (some false)) else (none)) else (none)) = some r := by first | (rw [hji7] at H; exact H) | (simp only [hji7] at H ⊢; exact H)
        have hji7w : (IntKind.i64.wrap (x3_1 - 1)) = ji7 := (i64_w _).trans hji7
        by_cases c8 : 0 ≤ (ji7)
        ·rw [if_pos c8] at H; have c8b0 : decide (0 ≤ (ji7)) = true := decide_eq_true c8; clear c8
         by_cases c9 : (ji7) < (l0.length : Int)
         ·rw [if_pos c9] at H; have c9b0 : decide ((ji7) < (l0.length : Int)) = true := decide_eq_true c9; clear c9
          have p129 : 0 ≤ ((ji7) : Int) := of_decide_eq_true ‹_›
          have q129 : (ji7) < (l0.length : Int) := of_decide_eq_true ‹_›
          obtain ⟨ad129, e129, hx129_0, hx129_1⟩ := at_T101 HR0.out (ji7) p129 q129
          obtain rfl : ad127 = ad129 := (by injection e129)
          replace p129 := eq_true p129; replace q129 := eq_true q129
          have p130 : 0 ≤ (x3_1 : Int) := of_decide_eq_true ‹_›
          have q130 : x3_1 < (l0.length : Int) := of_decide_eq_true ‹_›
          obtain ⟨ad130, e130, hx130_0, hx130_1⟩ := at_T101 HR0.out x3_1 p130 q130
          obtain rfl : ad127 = ad130 := (by injection e130)
          replace p130 := eq_true p130; replace q130 := eq_true q130
          go_wp2
          by_cases c10 : ((Op.bytesLess (((rd_T101 l0 (ji7)).f0).toList) (((rd_T101 l0 x3_1).f0).toList)) = true)
          ·rw [if_pos c10] at H
           have c10b0 : (Op.bytesLess (((rd_T101 l0 (ji7)).f0).toList) (((rd_T101 l0 x3_1).f0).toList)) = true := c10
           clear c10; have H' := zq9 H; clear H
           repeat (go_quiet (fail); try go_wp2)
           go_roundg k1
           case measure => have := HK1.out; omega
           case rel => exact ⟨(wrap64 (x3_1 + 1)), (by first | rfl | (simp; done) | (simp [*]; done)), H', ⟨by have := HK1.out; omega⟩, by repeat (first | exact Drawn0.refl _ | apply Drawn0.step)⟩
          ·rw [if_neg c10] at H
           have c10b0 : (Op.bytesLess (((rd_T101 l0 (ji7)).f0).toList) (((rd_T101 l0 x3_1).f0).toList)) = false := by simpa using c10
           clear c10; obtain rfl := Option.some.inj H
           repeat (go_quiet (fail); try go_wp2)
           go_ret
           exact ⟨by first | rfl | (simp; done) | (simp only [← hji7] <;> (first | rfl | simp)) | (simp [*]; done), by repeat (first | exact Drawn0.refl _ | apply Drawn0.step)⟩
         ·rw [if_neg c9] at H
          exact absurd H (by simp)
        ·rw [if_neg c8] at H
         exact absurd H (by simp)
       ·rw [if_neg c6] at H; have c6b0 : decide (0 < x3_1) = false := decide_eq_false c6; clear c6; have H' := zq9 H; clear H
        go_wp2
        repeat (go_quiet (fail); try go_wp2)
        go_roundg k1
        case measure => have := HK1.out; omega
        case rel => exact ⟨(wrap64 (x3_1 + 1)), (by first | rfl | (simp; done) | (simp [*]; done)), H', ⟨by have := HK1.out; omega⟩, by repeat (first | exact Drawn0.refl _ | apply Drawn0.step)⟩
    case n1 =>
     rw [if_neg c3] at H
     exact absurd H (by simp)
   case' n0 =>
    rw [if_neg c2] at H; have c2b0 : decide (x3_1 < (l0.length : Int)) = false := decide_eq_false c2; clear c2; obtain rfl := Option.some.inj H
   case p2 | n2 | n0 =>
    try go_wp2
    repeat (go_quiet (fail); try go_wp2)
    go_ret
    exact ⟨by first | rfl | (simp; done) | (simp [*]; done), by repeat (first | exact Drawn0.refl _ | apply Drawn0.step)⟩
set_option maxHeartbeats 8000000 in
set_option maxRecDepth 100000 in
theorem spec_EntryOk.calls (k : Nat) (a0_0 : ByteArray) (a0_1 : Int) (a0_2 : Int) (a0_3 : ByteArray) (A0_4 : Option Addr) (c0_4 : Nat) (l0_4 : List ByteArray) (A0_5 : Option Addr) (c0_5 : Nat) (l0_5 : List (S99)) (A0_6 : Option Addr) (c0_6 : Nat) (l0_6 : List (S101)) (r : Bool) (w : World) (hr0_4 : Kd.C Kd.string w A0_4 l0_4.length l0_4) (hc0_4 : l0_4.length ≤ c0_4) (hr0_5 : Kd.C k99 w A0_5 l0_5.length l0_5) (hc0_5 : l0_5.length ≤ c0_5) (hr0_6 : Kd.C k101 w A0_6 l0_6.length l0_6) (hc0_6 : l0_6.length ≤ c0_6) (h : spec_EntryOk.f k a0_0 a0_1 a0_2 a0_3 l0_4 l0_5 l0_6 = some r) :
  Calls Try.prog 11 #[.agg #[.string a0_0, .int .i64 a0_1, .int .i64 a0_2, .string a0_3, .slice A0_4 l0_4.length c0_4, .slice A0_5 l0_5.length c0_5, .slice A0_6 l0_6.length c0_6]] w fun e w' => e = .returned (.bool r) ∧ Below w.heap.size w w' := by
 have hu32 := Try.underlying32; have HR0_4 := zq9 hr0_4; have HC0_4 := zq9 hc0_4; clear hr0_4 hc0_4; have HR0_5 := zq9 hr0_5; have HC0_5 := zq9 hc0_5; clear hr0_5 hc0_5; have HR0_6 := zq9 hr0_6; have HC0_6 := zq9 hc0_6; clear hr0_6 hc0_6
 have HB := zq9 (Below.refl w.heap.size w)
 have H : ((spec_l4Key.f a0_0).bind fun t132 => (if t132 = true then ((spec_l1In.f a0_1 0 2000000).bind fun t133 => (spec_EntryOk.j0 k (!t133) a0_0 a0_1 a0_2 a0_3 l0_4 l0_5 l0_6)) else (spec_EntryOk.j0 k true a0_0 a0_1 a0_2 a0_3 l0_4 l0_5 l0_6))) = some r := h
 clear h; have HC2 := zq9 H; clear H
 go_enter Try.func11, Try.ntmps11
 go_upto_region 1 with (first | ((with_reducible refine zq25 (N := 1) rfl ?_); refine bx 1 #[.string a0_0, .int .i64 a0_1, .int .i64 a0_2, .string a0_3, .slice A0_4 l0_4.length c0_4, .slice A0_5 l0_5.length c0_5, .slice A0_6 l0_6.length c0_6] 32 ?_; intro gb131 hg w3 hbox hb; have n0_ := zq9 (zq27 (by exact bl HB) hb); have n1_ := zq9 (hbox); have n2_ := zq9 ((by rw [hg]; exact (zq29 (by exact bl HB)) : w.heap.size ≤ gb131)); have n3_ := n2_; clear HB; have HB := n0_; have BK131 := n1_; have GW131 := n2_; have GE131 := n3_; clear n0_ n1_ n2_ n3_; clear hb hbox hg))
 (try simp only [Act.put, zq0, zq1, zq2])
 go_cut [16] (fun v16 wc => ∃ (kq : Nat) (x16_1 : Bool), v16 = .bool x16_1 ∧ Aside0 (spec_EntryOk.j0 kq x16_1 a0_0 a0_1 a0_2 a0_3 l0_4 l0_5 l0_6 = some r) ∧ Aside0 (kq ≤ k) ∧ Aside0 (wc.heap[gb131]? = some (.cells #[.string a0_0, .int .i64 a0_1, .int .i64 a0_2, .string a0_3, (.slice A0_4 l0_4.length c0_4), (.slice A0_5 l0_5.length c0_5), (.slice A0_6 l0_6.length c0_6)] 32 (0, 0))) ∧ Aside0 (Below w.heap.size w wc))
 case first =>
  have H := HC2.out; clear HC2; replace H := Option.bind_eq_some_iff.mp H; obtain ⟨t132, A40, H⟩ := H
  try dsimp only at H
  have A4 := zq9 A40; clear A40
  have hcz7_0 : w3.cell? ⟨gb131, 0, none⟩ = some (.string a0_0) := bc BK131 0
  have hcz7_1 : w3.cell? ⟨gb131, 1, none⟩ = some (.int .i64 a0_1) := bc BK131 1
  have hcz7_2 : w3.cell? ⟨gb131, 2, none⟩ = some (.int .i64 a0_2) := bc BK131 2
  have hcz7_3 : w3.cell? ⟨gb131, 3, none⟩ = some (.string a0_3) := bc BK131 3
  have hcz7_4 : w3.cell? ⟨gb131, 4, none⟩ = some (.slice A0_4 l0_4.length c0_4) := bc BK131 4
  have hcz7_5 : w3.cell? ⟨gb131, 5, none⟩ = some (.slice A0_5 l0_5.length c0_5) := bc BK131 5
  have hcz7_6 : w3.cell? ⟨gb131, 6, none⟩ = some (.slice A0_6 l0_6.length c0_6) := bc BK131 6
  have hfz7_0 := zq6 BK131.out 0
  have hfz7_1 := zq6 BK131.out 1
  have hfz7_2 := zq6 BK131.out 2
  have hfz7_3 := zq6 BK131.out 3
  have hfz7_4 := zq6 BK131.out 4
  have hfz7_5 := zq6 BK131.out 5
  have hfz7_6 := zq6 BK131.out 6
  by_cases c5 : t132 = true
  ·subst c5
   have H1 : ((spec_l1In.f a0_1 0 2000000).bind fun t133 => (spec_EntryOk.j0 k (!t133) a0_0 a0_1 a0_2 a0_3 l0_4 l0_5 l0_6)) = some r := by rw [if_pos rfl] at H; exact H
   clear H; have H := H1; clear H1; replace H := Option.bind_eq_some_iff.mp H; obtain ⟨t133, A60, H⟩ := H
   try dsimp only at H
   have A6 := zq9 A60; clear A60; have H' := zq9 H; clear H
   go_wp2_with (first | ((with_reducible refine zq24 (f := 39) rfl ?_); refine gl (some 9) Try.func39 #[.string a0_0] ?_; (with_reducible refine (spec_l4Key.calls a0_0 true _ A4.out).mono ?_); rintro e w' ⟨rfl, ⟨nd, rfl⟩⟩; refine ⟨_, rfl, ?_⟩) | (go_at_call 40; (with_reducible refine (spec_l1In.calls a0_1 0 2000000 t133 _ A6.out).mono ?_); rintro e w' ⟨rfl, ⟨nd, rfl⟩⟩))
   go_meet
   case rel => exact ⟨_, (!t133), (by first | rfl | (simp; done) | (simp [*]; done)), H', ⟨by first | omega | exact Nat.le_refl _⟩, ⟨by refine bp ?_; exact BK131.out⟩, ⟨by exact b1 HB GE131⟩⟩
  ·replace c5 := Bool.eq_false_iff.mpr c5
   subst c5
   have H1 : (spec_EntryOk.j0 k true a0_0 a0_1 a0_2 a0_3 l0_4 l0_5 l0_6) = some r := by rw [if_neg (show ¬ (false = true) by decide)] at H; exact H
   clear H; have H := H1; clear H1; have H' := zq9 H; clear H
   go_wp2_with (first | ((with_reducible refine zq24 (f := 39) rfl ?_); refine gl (some 9) Try.func39 #[.string a0_0] ?_; (with_reducible refine (spec_l4Key.calls a0_0 false _ A4.out).mono ?_); rintro e w' ⟨rfl, ⟨nd, rfl⟩⟩; refine ⟨_, rfl, ?_⟩))
   go_meet
   case rel => exact ⟨_, (true), (by first | rfl | (simp; done) | (simp [*]; done)), H', ⟨by first | omega | exact Nat.le_refl _⟩, ⟨by refine bp ?_; exact BK131.out⟩, ⟨by exact b1 HB GE131⟩⟩
 case rest =>
  clear HC2
  try clear c1
  try clear p2
  try clear c3
  try clear c5
  try clear hcz7_0
  try clear hcz7_1
  try clear hcz7_2
  try clear hcz7_3
  try clear hcz7_4
  try clear hcz7_5
  try clear hcz7_6
  try clear hcz8_0
  try clear hcz8_1
  try clear hcz8_2
  try clear hcz8_3
  try clear hcz8_4
  try clear hcz8_5
  try clear hcz8_6
  try clear hfz7_0
  try clear hfz7_1
  try clear hfz7_2
  try clear hfz7_3
  try clear hfz7_4
  try clear hfz7_5
  try clear hfz7_6
  try clear hfz8_0
  try clear hfz8_1
  try clear hfz8_2
  try clear hfz8_3
  try clear hfz8_4
  try clear hfz8_5
  try clear hfz8_6
  obtain ⟨kq, x16_1, rfl, HA, HJ1, BK131, HB⟩ := hcut
  cases kq with
  | zero => exact absurd HA.out (by simp [spec_EntryOk.j0])
  | succ kj1 =>
   have H := HA.out; clear HA
   simp only [spec_EntryOk.j0] at H
   refine (Classical.em (x16_1 = true)).elim (fun c9 => ?p1) (fun c9 => ?n1)
   case p1 =>
    subst c9
    have H1 : (some false) = some r := by rw [if_pos rfl] at H; exact H
    clear H; have H := H1; clear H1; obtain rfl := Option.some.inj H
    go_wp2
    go_ret
    exact fz (by exact b1 HB GE131)
   case' n1 =>
    replace c9 := Bool.eq_false_iff.mpr c9
    subst c9
    have H1 : (if a0_2 = 1 then (if (a0_3.size : Int) ≤ 40 then (if (l0_4.length : Int) = 0 then (if (l0_5.length : Int) = 0 then (some ((l0_6.length : Int) == 0)) else (some false)) else (some false)) else (some false)) else (if a0_2 = 2 then (if a0_3.toList = ([] : List UInt8) then (if ((l0_4.length : Int) = 0) then (some false) else ((spec_l2Texts.f kj1 l0_4).bind fun t134 => (if t134 = true then (if (l0_5.length : Int) = 0 then (some ((l0_6.length : Int) == 0)) else (some false)) else (some false)))) else (some false)) else (if a0_2 = 3 then (if a0_3.toList = ([] : List UInt8) then (if ((l0_4.length : Int) = 0) then (some false) else ((spec_SetOk.f kj1 l0_4).bind fun t135 => (if t135 = true then (if (l0_5.length : Int) = 0 then (some ((l0_6.length : Int) == 0)) else (some false)) else (some false)))) else (some false)) else (if a0_2 = 4 then (if a0_3.toList = ([] : List UInt8) then (if (l0_4.length : Int) = 0 then (if ((l0_5.length : Int) = 0) then (some false) else ((spec_ScoresOk.f kj1 l0_5).bind fun t136 => (if t136 = true then (some ((l0_6.length : Int) == 0)) else (some false)))) else (some false)) else (some false)) else (if a0_2 = 5 then (if a0_3.toList = ([] : List UInt8) then (if (l0_4.length : Int) = 0 then (if (l0_5.length : Int) = 0 then (if ((l0_6.length : Int) = 0) then (some false) else ((spec_FieldsOk.f kj1 l0_6).bind fun t137 => (some t137))) else (some false)) else (some false)) else (some false)) else (some false)))))) = some r := by rw [if_neg (show ¬ (false = true) by decide)] at H; exact H
    clear H; have H := H1; clear H1
    have hcz14_0 : wc.cell? ⟨gb131, 0, none⟩ = some (.string a0_0) := bc BK131 0
    have hcz14_1 : wc.cell? ⟨gb131, 1, none⟩ = some (.int .i64 a0_1) := bc BK131 1
    have hcz14_2 : wc.cell? ⟨gb131, 2, none⟩ = some (.int .i64 a0_2) := bc BK131 2
    have hcz14_3 : wc.cell? ⟨gb131, 3, none⟩ = some (.string a0_3) := bc BK131 3
    have hcz14_4 : wc.cell? ⟨gb131, 4, none⟩ = some (.slice A0_4 l0_4.length c0_4) := bc BK131 4
    have hcz14_5 : wc.cell? ⟨gb131, 5, none⟩ = some (.slice A0_5 l0_5.length c0_5) := bc BK131 5
    have hcz14_6 : wc.cell? ⟨gb131, 6, none⟩ = some (.slice A0_6 l0_6.length c0_6) := bc BK131 6
    have hfz14_0 := zq6 BK131.out 0
    have hfz14_1 := zq6 BK131.out 1
    have hfz14_2 := zq6 BK131.out 2
    have hfz14_3 := zq6 BK131.out 3
    have hfz14_4 := zq6 BK131.out 4
    have hfz14_5 := zq6 BK131.out 5
    have hfz14_6 := zq6 BK131.out 6
    refine (Classical.em (a0_2 = 1)).elim (fun c10 => ?p2) (fun c10 => ?n2)
    case p2 =>
     rw [if_pos c10] at H
     have c10b0 : (a0_2 == 1) = true := beq_iff_eq.mpr c10
     have c10b1 : (a0_2 != 1) = false := bne_eq_false_iff_eq.mpr c10
     clear c10
     by_cases c11 : (a0_3.size : Int) ≤ 40
     ·rw [if_pos c11] at H; have c11b0 : decide ((a0_3.size : Int) ≤ 40) = true := decide_eq_true c11
      have c11b1 : decide (a0_3.size ≤ 40) = true := decide_eq_true (by omega)
      clear c11
      by_cases c12 : (l0_4.length : Int) = 0
      ·rw [if_pos c12] at H
       have c12b0 : ((l0_4.length : Int) == 0) = true := beq_iff_eq.mpr c12
       have c12b1 : ((l0_4.length : Int) != 0) = false := bne_eq_false_iff_eq.mpr c12
       clear c12
       by_cases c13 : (l0_5.length : Int) = 0
       ·rw [if_pos c13] at H
        have c13b0 : ((l0_5.length : Int) == 0) = true := beq_iff_eq.mpr c13
        have c13b1 : ((l0_5.length : Int) != 0) = false := bne_eq_false_iff_eq.mpr c13
        clear c13; obtain rfl := Option.some.inj H
        go_wp2
        go_ret
        exact fz (by exact b1 HB GE131)
       ·rw [if_neg c13] at H
        have c13b0 : ((l0_5.length : Int) == 0) = false := beq_eq_false_iff_ne.mpr c13
        have c13b1 : ((l0_5.length : Int) != 0) = true := bne_iff_ne.mpr c13
        have c13b2 : ¬ (l0_5 = []) := fun h_ => c13 (by rw [h_]; rfl)
        obtain rfl := Option.some.inj H
        go_wp2
        go_ret
        exact fz (by exact b1 HB GE131)
      ·rw [if_neg c12] at H
       have c12b0 : ((l0_4.length : Int) == 0) = false := beq_eq_false_iff_ne.mpr c12
       have c12b1 : ((l0_4.length : Int) != 0) = true := bne_iff_ne.mpr c12
       have c12b2 : ¬ (l0_4 = []) := fun h_ => c12 (by rw [h_]; rfl)
       obtain rfl := Option.some.inj H
       go_wp2
       go_ret
       exact fz (by exact b1 HB GE131)
     ·rw [if_neg c11] at H; have c11b0 : decide ((a0_3.size : Int) ≤ 40) = false := decide_eq_false c11
      have c11b1 : decide (a0_3.size ≤ 40) = false := decide_eq_false (by omega)
      clear c11; obtain rfl := Option.some.inj H
      go_wp2
      go_ret
      exact fz (by exact b1 HB GE131)
    case' n2 =>
     rw [if_neg c10] at H
     have c10b0 : (a0_2 == 1) = false := beq_eq_false_iff_ne.mpr c10
     have c10b1 : (a0_2 != 1) = true := bne_iff_ne.mpr c10
     refine (Classical.em (a0_2 = 2)).elim (fun c18 => ?p6) (fun c18 => ?n6)
     case' p6 =>
      rw [if_pos c18] at H
      have c18b0 : (a0_2 == 2) = true := beq_iff_eq.mpr c18
      have c18b1 : (a0_2 != 2) = false := bne_eq_false_iff_eq.mpr c18
      clear c18
      refine (Classical.em (a0_3.toList = ([] : List UInt8))).elim (fun c19 => ?p7) (fun c19 => ?n7)
      case' p7 =>
       rw [if_pos c19] at H
       have c19b0 : (a0_3.toList == ([] : List UInt8)) = true := beq_iff_eq.mpr c19
       have c19b1 : (a0_3.toList != ([] : List UInt8)) = false := bne_eq_false_iff_eq.mpr c19
       clear c19
       refine (Classical.em (((l0_4.length : Int) = 0))).elim (fun c20 => ?p8) (fun c20 => ?n8)
       case p8 =>
        rw [if_pos c20] at H
        have c20b0 : ((l0_4.length : Int) == 0) = true := beq_iff_eq.mpr c20
        have c20b1 : ((l0_4.length : Int) != 0) = false := bne_eq_false_iff_eq.mpr c20
        clear c20; obtain rfl := Option.some.inj H
        go_wp2
        go_ret
        exact fz (by exact b1 HB GE131)
       case' n8 =>
        rw [if_neg c20] at H
        have c20b0 : ((l0_4.length : Int) == 0) = false := beq_eq_false_iff_ne.mpr c20
        have c20b1 : ((l0_4.length : Int) != 0) = true := bne_iff_ne.mpr c20
        have c20b2 : ¬ (l0_4 = []) := fun h_ => c20 (by rw [h_]; rfl)
        replace H := Option.bind_eq_some_iff.mp H; obtain ⟨t134, A220, H⟩ := H
        try dsimp only at H
        have A22 := zq9 A220; clear A220
        refine (Classical.em (t134 = true)).elim (fun c23 => ?p9) (fun c23 => ?n9)
        case' p9 =>
         subst c23
         have H1 : (if (l0_5.length : Int) = 0 then (some ((l0_6.length : Int) == 0)) else (some false)) = some r := by rw [if_pos rfl] at H; exact H
         clear H; have H := H1; clear H1
         refine (Classical.em ((l0_5.length : Int) = 0)).elim (fun c24 => ?p10) (fun c24 => ?n10)
         case' p10 =>
          rw [if_pos c24] at H
          have c24b0 : ((l0_5.length : Int) == 0) = true := beq_iff_eq.mpr c24
          have c24b1 : ((l0_5.length : Int) != 0) = false := bne_eq_false_iff_eq.mpr c24
          clear c24; obtain rfl := Option.some.inj H
         case' n10 =>
          rw [if_neg c24] at H
          have c24b0 : ((l0_5.length : Int) == 0) = false := beq_eq_false_iff_ne.mpr c24
          have c24b1 : ((l0_5.length : Int) != 0) = true := bne_iff_ne.mpr c24
          have c24b2 : ¬ (l0_5 = []) := fun h_ => c24 (by rw [h_]; rfl)
          obtain rfl := Option.some.inj H
        case' n9 =>
         replace c23 := Bool.eq_false_iff.mpr c23
         subst c23
         have H1 : (some false) = some r := by rw [if_neg (show ¬ (false = true) by decide)] at H; exact H
         clear H; have H := H1; clear H1; obtain rfl := Option.some.inj H
      case n7 =>
       rw [if_neg c19] at H
       have c19b0 : (a0_3.toList == ([] : List UInt8)) = false := beq_eq_false_iff_ne.mpr c19
       have c19b1 : (a0_3.toList != ([] : List UInt8)) = true := bne_iff_ne.mpr c19
       obtain rfl := Option.some.inj H
       go_wp2
       go_ret
       exact fz (by exact b1 HB GE131)
     case' n6 =>
      rw [if_neg c18] at H
      have c18b0 : (a0_2 == 2) = false := beq_eq_false_iff_ne.mpr c18
      have c18b1 : (a0_2 != 2) = true := bne_iff_ne.mpr c18
      refine (Classical.em (a0_2 = 3)).elim (fun c29 => ?p11) (fun c29 => ?n11)
      case' p11 =>
       rw [if_pos c29] at H
       have c29b0 : (a0_2 == 3) = true := beq_iff_eq.mpr c29
       have c29b1 : (a0_2 != 3) = false := bne_eq_false_iff_eq.mpr c29
       clear c29
       refine (Classical.em (a0_3.toList = ([] : List UInt8))).elim (fun c30 => ?p12) (fun c30 => ?n12)
       case' p12 =>
        rw [if_pos c30] at H
        have c30b0 : (a0_3.toList == ([] : List UInt8)) = true := beq_iff_eq.mpr c30
        have c30b1 : (a0_3.toList != ([] : List UInt8)) = false := bne_eq_false_iff_eq.mpr c30
        clear c30
        refine (Classical.em (((l0_4.length : Int) = 0))).elim (fun c31 => ?p13) (fun c31 => ?n13)
        case p13 =>
         rw [if_pos c31] at H
         have c31b0 : ((l0_4.length : Int) == 0) = true := beq_iff_eq.mpr c31
         have c31b1 : ((l0_4.length : Int) != 0) = false := bne_eq_false_iff_eq.mpr c31
         clear c31; obtain rfl := Option.some.inj H
         go_wp2
         go_ret
         exact fz (by exact b1 HB GE131)
        case' n13 =>
         rw [if_neg c31] at H
         have c31b0 : ((l0_4.length : Int) == 0) = false := beq_eq_false_iff_ne.mpr c31
         have c31b1 : ((l0_4.length : Int) != 0) = true := bne_iff_ne.mpr c31
         have c31b2 : ¬ (l0_4 = []) := fun h_ => c31 (by rw [h_]; rfl)
         replace H := Option.bind_eq_some_iff.mp H; obtain ⟨t135, A330, H⟩ := H
         try dsimp only at H
         have A33 := zq9 A330; clear A330
         refine (Classical.em (t135 = true)).elim (fun c34 => ?p14) (fun c34 => ?n14)
         case' p14 =>
          subst c34
          have H1 : (if (l0_5.length : Int) = 0 then (some ((l0_6.length : Int) == 0)) else (some false)) = some r := by rw [if_pos rfl] at H; exact H
          clear H; have H := H1; clear H1
          refine (Classical.em ((l0_5.length : Int) = 0)).elim (fun c35 => ?p15) (fun c35 => ?n15)
          case' p15 =>
           rw [if_pos c35] at H
           have c35b0 : ((l0_5.length : Int) == 0) = true := beq_iff_eq.mpr c35
           have c35b1 : ((l0_5.length : Int) != 0) = false := bne_eq_false_iff_eq.mpr c35
           clear c35; obtain rfl := Option.some.inj H
          case' n15 =>
           rw [if_neg c35] at H
           have c35b0 : ((l0_5.length : Int) == 0) = false := beq_eq_false_iff_ne.mpr c35
           have c35b1 : ((l0_5.length : Int) != 0) = true := bne_iff_ne.mpr c35
           have c35b2 : ¬ (l0_5 = []) := fun h_ => c35 (by rw [h_]; rfl)
           obtain rfl := Option.some.inj H
         case' n14 =>
          replace c34 := Bool.eq_false_iff.mpr c34
          subst c34
          have H1 : (some false) = some r := by rw [if_neg (show ¬ (false = true) by decide)] at H; exact H
          clear H; have H := H1; clear H1; obtain rfl := Option.some.inj H
       case n12 =>
        rw [if_neg c30] at H
        have c30b0 : (a0_3.toList == ([] : List UInt8)) = false := beq_eq_false_iff_ne.mpr c30
        have c30b1 : (a0_3.toList != ([] : List UInt8)) = true := bne_iff_ne.mpr c30
        obtain rfl := Option.some.inj H
        go_wp2
        go_ret
        exact fz (by exact b1 HB GE131)
      case' n11 =>
       rw [if_neg c29] at H
       have c29b0 : (a0_2 == 3) = false := beq_eq_false_iff_ne.mpr c29
       have c29b1 : (a0_2 != 3) = true := bne_iff_ne.mpr c29
       refine (Classical.em (a0_2 = 4)).elim (fun c40 => ?p16) (fun c40 => ?n16)
       case' p16 =>
        rw [if_pos c40] at H
        have c40b0 : (a0_2 == 4) = true := beq_iff_eq.mpr c40
        have c40b1 : (a0_2 != 4) = false := bne_eq_false_iff_eq.mpr c40
        clear c40
        refine (Classical.em (a0_3.toList = ([] : List UInt8))).elim (fun c41 => ?p17) (fun c41 => ?n17)
        case' p17 =>
         rw [if_pos c41] at H
         have c41b0 : (a0_3.toList == ([] : List UInt8)) = true := beq_iff_eq.mpr c41
         have c41b1 : (a0_3.toList != ([] : List UInt8)) = false := bne_eq_false_iff_eq.mpr c41
         clear c41
         refine (Classical.em ((l0_4.length : Int) = 0)).elim (fun c42 => ?p18) (fun c42 => ?n18)
         case' p18 =>
          rw [if_pos c42] at H
          have c42b0 : ((l0_4.length : Int) == 0) = true := beq_iff_eq.mpr c42
          have c42b1 : ((l0_4.length : Int) != 0) = false := bne_eq_false_iff_eq.mpr c42
          clear c42
          refine (Classical.em (((l0_5.length : Int) = 0))).elim (fun c43 => ?p19) (fun c43 => ?n19)
          case p19 =>
           rw [if_pos c43] at H
           have c43b0 : ((l0_5.length : Int) == 0) = true := beq_iff_eq.mpr c43
           have c43b1 : ((l0_5.length : Int) != 0) = false := bne_eq_false_iff_eq.mpr c43
           clear c43; obtain rfl := Option.some.inj H
           go_wp2
           go_ret
           exact fz (by exact b1 HB GE131)
          case' n19 =>
           rw [if_neg c43] at H
           have c43b0 : ((l0_5.length : Int) == 0) = false := beq_eq_false_iff_ne.mpr c43
           have c43b1 : ((l0_5.length : Int) != 0) = true := bne_iff_ne.mpr c43
           have c43b2 : ¬ (l0_5 = []) := fun h_ => c43 (by rw [h_]; rfl)
           replace H := Option.bind_eq_some_iff.mp H; obtain ⟨t136, A450, H⟩ := H
           try dsimp only at H
           have A45 := zq9 A450; clear A450
           refine (Classical.em (t136 = true)).elim (fun c46 => ?p20) (fun c46 => ?n20)
           case' p20 =>
            subst c46
            have H1 : (some ((l0_6.length : Int) == 0)) = some r := by rw [if_pos rfl] at H; exact H
            clear H; have H := H1; clear H1; obtain rfl := Option.some.inj H
           case' n20 =>
            replace c46 := Bool.eq_false_iff.mpr c46
            subst c46
            have H1 : (some false) = some r := by rw [if_neg (show ¬ (false = true) by decide)] at H; exact H
            clear H; have H := H1; clear H1; obtain rfl := Option.some.inj H
         case n18 =>
          rw [if_neg c42] at H
          have c42b0 : ((l0_4.length : Int) == 0) = false := beq_eq_false_iff_ne.mpr c42
          have c42b1 : ((l0_4.length : Int) != 0) = true := bne_iff_ne.mpr c42
          have c42b2 : ¬ (l0_4 = []) := fun h_ => c42 (by rw [h_]; rfl)
          obtain rfl := Option.some.inj H
          go_wp2
          go_ret
          exact fz (by exact b1 HB GE131)
        case n17 =>
         rw [if_neg c41] at H
         have c41b0 : (a0_3.toList == ([] : List UInt8)) = false := beq_eq_false_iff_ne.mpr c41
         have c41b1 : (a0_3.toList != ([] : List UInt8)) = true := bne_iff_ne.mpr c41
         obtain rfl := Option.some.inj H
         go_wp2
         go_ret
         exact fz (by exact b1 HB GE131)
       case' n16 =>
        rw [if_neg c40] at H
        have c40b0 : (a0_2 == 4) = false := beq_eq_false_iff_ne.mpr c40
        have c40b1 : (a0_2 != 4) = true := bne_iff_ne.mpr c40
        refine (Classical.em (a0_2 = 5)).elim (fun c53 => ?p21) (fun c53 => ?n21)
        case' p21 =>
         rw [if_pos c53] at H
         have c53b0 : (a0_2 == 5) = true := beq_iff_eq.mpr c53
         have c53b1 : (a0_2 != 5) = false := bne_eq_false_iff_eq.mpr c53
         clear c53
         refine (Classical.em (a0_3.toList = ([] : List UInt8))).elim (fun c54 => ?p22) (fun c54 => ?n22)
         case' p22 =>
          rw [if_pos c54] at H
          have c54b0 : (a0_3.toList == ([] : List UInt8)) = true := beq_iff_eq.mpr c54
          have c54b1 : (a0_3.toList != ([] : List UInt8)) = false := bne_eq_false_iff_eq.mpr c54
          clear c54
          refine (Classical.em ((l0_4.length : Int) = 0)).elim (fun c55 => ?p23) (fun c55 => ?n23)
          case' p23 =>
           rw [if_pos c55] at H
           have c55b0 : ((l0_4.length : Int) == 0) = true := beq_iff_eq.mpr c55
           have c55b1 : ((l0_4.length : Int) != 0) = false := bne_eq_false_iff_eq.mpr c55
           clear c55
           refine (Classical.em ((l0_5.length : Int) = 0)).elim (fun c56 => ?p24) (fun c56 => ?n24)
           case' p24 =>
            rw [if_pos c56] at H
            have c56b0 : ((l0_5.length : Int) == 0) = true := beq_iff_eq.mpr c56
            have c56b1 : ((l0_5.length : Int) != 0) = false := bne_eq_false_iff_eq.mpr c56
            clear c56
            refine (Classical.em (((l0_6.length : Int) = 0))).elim (fun c57 => ?p25) (fun c57 => ?n25)
            case p25 =>
             rw [if_pos c57] at H
             have c57b0 : ((l0_6.length : Int) == 0) = true := beq_iff_eq.mpr c57
             have c57b1 : ((l0_6.length : Int) != 0) = false := bne_eq_false_iff_eq.mpr c57
             clear c57; obtain rfl := Option.some.inj H
             go_wp2
             go_ret
             exact fz (by exact b1 HB GE131)
            case' n25 =>
             rw [if_neg c57] at H
             have c57b0 : ((l0_6.length : Int) == 0) = false := beq_eq_false_iff_ne.mpr c57
             have c57b1 : ((l0_6.length : Int) != 0) = true := bne_iff_ne.mpr c57
             have c57b2 : ¬ (l0_6 = []) := fun h_ => c57 (by rw [h_]; rfl)
             replace H := Option.bind_eq_some_iff.mp H; obtain ⟨t137, A590, H⟩ := H
             try dsimp only at H
             have A59 := zq9 A590; clear A590; obtain rfl := Option.some.inj H
           case n24 =>
            rw [if_neg c56] at H
            have c56b0 : ((l0_5.length : Int) == 0) = false := beq_eq_false_iff_ne.mpr c56
            have c56b1 : ((l0_5.length : Int) != 0) = true := bne_iff_ne.mpr c56
            have c56b2 : ¬ (l0_5 = []) := fun h_ => c56 (by rw [h_]; rfl)
            obtain rfl := Option.some.inj H
            go_wp2
            go_ret
            exact fz (by exact b1 HB GE131)
          case n23 =>
           rw [if_neg c55] at H
           have c55b0 : ((l0_4.length : Int) == 0) = false := beq_eq_false_iff_ne.mpr c55
           have c55b1 : ((l0_4.length : Int) != 0) = true := bne_iff_ne.mpr c55
           have c55b2 : ¬ (l0_4 = []) := fun h_ => c55 (by rw [h_]; rfl)
           obtain rfl := Option.some.inj H
           go_wp2
           go_ret
           exact fz (by exact b1 HB GE131)
         case n22 =>
          rw [if_neg c54] at H
          have c54b0 : (a0_3.toList == ([] : List UInt8)) = false := beq_eq_false_iff_ne.mpr c54
          have c54b1 : (a0_3.toList != ([] : List UInt8)) = true := bne_iff_ne.mpr c54
          obtain rfl := Option.some.inj H
          go_wp2
          go_ret
          exact fz (by exact b1 HB GE131)
        case n21 =>
         rw [if_neg c53] at H
         have c53b0 : (a0_2 == 5) = false := beq_eq_false_iff_ne.mpr c53
         have c53b1 : (a0_2 != 5) = true := bne_iff_ne.mpr c53
         obtain rfl := Option.some.inj H
         go_wp2
         go_ret
         exact fz (by exact b1 HB GE131)
   case p10 | n10 | n9 | p15 | n15 | n14 | p20 | n20 | n16 =>
    try go_wp2_with (first | (go_at_call 44; (with_reducible refine (spec_FieldsOk.calls kj1 _ _ l0_6 t137 _ ?side1 ?side2 A59.out).mono ?_); (case side1 => exact kc HR0_6 HB); (case side2 => exact HC0_6.out); rintro e w' ⟨rfl, ⟨nd, rfl⟩⟩) | (go_at_call 43; (with_reducible refine (spec_ScoresOk.calls kj1 _ _ l0_5 _ _ ?side1 ?side2 A45.out).mono ?_); (case side1 => exact kc HR0_5 HB); (case side2 => exact HC0_5.out); rintro e w48 ⟨rfl, hb⟩; have n0_ := zq9 (zq30 (g := gb131) (o := .cells #[.string a0_0, .int .i64 a0_1, .int .i64 a0_2, .string a0_3, .slice A0_4 l0_4.length c0_4, .slice A0_5 l0_5.length c0_5, .slice A0_6 l0_6.length c0_6] 32 (0, 0)) (by exact bk BK131) hb); have n1_ := zq9 (zq27 (by exact b1 HB GE131) hb); clear BK131; clear HB; have BK131 := n0_; have HB := n1_; clear n0_ n1_; (try clear hb); (try clear hb2); (try clear hk); (try clear hi)) | (go_at_call 42; (with_reducible refine (spec_SetOk.calls kj1 _ _ l0_4 _ _ ?side1 ?side2 A33.out).mono ?_); (case side1 => exact kc HR0_4 HB); (case side2 => exact HC0_4.out); rintro e w' ⟨rfl, ⟨nd, rfl⟩⟩) | (go_at_call 41; (with_reducible refine (spec_l2Texts.calls kj1 _ _ l0_4 _ _ ?side1 ?side2 A22.out).mono ?_); (case side1 => exact kc HR0_4 HB); (case side2 => exact HC0_4.out); rintro e w' ⟨rfl, ⟨nd, rfl⟩⟩))
    go_ret
    exact fz (by exact b1 HB GE131)
def spec_BaseOk.T5 : Bool × List (List Nat × List Nat) := (true, [([], []), ([0], [0]), ([1], [1]), ([2, 1], [2]), ([3], [3]), ([4, 3], [3, 4]), ([5, 3], [3, 5]), ([6, 3, 3], [3, 6]), ([7], [7]), ([8, 7], [7, 8]), ([7], [7]), ([10, 7], [7, 10]), ([9, 11, 7], [7, 9, 11]), ([7, 12, 3], [3, 7, 12]), ([3, 13], [3, 13]), ([14, 7], [14]), ([15], [15]), ([16, 15], [15, 16]), ([17, 15, 15], [15, 17]), ([18], [18]), ([19, 18], [18, 19]), ([18], [18]), ([21, 18], [18, 21]), ([20, 22, 18], [18, 20, 22]), ([23, 18], [18, 23]), ([24, 18], [18, 24]), ([18], [18]), ([26, 18], [18, 26]), ([25, 27, 18], [18, 25, 27]), ([18, 28, 15], [15, 18, 28]), ([15, 29], [15, 29])])
def spec_BaseOk.B5 : List Nat := [0, 1, 3, 7, 15, 31, 63, 127, 255, 511, 255, 1279, 4095, 8191, 16383, 32767, 65535, 131071, 262143, 524287, 1048575, 524287, 2621439, 8388607, 16777215, 33554431, 524287, 67633151, 268435455, 536870911, 1073741823]
theorem spec_BaseOk.tab5 : rtab .any (opsOf Try.f17 5) = spec_BaseOk.T5 := by kernel_rfl
theorem spec_BaseOk.bits5 : waitsOk spec_BaseOk.T5.2 spec_BaseOk.B5 = true := by kernel_rfl
set_option maxHeartbeats 8000000 in
set_option maxRecDepth 100000 in
theorem spec_BaseOk.calls (k : Nat) (a0_0 : Int) (A0_1 : Option Addr) (c0_1 : Nat) (l0_1 : List (S32)) (r : Bool) (w : World) (hr0_1 : Kd.C k32 w A0_1 l0_1.length l0_1) (hc0_1 : l0_1.length ≤ c0_1) (h : spec_BaseOk.f k a0_0 l0_1 = some r) :
  Calls Try.prog 17 #[.agg #[.int .i64 a0_0, .slice A0_1 l0_1.length c0_1]] w fun e w' => e = .returned (.bool r) ∧ Below w.heap.size w w' := by
 have hu46 := Try.underlying46; have hu32 := Try.underlying32; have HR0_1 := zq9 hr0_1; have HC0_1 := zq9 hc0_1; clear hr0_1 hc0_1
 have HB := zq9 (Below.refl w.heap.size w)
 have H : (spec_BaseOk.l0 k 0 a0_0 l0_1) = some r := h
 clear h; have H' := zq9 H; clear H
 go_enter Try.func17, Try.ntmps17
 go_wp2_with (first | ((with_reducible refine zq25 (N := 1) rfl ?_); (try (refine gate_guard (by rfl) ?_; dsimp only)); refine bx 1 #[.int .i64 a0_0, .slice A0_1 l0_1.length c0_1] 46 ?_; intro gb645 hg w2 hbox hb; have n0_ := zq9 (zq27 (by exact bl HB) hb); have n1_ := zq9 (hbox); have n2_ := zq9 ((by rw [hg]; exact (zq29 (by exact bl HB)) : w.heap.size ≤ gb645)); have n3_ := n2_; clear HB; have HB := n0_; have BK645 := n1_; have GW645 := n2_; have GE645 := n3_; clear n0_ n1_ n2_ n3_; clear hb hbox hg))
 go_loopg [3] k (fun kq v3 w' => ∃ (x3_1 : Int), v3 = .int .i64 x3_1 ∧ Aside0 (spec_BaseOk.l0 kq x3_1 a0_0 l0_1 = some r) ∧ Aside0 (kq ≤ k) ∧ Aside0 (w'.heap[gb645]? = some (.cells #[.int .i64 a0_0, (.slice A0_1 l0_1.length c0_1)] 46 (0, 0))) ∧ Aside0 (Below w.heap.size w w'))
 case atStart => exact ⟨(0), (by first | rfl | (simp; done) | (simp [*]; done)), H', ⟨Nat.le_refl _⟩, ⟨by refine bp ?_; exact BK645.out⟩, ⟨by exact b1 HB GE645⟩⟩
 case round =>
  clear H'
  try clear c1
  try clear p2
  obtain ⟨x3_1, rfl, HA, HK1, BK645, HB⟩ := hrel
  cases gk with
  | zero => exact absurd HA.out (by simp [spec_BaseOk.l0])
  | succ k1 =>
   have H := HA.out; clear HA
   simp only [spec_BaseOk.l0] at H
   refine (Classical.em (x3_1 < (l0_1.length : Int))).elim (fun c3 => ?p0) (fun c3 => ?n0)
   case p0 =>
    rw [if_pos c3] at H; have c3b0 : decide (x3_1 < (l0_1.length : Int)) = true := decide_eq_true c3; clear c3
    by_cases c4 : 0 ≤ x3_1
    ·rw [if_pos c4] at H; have c4b0 : decide (0 ≤ x3_1) = true := decide_eq_true c4; clear c4; have HC5 := zq9 H; clear H
     have hcz6_0 : wr.cell? ⟨gb645, 0, none⟩ = some (.int .i64 a0_0) := bc BK645 0
     have hcz6_1 : wr.cell? ⟨gb645, 1, none⟩ = some (.slice A0_1 l0_1.length c0_1) := bc BK645 1
     have hfz6_0 := zq6 BK645.out 0
     have hfz6_1 := zq6 BK645.out 1
     have p647 : 0 ≤ (x3_1 : Int) := of_decide_eq_true ‹_›
     have q647 : x3_1 < (l0_1.length : Int) := of_decide_eq_true ‹_›
     obtain ⟨ad647, A647_4, c647_4, A647_5, c647_5, A647_6, c647_6, e647, hx647_0, hx647_1, hx647_2, hx647_3, hx647_4, hx647_5, hx647_6, hl647_4, hi647_4, hl647_5, hi647_5, hl647_6, hi647_6⟩ := at_T32 HR0_1.out x3_1 p647 q647
     cases e647; replace hx647_0 := hcl HB hx647_0; replace hx647_1 := hcl HB hx647_1; replace hx647_2 := hcl HB hx647_2; replace hx647_3 := hcl HB hx647_3; replace hx647_4 := hcl HB hx647_4; replace hx647_5 := hcl HB hx647_5; replace hx647_6 := hcl HB hx647_6; have HR647_4 := zq9 hi647_4; have HC647_4 := zq9 hl647_4; clear hi647_4 hl647_4; have HR647_5 := zq9 hi647_5; have HC647_5 := zq9 hl647_5; clear hi647_5 hl647_5
     have HR647_6 := zq9 hi647_6; have HC647_6 := zq9 hl647_6; clear hi647_6 hl647_6; replace p647 := eq_true p647; replace q647 := eq_true q647
     go_upto_region 5 with (first | ((with_reducible refine zq25 (N := 4) rfl ?_); (try (refine gate_guard (by rfl) ?_; dsimp only)); refine bx 4 #[.string (⟨#[]⟩ : ByteArray), .int .i64 0, .int .i64 0, .string (⟨#[]⟩ : ByteArray), .slice none 0 0, .slice none 0 0, .slice none 0 0] 32 ?_; intro gb648 hg w7 hbox hb; have n0_ := zq9 (zq30 (g := gb645) (o := .cells #[.int .i64 a0_0, .slice (some ad647) l0_1.length c0_1] 46 (0, 0)) (by exact bk BK645) hb); have n1_ := zq9 (zq27 (by exact b1 HB GE645) hb); have n2_ := zq9 (hbox); have n3_ := zq9 ((by rw [hg]; exact (zq29 (by exact b1 HB GE645)) : w.heap.size ≤ gb648)); have n4_ := n3_; have n5_ := zq9 ((by rw [hg]; exact Nat.ne_of_lt (blk_lt (g := gb645) (o := .cells #[.int .i64 a0_0, .slice (some ad647) l0_1.length c0_1] 46 (0, 0)) (by exact bk BK645)) : gb645 ≠ gb648)); have n6_ := zq9 ((by rw [hg]; exact Nat.ne_of_gt (blk_lt (g := gb645) (o := .cells #[.int .i64 a0_0, .slice (some ad647) l0_1.length c0_1] 46 (0, 0)) (by exact bk BK645)) : gb648 ≠ gb645)); clear BK645; clear HB; have BK645 := n0_; have HB := n1_; have BK648 := n2_; have GW648 := n3_; have GE648 := n4_; have NB645_648 := n5_; have NB648_645 := n6_; clear n0_ n1_ n2_ n3_ n4_ n5_ n6_; clear hb hbox hg; have hnb8 := NB648_645.out; have hnc8 := NB645_648.out; have hcz9_0 : w7.cell? ⟨gb648, 0, none⟩ = some (.string (⟨#[]⟩ : ByteArray)) := bc BK648 0; have hcz9_1 : w7.cell? ⟨gb648, 1, none⟩ = some (.int .i64 0) := bc BK648 1; have hcz9_2 : w7.cell? ⟨gb648, 2, none⟩ = some (.int .i64 0) := bc BK648 2; have hcz9_3 : w7.cell? ⟨gb648, 3, none⟩ = some (.string (⟨#[]⟩ : ByteArray)) := bc BK648 3; have hcz9_4 : w7.cell? ⟨gb648, 4, none⟩ = some (.slice none 0 0) := bc BK648 4; have hcz9_5 : w7.cell? ⟨gb648, 5, none⟩ = some (.slice none 0 0) := bc BK648 5; have hcz9_6 : w7.cell? ⟨gb648, 6, none⟩ = some (.slice none 0 0) := bc BK648 6; have hfz9_0 := zq6 BK648.out 0; have hfz9_1 := zq6 BK648.out 1; have hfz9_2 := zq6 BK648.out 2; have hfz9_3 := zq6 BK648.out 3; have hfz9_4 := zq6 BK648.out 4; have hfz9_5 := zq6 BK648.out 5; have hfz9_6 := zq6 BK648.out 6))
     (try simp only [Act.put, zq0, zq1, zq2])
     go_cut [47] (fun v47 wc => ∃ (kq : Nat) (x47_4 : Bool), v47 = .bool x47_4 ∧ Aside0 (spec_BaseOk.j1 kq x3_1 x47_4 a0_0 l0_1 = some r) ∧ Aside0 (kq ≤ k1) ∧ Aside0 (wc.heap[gb645]? = some (.cells #[.int .i64 a0_0, (.slice (some ad647) l0_1.length c0_1)] 46 (0, 0))) ∧ Aside0 (wc.heap[gb648]? = some (.cells #[.string ((rd_T32 l0_1 x3_1).f0), .int .i64 ((rd_T32 l0_1 x3_1).f1), .int .i64 ((rd_T32 l0_1 x3_1).f2), .string ((rd_T32 l0_1 x3_1).f3), (.slice A647_4 ((rd_T32 l0_1 x3_1).f4).length c647_4), (.slice A647_5 ((rd_T32 l0_1 x3_1).f5).length c647_5), (.slice A647_6 ((rd_T32 l0_1 x3_1).f6).length c647_6)] 32 (0, 0))) ∧ Aside0 (Below w.heap.size w wc))
     case first =>
      have H := HC5.out; clear HC5; replace H := Option.bind_eq_some_iff.mp H; obtain ⟨t649, A100, H⟩ := H
      try dsimp only at H
      have A10 := zq9 A100; clear A100
      by_cases c11 : t649 = true
      ·subst c11
       have H1 : (if ((rd_T32 l0_1 x3_1).f1) = 0 then (if x3_1 > 0 then (if 0 ≤ (wrap64 (x3_1 - 1)) then (if (wrap64 (x3_1 - 1)) < (l0_1.length : Int) then (spec_BaseOk.j1 k1 x3_1 (!(Op.bytesLess (((rd_T32 l0_1 (wrap64 (x3_1 - 1))).f0).toList) (((rd_T32 l0_1 x3_1).f0).toList))) a0_0 l0_1) else (none)) else (none)) else (spec_BaseOk.j1 k1 x3_1 false a0_0 l0_1)) else (if ((rd_T32 l0_1 x3_1).f1) ≤ a0_0 then (spec_BaseOk.j1 k1 x3_1 true a0_0 l0_1) else (if x3_1 > 0 then (if 0 ≤ (wrap64 (x3_1 - 1)) then (if (wrap64 (x3_1 - 1)) < (l0_1.length : Int) then (spec_BaseOk.j1 k1 x3_1 (!(Op.bytesLess (((rd_T32 l0_1 (wrap64 (x3_1 - 1))).f0).toList) (((rd_T32 l0_1 x3_1).f0).toList))) a0_0 l0_1) else (none)) else (none)) else (spec_BaseOk.j1 k1 x3_1 false a0_0 l0_1)))) = some r := by rw [if_pos rfl] at H; exact H
       clear H; have H := H1; clear H1
       by_cases c12 : ((rd_T32 l0_1 x3_1).f1) = 0
       ·rw [if_pos c12] at H
        have c12b0 : (((rd_T32 l0_1 x3_1).f1) == 0) = true := beq_iff_eq.mpr c12
        have c12b1 : (((rd_T32 l0_1 x3_1).f1) != 0) = false := bne_eq_false_iff_eq.mpr c12
        clear c12
        (first | rw [c12b0] | (simp only [i64_w, i32_w]; rw [c12b0]) | skip)
        try go_wp2
        have n0_ : Aside0 ((((((((w7.setCell ⟨gb648, 0, none⟩ (.string ((rd_T32 l0_1 x3_1).f0))).setCell ⟨gb648, 1, none⟩ (.int .i64 ((rd_T32 l0_1 x3_1).f1))).setCell ⟨gb648, 2, none⟩ (.int .i64 ((rd_T32 l0_1 x3_1).f2))).setCell ⟨gb648, 3, none⟩ (.string ((rd_T32 l0_1 x3_1).f3))).setCell ⟨gb648, 4, none⟩ (.slice A647_4 ((rd_T32 l0_1 x3_1).f4).length c647_4)).setCell ⟨gb648, 5, none⟩ (.slice A647_5 ((rd_T32 l0_1 x3_1).f5).length c647_5)).setCell ⟨gb648, 6, none⟩ (.slice A647_6 ((rd_T32 l0_1 x3_1).f6).length c647_6)).heap[gb645]? = some (.cells #[.int .i64 a0_0, .slice (some ad647) l0_1.length c0_1] 46 (0, 0))) := ⟨by refine bp ?_; refine blk_far ?_ NB645_648.out _; refine bp ?_; refine blk_far ?_ NB645_648.out _; refine bp ?_; refine blk_far ?_ NB645_648.out _; refine bp ?_; refine blk_far ?_ NB645_648.out _; refine bp ?_; refine blk_far ?_ NB645_648.out _; refine bp ?_; refine blk_far ?_ NB645_648.out _; refine bp ?_; refine blk_far ?_ NB645_648.out _; refine bp ?_; exact BK645.out⟩
        have n1_ : Aside0 ((((((((w7.setCell ⟨gb648, 0, none⟩ (.string ((rd_T32 l0_1 x3_1).f0))).setCell ⟨gb648, 1, none⟩ (.int .i64 ((rd_T32 l0_1 x3_1).f1))).setCell ⟨gb648, 2, none⟩ (.int .i64 ((rd_T32 l0_1 x3_1).f2))).setCell ⟨gb648, 3, none⟩ (.string ((rd_T32 l0_1 x3_1).f3))).setCell ⟨gb648, 4, none⟩ (.slice A647_4 ((rd_T32 l0_1 x3_1).f4).length c647_4)).setCell ⟨gb648, 5, none⟩ (.slice A647_5 ((rd_T32 l0_1 x3_1).f5).length c647_5)).setCell ⟨gb648, 6, none⟩ (.slice A647_6 ((rd_T32 l0_1 x3_1).f6).length c647_6)).heap[gb648]? = some (.cells #[.string ((rd_T32 l0_1 x3_1).f0), .int .i64 ((rd_T32 l0_1 x3_1).f1), .int .i64 ((rd_T32 l0_1 x3_1).f2), .string ((rd_T32 l0_1 x3_1).f3), .slice A647_4 ((rd_T32 l0_1 x3_1).f4).length c647_4, .slice A647_5 ((rd_T32 l0_1 x3_1).f5).length c647_5, .slice A647_6 ((rd_T32 l0_1 x3_1).f6).length c647_6] 32 (0, 0))) := ⟨(blk_set (blk_set (blk_set (blk_set (blk_set (blk_set (blk_set BK648.out 0 _) 1 _) 2 _) 3 _) 4 _) 5 _) 6 _)⟩
        have n2_ : Aside0 (Below w.heap.size w (((((((w7.setCell ⟨gb648, 0, none⟩ (.string ((rd_T32 l0_1 x3_1).f0))).setCell ⟨gb648, 1, none⟩ (.int .i64 ((rd_T32 l0_1 x3_1).f1))).setCell ⟨gb648, 2, none⟩ (.int .i64 ((rd_T32 l0_1 x3_1).f2))).setCell ⟨gb648, 3, none⟩ (.string ((rd_T32 l0_1 x3_1).f3))).setCell ⟨gb648, 4, none⟩ (.slice A647_4 ((rd_T32 l0_1 x3_1).f4).length c647_4)).setCell ⟨gb648, 5, none⟩ (.slice A647_5 ((rd_T32 l0_1 x3_1).f5).length c647_5)).setCell ⟨gb648, 6, none⟩ (.slice A647_6 ((rd_T32 l0_1 x3_1).f6).length c647_6))) := ⟨by exact b2 HB GE645 GE648⟩
        (try clear BK645)
        (try clear BK648)
        (try clear HB)
        generalize (((((((w7.setCell ⟨gb648, 0, none⟩ (.string ((rd_T32 l0_1 x3_1).f0))).setCell ⟨gb648, 1, none⟩ (.int .i64 ((rd_T32 l0_1 x3_1).f1))).setCell ⟨gb648, 2, none⟩ (.int .i64 ((rd_T32 l0_1 x3_1).f2))).setCell ⟨gb648, 3, none⟩ (.string ((rd_T32 l0_1 x3_1).f3))).setCell ⟨gb648, 4, none⟩ (.slice A647_4 ((rd_T32 l0_1 x3_1).f4).length c647_4)).setCell ⟨gb648, 5, none⟩ (.slice A647_5 ((rd_T32 l0_1 x3_1).f5).length c647_5)).setCell ⟨gb648, 6, none⟩ (.slice A647_6 ((rd_T32 l0_1 x3_1).f6).length c647_6)) = w17 at n0_ n1_ n2_ ⊢
        have BK645 := n0_; have BK648 := n1_; have HB := n2_; clear n0_ n1_ n2_
        have n0_ := zq9 (blk_drew BK645.out)
        have n1_ := zq9 (blk_drew BK648.out)
        have n2_ := zq9 (zq4 HB.out)
        clear BK645; clear BK648; clear HB; have BK645 := n0_; have BK648 := n1_; have HB := n2_; clear n0_ n1_ n2_
        by_cases c13 : x3_1 > 0
        ·rw [if_pos c13] at H; have c13b0 : decide (0 < x3_1) = true := decide_eq_true c13; clear c13
         obtain ⟨ji14, hji14⟩ : ∃ j_ : Int, (wrap64 (x3_1 - 1)) = j_ := ⟨_, rfl⟩
         replace H : (if 0 ≤ (ji14) then (if (ji14) < (l0_1.length : Int) then (spec_BaseOk.j1 k1 x3_1 (!(Op.bytesLess (((rd_T32 l0_1 (ji14)).f0).toList) (((rd_T32 l0_1 x3_1).f0).toList))) a0_0 l0_1) else (none)) else (none)) = some r := by first | (rw [hji14] at H; exact H) | (simp only [hji14] at H ⊢; exact H)
         (try rw [hji14] at A10)
         have hji14w : (IntKind.i64.wrap (x3_1 - 1)) = ji14 := (i64_w _).trans hji14
         by_cases c15 : 0 ≤ (ji14)
         ·rw [if_pos c15] at H; have c15b0 : decide (0 ≤ (ji14)) = true := decide_eq_true c15; clear c15
          by_cases c16 : (ji14) < (l0_1.length : Int)
          ·rw [if_pos c16] at H; have c16b0 : decide ((ji14) < (l0_1.length : Int)) = true := decide_eq_true c16; clear c16; have H' := zq9 H; clear H
           have p650 : 0 ≤ ((ji14) : Int) := of_decide_eq_true ‹_›
           have q650 : (ji14) < (l0_1.length : Int) := of_decide_eq_true ‹_›
           obtain ⟨ad650, A650_4, c650_4, A650_5, c650_5, A650_6, c650_6, e650, hx650_0, hx650_1, hx650_2, hx650_3, hx650_4, hx650_5, hx650_6, hl650_4, hi650_4, hl650_5, hi650_5, hl650_6, hi650_6⟩ := at_T32 HR0_1.out (ji14) p650 q650
           have hw650_6 := hx650_6; have hw650_5 := hx650_5; have hw650_4 := hx650_4; have hw650_3 := hx650_3; have hw650_2 := hx650_2; have hw650_1 := hx650_1; have hw650_0 := hx650_0
           obtain rfl : ad647 = ad650 := (by injection e650)
           replace hx650_0 := hcl HB hx650_0; replace hx650_1 := hcl HB hx650_1; replace hx650_2 := hcl HB hx650_2; replace hx650_3 := hcl HB hx650_3; replace hx650_4 := hcl HB hx650_4; replace hx650_5 := hcl HB hx650_5; replace hx650_6 := hcl HB hx650_6; have HR650_4 := zq9 hi650_4; have HC650_4 := zq9 hl650_4; clear hi650_4 hl650_4; have HR650_5 := zq9 hi650_5; have HC650_5 := zq9 hl650_5; clear hi650_5 hl650_5
           have HR650_6 := zq9 hi650_6; have HC650_6 := zq9 hl650_6; clear hi650_6 hl650_6; replace p650 := eq_true p650; replace q650 := eq_true q650
           refine start_ (n := 31) (S := fun w' => w'.cell? ⟨gb648, 0, none⟩ = some (.string ((rd_T32 l0_1 x3_1).f0)) ∧ w'.cell? ⟨gb648, 1, none⟩ = some (.int .i64 ((rd_T32 l0_1 x3_1).f1)) ∧ w'.cell? ⟨gb648, 2, none⟩ = some (.int .i64 ((rd_T32 l0_1 x3_1).f2)) ∧ w'.cell? ⟨gb648, 3, none⟩ = some (.string ((rd_T32 l0_1 x3_1).f3)) ∧ w'.cell? ⟨gb648, 4, none⟩ = some (.slice A647_4 ((rd_T32 l0_1 x3_1).f4).length c647_4) ∧ w'.cell? ⟨gb648, 5, none⟩ = some (.slice A647_5 ((rd_T32 l0_1 x3_1).f5).length c647_5) ∧ w'.cell? ⟨gb648, 6, none⟩ = some (.slice A647_6 ((rd_T32 l0_1 x3_1).f6).length c647_6) ∧ w'.cell? ⟨gb645, 0, none⟩ = some (.int .i64 a0_0) ∧ w'.cell? ⟨gb645, 1, none⟩ = some (.slice (some ad647) l0_1.length c0_1) ∧ w'.cell? (ad647.add (((ji14)).toNat * 7)) = some (.string ((rd_T32 l0_1 (ji14)).f0)) ∧ w'.cell? ⟨(ad647.add (((ji14)).toNat * 7)).block, (ad647.add (((ji14)).toNat * 7)).off + 1, none⟩ = some (.int .i64 ((rd_T32 l0_1 (ji14)).f1)) ∧ w'.cell? ⟨(ad647.add (((ji14)).toNat * 7)).block, (ad647.add (((ji14)).toNat * 7)).off + 2, none⟩ = some (.int .i64 ((rd_T32 l0_1 (ji14)).f2)) ∧ w'.cell? ⟨(ad647.add (((ji14)).toNat * 7)).block, (ad647.add (((ji14)).toNat * 7)).off + 3, none⟩ = some (.string ((rd_T32 l0_1 (ji14)).f3)) ∧ w'.cell? ⟨(ad647.add (((ji14)).toNat * 7)).block, (ad647.add (((ji14)).toNat * 7)).off + 4, none⟩ = some (.slice A650_4 ((rd_T32 l0_1 (ji14)).f4).length c650_4) ∧ w'.cell? ⟨(ad647.add (((ji14)).toNat * 7)).block, (ad647.add (((ji14)).toNat * 7)).off + 5, none⟩ = some (.slice A650_5 ((rd_T32 l0_1 (ji14)).f5).length c650_5) ∧ w'.cell? ⟨(ad647.add (((ji14)).toNat * 7)).block, (ad647.add (((ji14)).toNat * 7)).off + 6, none⟩ = some (.slice A650_6 ((rd_T32 l0_1 (ji14)).f6).length c650_6)) (ds := []) #[false, false, false, false, false, false, false, false, false, false, false, false, false, false, false, false, false, false, false, false, false, false, false, false, false, false, false, false, false, false, false] (by kernel_rfl) rfl rfl ⟨bc BK648 0, bc BK648 1, bc BK648 2, bc BK648 3, bc BK648 4, bc BK648 5, bc BK648 6, bc BK645 0, bc BK645 1, (hcm HB hw650_0), (hcm HB hw650_1), (hcm HB hw650_2), (hcm HB hw650_3), (hcm HB hw650_4), (hcm HB hw650_5), (hcm HB hw650_6)⟩ (fun hHeld => ?_); refine with_tabW spec_BaseOk.tab5 spec_BaseOk.bits5 (fun HT_ HW_ => ?_)
           generalize w17.drew = w18 at BK645 BK648 HB HR650_4 HR650_5 HR650_6 hx650_0 hx650_1 hx650_2 hx650_3 hx650_4 hx650_5 hx650_6 hHeld ⊢
           refine take_ (i := 0) (N := some 17) (v := ?_) (a' := ?_) (zb 31 1) rfl rfl (take_ofW HT_.out HW_.out (by kernel_rfl)) (fun _ _ _ h => h) (Or.inl ⟨by rfl, ?_⟩) hHeld ?_ ?_
           rotate_left; ·rintro w' ⟨s0, s1, s2, s3, s4, s5, s6, s7, s8, s9, s10, s11, s12, s13, s14, s15⟩; go_simp; with_reducible rfl
           rotate_left; ·simp only [Act.put, zq0, zq1, zq2, i64_w, i32_w]; rfl
           refine one_ (i := 1) (N := some 18) (zb 31 3) rfl rfl (one_of HT_.out (by kernel_rfl)) (by decide) (fun K hK => ?_)
           refine gs Try.func11 #[.agg #[.string ((rd_T32 l0_1 x3_1).f0), .int .i64 ((rd_T32 l0_1 x3_1).f1), .int .i64 ((rd_T32 l0_1 x3_1).f2), .string ((rd_T32 l0_1 x3_1).f3), .slice A647_4 ((rd_T32 l0_1 x3_1).f4).length c647_4, .slice A647_5 ((rd_T32 l0_1 x3_1).f5).length c647_5, .slice A647_6 ((rd_T32 l0_1 x3_1).f6).length c647_6]] ?_
           with_reducible refine (spec_EntryOk.calls k1 ((rd_T32 l0_1 x3_1).f0) ((rd_T32 l0_1 x3_1).f1) ((rd_T32 l0_1 x3_1).f2) ((rd_T32 l0_1 x3_1).f3) _ _ ((rd_T32 l0_1 x3_1).f4) _ _ ((rd_T32 l0_1 x3_1).f5) _ _ ((rd_T32 l0_1 x3_1).f6) true _ ?side1 ?side2 ?side3 ?side4 ?side5 ?side6 A10.out).mono ?_
           (case side1 => exact kc HR647_4 HB)
           (case side2 => exact HC647_4.out)
           (case side3 => exact kc HR647_5 HB)
           (case side4 => exact HC647_5.out)
           (case side5 => exact kc HR647_6 HB)
           (case side6 => exact HC647_6.out)
           rintro e w19 ⟨rfl, hb⟩
           refine ⟨_, rfl, ?_⟩
           have n0_ := zq9 (zq30 (g := gb645) (o := .cells #[.int .i64 a0_0, .slice (some ad647) l0_1.length c0_1] 46 (0, 0)) (by exact bk BK645) hb)
           have n1_ := zq9 (zq30 (g := gb648) (o := .cells #[.string ((rd_T32 l0_1 x3_1).f0), .int .i64 ((rd_T32 l0_1 x3_1).f1), .int .i64 ((rd_T32 l0_1 x3_1).f2), .string ((rd_T32 l0_1 x3_1).f3), .slice A647_4 ((rd_T32 l0_1 x3_1).f4).length c647_4, .slice A647_5 ((rd_T32 l0_1 x3_1).f5).length c647_5, .slice A647_6 ((rd_T32 l0_1 x3_1).f6).length c647_6] 32 (0, 0)) (by exact bk BK648) hb)
           have n2_ := zq9 (zq27 (by exact b2 HB GE645 GE648) hb)
           clear BK645; clear BK648; clear HB; have BK645 := n0_; have BK648 := n1_; have HB := n2_; clear n0_ n1_ n2_
           (try clear hb)
           (try clear hb2)
           (try clear hk)
           (try clear hi)
           refine hK.out _ _ ⟨bc BK648 0, bc BK648 1, bc BK648 2, bc BK648 3, bc BK648 4, bc BK648 5, bc BK648 6, bc BK645 0, bc BK645 1, (hcm HB hw650_0), (hcm HB hw650_1), (hcm HB hw650_2), (hcm HB hw650_3), (hcm HB hw650_4), (hcm HB hw650_5), (hcm HB hw650_6)⟩ (fun hHeld => ?_)
           clear hK K
           refine norm_ (a' := ?_) ?_ ?_
           rotate_left; ·show Act.put _ (some 18) _ = _; simp only [Act.put, zq0, zq1, zq2, i64_w, i32_w]; rfl
           refine pa HT_ 2 19 (zb 31 7) ?_; refine pa HT_ 3 20 (zb 31 15) ?_; refine pa HT_ 4 21 (zb 31 31) ?_
           refine take_ (i := 5) (N := some 22) (v := ?_) (a' := ?_) (zb 31 63) rfl rfl (take_ofW HT_.out HW_.out (by kernel_rfl)) (fun _ _ _ h => h) (Or.inl ⟨by rfl, ?_⟩) hHeld ?_ ?_
           rotate_left; ·rintro w' ⟨s0, s1, s2, s3, s4, s5, s6, s7, s8, s9, s10, s11, s12, s13, s14, s15⟩; go_simp; with_reducible rfl
           rotate_left; ·simp only [Act.put, zq0, zq1, zq2, i64_w, i32_w]; rfl
           refine pa HT_ 6 23 (zb 31 127) ?_; refine pa HT_ 7 24 (zb 31 255) ?_; refine pb HT_ 8 25 (zb 31 511) ?_; refine pb HT_ 9 26 (zb 31 1023) ?_; refine pb HT_ 10 27 (zb 31 2047) ?_; refine pb HT_ 11 28 (zb 31 4095) ?_; refine pb HT_ 12 29 (zb 31 8191) ?_; refine pa HT_ 13 30 (zb 31 16383) ?_; refine pa HT_ 14 31 (zb 31 32767) ?_; refine pa HT_ 15 32 (zb 31 65535) ?_; refine pa HT_ 16 33 (zb 31 131071) ?_
           refine pa HT_ 17 34 (zb 31 262143) ?_; refine pa HT_ 18 35 (zb 31 524287) ?_; refine pa HT_ 19 36 (zb 31 1048575) ?_; refine pa HT_ 21 38 (zb 31 3145727) ?_; refine pa HT_ 22 39 (zb 31 7340031) ?_; refine pa HT_ 26 43 (zb 31 74448895) ?_
           refine take_ (i := 20) (N := some 37) (v := ?_) (a' := ?_) (zb 31 75497471) rfl rfl (take_ofW HT_.out HW_.out (by kernel_rfl)) (fun _ _ _ h => h) (Or.inl ⟨by rfl, ?_⟩) hHeld ?_ ?_
           rotate_left; ·rintro w' ⟨s0, s1, s2, s3, s4, s5, s6, s7, s8, s9, s10, s11, s12, s13, s14, s15⟩; go_simp; with_reducible rfl
           rotate_left; ·simp only [Act.put, zq0, zq1, zq2, i64_w, i32_w]; rfl
           refine pa HT_ 23 40 (zb 31 83886079) ?_; refine pa HT_ 24 41 (zb 31 100663295) ?_
           refine take_ (i := 25) (N := some 42) (v := ?_) (a' := ?_) (zb 31 134217727) rfl rfl (take_ofW HT_.out HW_.out (by kernel_rfl)) (fun _ _ _ h => h) (Or.inl ⟨by rfl, ?_⟩) hHeld ?_ ?_
           rotate_left; ·rintro w' ⟨s0, s1, s2, s3, s4, s5, s6, s7, s8, s9, s10, s11, s12, s13, s14, s15⟩; go_simp; with_reducible rfl
           rotate_left; ·simp only [Act.put, zq0, zq1, zq2, i64_w, i32_w]; rfl
           refine take_ (i := 27) (N := some 44) (v := ?_) (a' := ?_) (zb 31 268435455) rfl rfl (take_ofW HT_.out HW_.out (by kernel_rfl)) (fun _ _ _ h => h) (Or.inl ⟨by rfl, ?_⟩) hHeld ?_ ?_
           rotate_left; ·rintro w' ⟨s0, s1, s2, s3, s4, s5, s6, s7, s8, s9, s10, s11, s12, s13, s14, s15⟩; go_simp; with_reducible rfl
           rotate_left; ·simp only [Act.put, zq0, zq1, zq2, i64_w, i32_w]; rfl
           refine pa HT_ 28 45 (zb 31 536870911) ?_; refine pa HT_ 29 46 (zb 31 1073741823) ?_; refine pa HT_ 30 47 (zb 31 2147483647) ?_
           refine done_ (done_of HT_.out (by kernel_rfl)) ?_
           try go_wp2
           go_meet
           case rel => exact ⟨_, (!(Op.bytesLess (((rd_T32 l0_1 (ji14)).f0).toList) (((rd_T32 l0_1 x3_1).f0).toList))), (by first | rfl | (simp; done) | (simp only [← hji14] <;> (first | rfl | simp)) | (simp [*]; done)), H', ⟨by have := HK1.out; first | omega | exact Nat.le_refl _⟩, ⟨by refine bp ?_; exact BK645.out⟩, ⟨by refine bp ?_; exact BK648.out⟩, ⟨by exact b2 HB GE645 GE648⟩⟩
          ·rw [if_neg c16] at H
           exact absurd H (by simp)
         ·rw [if_neg c15] at H
          exact absurd H (by simp)
        ·rw [if_neg c13] at H; have c13b0 : decide (0 < x3_1) = false := decide_eq_false c13; clear c13; have H' := zq9 H; clear H
         refine start_ (n := 31) (S := fun w' => w'.cell? ⟨gb648, 0, none⟩ = some (.string ((rd_T32 l0_1 x3_1).f0)) ∧ w'.cell? ⟨gb648, 1, none⟩ = some (.int .i64 ((rd_T32 l0_1 x3_1).f1)) ∧ w'.cell? ⟨gb648, 2, none⟩ = some (.int .i64 ((rd_T32 l0_1 x3_1).f2)) ∧ w'.cell? ⟨gb648, 3, none⟩ = some (.string ((rd_T32 l0_1 x3_1).f3)) ∧ w'.cell? ⟨gb648, 4, none⟩ = some (.slice A647_4 ((rd_T32 l0_1 x3_1).f4).length c647_4) ∧ w'.cell? ⟨gb648, 5, none⟩ = some (.slice A647_5 ((rd_T32 l0_1 x3_1).f5).length c647_5) ∧ w'.cell? ⟨gb648, 6, none⟩ = some (.slice A647_6 ((rd_T32 l0_1 x3_1).f6).length c647_6)) (ds := []) #[false, false, false, false, false, false, false, false, false, false, false, false, false, false, false, false, false, false, false, false, false, false, false, false, false, false, false, false, false, false, false] (by kernel_rfl) rfl rfl ⟨bc BK648 0, bc BK648 1, bc BK648 2, bc BK648 3, bc BK648 4, bc BK648 5, bc BK648 6⟩ (fun hHeld => ?_); refine with_tabW spec_BaseOk.tab5 spec_BaseOk.bits5 (fun HT_ HW_ => ?_)
         generalize w17.drew = w21 at BK645 BK648 HB hHeld ⊢
         refine take_ (i := 0) (N := some 17) (v := ?_) (a' := ?_) (zb 31 1) rfl rfl (take_ofW HT_.out HW_.out (by kernel_rfl)) (fun _ _ _ h => h) (Or.inl ⟨by rfl, ?_⟩) hHeld ?_ ?_
         rotate_left; ·rintro w' ⟨s0, s1, s2, s3, s4, s5, s6⟩; go_simp; with_reducible rfl
         rotate_left; ·simp only [Act.put, zq0, zq1, zq2, i64_w, i32_w]; rfl
         refine one_ (i := 1) (N := some 18) (zb 31 3) rfl rfl (one_of HT_.out (by kernel_rfl)) (by decide) (fun K hK => ?_)
         refine gs Try.func11 #[.agg #[.string ((rd_T32 l0_1 x3_1).f0), .int .i64 ((rd_T32 l0_1 x3_1).f1), .int .i64 ((rd_T32 l0_1 x3_1).f2), .string ((rd_T32 l0_1 x3_1).f3), .slice A647_4 ((rd_T32 l0_1 x3_1).f4).length c647_4, .slice A647_5 ((rd_T32 l0_1 x3_1).f5).length c647_5, .slice A647_6 ((rd_T32 l0_1 x3_1).f6).length c647_6]] ?_
         with_reducible refine (spec_EntryOk.calls k1 ((rd_T32 l0_1 x3_1).f0) ((rd_T32 l0_1 x3_1).f1) ((rd_T32 l0_1 x3_1).f2) ((rd_T32 l0_1 x3_1).f3) _ _ ((rd_T32 l0_1 x3_1).f4) _ _ ((rd_T32 l0_1 x3_1).f5) _ _ ((rd_T32 l0_1 x3_1).f6) true _ ?side1 ?side2 ?side3 ?side4 ?side5 ?side6 A10.out).mono ?_
         (case side1 => exact kc HR647_4 HB)
         (case side2 => exact HC647_4.out)
         (case side3 => exact kc HR647_5 HB)
         (case side4 => exact HC647_5.out)
         (case side5 => exact kc HR647_6 HB)
         (case side6 => exact HC647_6.out)
         rintro e w22 ⟨rfl, hb⟩
         refine ⟨_, rfl, ?_⟩
         have n0_ := zq9 (zq30 (g := gb645) (o := .cells #[.int .i64 a0_0, .slice (some ad647) l0_1.length c0_1] 46 (0, 0)) (by exact bk BK645) hb)
         have n1_ := zq9 (zq30 (g := gb648) (o := .cells #[.string ((rd_T32 l0_1 x3_1).f0), .int .i64 ((rd_T32 l0_1 x3_1).f1), .int .i64 ((rd_T32 l0_1 x3_1).f2), .string ((rd_T32 l0_1 x3_1).f3), .slice A647_4 ((rd_T32 l0_1 x3_1).f4).length c647_4, .slice A647_5 ((rd_T32 l0_1 x3_1).f5).length c647_5, .slice A647_6 ((rd_T32 l0_1 x3_1).f6).length c647_6] 32 (0, 0)) (by exact bk BK648) hb)
         have n2_ := zq9 (zq27 (by exact b2 HB GE645 GE648) hb)
         clear BK645; clear BK648; clear HB; have BK645 := n0_; have BK648 := n1_; have HB := n2_; clear n0_ n1_ n2_
         (try clear hb)
         (try clear hb2)
         (try clear hk)
         (try clear hi)
         refine hK.out _ _ ⟨bc BK648 0, bc BK648 1, bc BK648 2, bc BK648 3, bc BK648 4, bc BK648 5, bc BK648 6⟩ (fun hHeld => ?_)
         clear hK K
         refine norm_ (a' := ?_) ?_ ?_
         rotate_left; ·show Act.put _ (some 18) _ = _; simp only [Act.put, zq0, zq1, zq2, i64_w, i32_w]; rfl
         refine pa HT_ 2 19 (zb 31 7) ?_; refine pa HT_ 3 20 (zb 31 15) ?_; refine pa HT_ 4 21 (zb 31 31) ?_
         refine take_ (i := 5) (N := some 22) (v := ?_) (a' := ?_) (zb 31 63) rfl rfl (take_ofW HT_.out HW_.out (by kernel_rfl)) (fun _ _ _ h => h) (Or.inl ⟨by rfl, ?_⟩) hHeld ?_ ?_
         rotate_left; ·rintro w' ⟨s0, s1, s2, s3, s4, s5, s6⟩; go_simp; with_reducible rfl
         rotate_left; ·simp only [Act.put, zq0, zq1, zq2, i64_w, i32_w]; rfl
         refine pa HT_ 6 23 (zb 31 127) ?_; refine pa HT_ 7 24 (zb 31 255) ?_; refine pb HT_ 8 25 (zb 31 511) ?_; refine pb HT_ 9 26 (zb 31 1023) ?_; refine pb HT_ 10 27 (zb 31 2047) ?_; refine pb HT_ 11 28 (zb 31 4095) ?_; refine pb HT_ 12 29 (zb 31 8191) ?_; refine pa HT_ 13 30 (zb 31 16383) ?_; refine pa HT_ 14 31 (zb 31 32767) ?_; refine pa HT_ 15 32 (zb 31 65535) ?_; refine pa HT_ 16 33 (zb 31 131071) ?_
         refine pa HT_ 17 34 (zb 31 262143) ?_; refine pa HT_ 18 35 (zb 31 524287) ?_; refine pb HT_ 19 36 (zb 31 1048575) ?_; refine pb HT_ 20 37 (zb 31 2097151) ?_; refine pb HT_ 21 38 (zb 31 4194303) ?_; refine pb HT_ 22 39 (zb 31 8388607) ?_; refine pb HT_ 23 40 (zb 31 16777215) ?_; refine pb HT_ 24 41 (zb 31 33554431) ?_; refine pb HT_ 25 42 (zb 31 67108863) ?_; refine pb HT_ 26 43 (zb 31 134217727) ?_
         refine pb HT_ 27 44 (zb 31 268435455) ?_; refine pb HT_ 28 45 (zb 31 536870911) ?_; refine pa HT_ 29 46 (zb 31 1073741823) ?_; refine pa HT_ 30 47 (zb 31 2147483647) ?_
         refine done_ (done_of HT_.out (by kernel_rfl)) ?_
         try go_wp2
         go_meet
         case rel => exact ⟨_, (false), (by first | rfl | (simp; done) | (simp [*]; done)), H', ⟨by have := HK1.out; first | omega | exact Nat.le_refl _⟩, ⟨by refine bp ?_; exact BK645.out⟩, ⟨by refine bp ?_; exact BK648.out⟩, ⟨by exact b2 HB GE645 GE648⟩⟩
       ·rw [if_neg c12] at H
        have c12b0 : (((rd_T32 l0_1 x3_1).f1) == 0) = false := beq_eq_false_iff_ne.mpr c12
        have c12b1 : (((rd_T32 l0_1 x3_1).f1) != 0) = true := bne_iff_ne.mpr c12
        (first | rw [c12b0] | (simp only [i64_w, i32_w]; rw [c12b0]) | skip)
        try go_wp2
        have n0_ : Aside0 ((((((((w7.setCell ⟨gb648, 0, none⟩ (.string ((rd_T32 l0_1 x3_1).f0))).setCell ⟨gb648, 1, none⟩ (.int .i64 ((rd_T32 l0_1 x3_1).f1))).setCell ⟨gb648, 2, none⟩ (.int .i64 ((rd_T32 l0_1 x3_1).f2))).setCell ⟨gb648, 3, none⟩ (.string ((rd_T32 l0_1 x3_1).f3))).setCell ⟨gb648, 4, none⟩ (.slice A647_4 ((rd_T32 l0_1 x3_1).f4).length c647_4)).setCell ⟨gb648, 5, none⟩ (.slice A647_5 ((rd_T32 l0_1 x3_1).f5).length c647_5)).setCell ⟨gb648, 6, none⟩ (.slice A647_6 ((rd_T32 l0_1 x3_1).f6).length c647_6)).heap[gb645]? = some (.cells #[.int .i64 a0_0, .slice (some ad647) l0_1.length c0_1] 46 (0, 0))) := ⟨by refine bp ?_; refine blk_far ?_ NB645_648.out _; refine bp ?_; refine blk_far ?_ NB645_648.out _; refine bp ?_; refine blk_far ?_ NB645_648.out _; refine bp ?_; refine blk_far ?_ NB645_648.out _; refine bp ?_; refine blk_far ?_ NB645_648.out _; refine bp ?_; refine blk_far ?_ NB645_648.out _; refine bp ?_; refine blk_far ?_ NB645_648.out _; refine bp ?_; exact BK645.out⟩
        have n1_ : Aside0 ((((((((w7.setCell ⟨gb648, 0, none⟩ (.string ((rd_T32 l0_1 x3_1).f0))).setCell ⟨gb648, 1, none⟩ (.int .i64 ((rd_T32 l0_1 x3_1).f1))).setCell ⟨gb648, 2, none⟩ (.int .i64 ((rd_T32 l0_1 x3_1).f2))).setCell ⟨gb648, 3, none⟩ (.string ((rd_T32 l0_1 x3_1).f3))).setCell ⟨gb648, 4, none⟩ (.slice A647_4 ((rd_T32 l0_1 x3_1).f4).length c647_4)).setCell ⟨gb648, 5, none⟩ (.slice A647_5 ((rd_T32 l0_1 x3_1).f5).length c647_5)).setCell ⟨gb648, 6, none⟩ (.slice A647_6 ((rd_T32 l0_1 x3_1).f6).length c647_6)).heap[gb648]? = some (.cells #[.string ((rd_T32 l0_1 x3_1).f0), .int .i64 ((rd_T32 l0_1 x3_1).f1), .int .i64 ((rd_T32 l0_1 x3_1).f2), .string ((rd_T32 l0_1 x3_1).f3), .slice A647_4 ((rd_T32 l0_1 x3_1).f4).length c647_4, .slice A647_5 ((rd_T32 l0_1 x3_1).f5).length c647_5, .slice A647_6 ((rd_T32 l0_1 x3_1).f6).length c647_6] 32 (0, 0))) := ⟨(blk_set (blk_set (blk_set (blk_set (blk_set (blk_set (blk_set BK648.out 0 _) 1 _) 2 _) 3 _) 4 _) 5 _) 6 _)⟩
        have n2_ : Aside0 (Below w.heap.size w (((((((w7.setCell ⟨gb648, 0, none⟩ (.string ((rd_T32 l0_1 x3_1).f0))).setCell ⟨gb648, 1, none⟩ (.int .i64 ((rd_T32 l0_1 x3_1).f1))).setCell ⟨gb648, 2, none⟩ (.int .i64 ((rd_T32 l0_1 x3_1).f2))).setCell ⟨gb648, 3, none⟩ (.string ((rd_T32 l0_1 x3_1).f3))).setCell ⟨gb648, 4, none⟩ (.slice A647_4 ((rd_T32 l0_1 x3_1).f4).length c647_4)).setCell ⟨gb648, 5, none⟩ (.slice A647_5 ((rd_T32 l0_1 x3_1).f5).length c647_5)).setCell ⟨gb648, 6, none⟩ (.slice A647_6 ((rd_T32 l0_1 x3_1).f6).length c647_6))) := ⟨by exact b2 HB GE645 GE648⟩
        (try clear BK645)
        (try clear BK648)
        (try clear HB)
        generalize (((((((w7.setCell ⟨gb648, 0, none⟩ (.string ((rd_T32 l0_1 x3_1).f0))).setCell ⟨gb648, 1, none⟩ (.int .i64 ((rd_T32 l0_1 x3_1).f1))).setCell ⟨gb648, 2, none⟩ (.int .i64 ((rd_T32 l0_1 x3_1).f2))).setCell ⟨gb648, 3, none⟩ (.string ((rd_T32 l0_1 x3_1).f3))).setCell ⟨gb648, 4, none⟩ (.slice A647_4 ((rd_T32 l0_1 x3_1).f4).length c647_4)).setCell ⟨gb648, 5, none⟩ (.slice A647_5 ((rd_T32 l0_1 x3_1).f5).length c647_5)).setCell ⟨gb648, 6, none⟩ (.slice A647_6 ((rd_T32 l0_1 x3_1).f6).length c647_6)) = w24 at n0_ n1_ n2_ ⊢
        have BK645 := n0_; have BK648 := n1_; have HB := n2_; clear n0_ n1_ n2_
        have n0_ := zq9 (blk_drew BK645.out)
        have n1_ := zq9 (blk_drew BK648.out)
        have n2_ := zq9 (zq4 HB.out)
        clear BK645; clear BK648; clear HB; have BK645 := n0_; have BK648 := n1_; have HB := n2_; clear n0_ n1_ n2_
        by_cases c23 : ((rd_T32 l0_1 x3_1).f1) ≤ a0_0
        ·rw [if_pos c23] at H; have c23b0 : decide (((rd_T32 l0_1 x3_1).f1) ≤ a0_0) = true := decide_eq_true c23; clear c23; have H' := zq9 H; clear H
         refine start_ (n := 31) (S := fun w' => w'.cell? ⟨gb648, 0, none⟩ = some (.string ((rd_T32 l0_1 x3_1).f0)) ∧ w'.cell? ⟨gb648, 1, none⟩ = some (.int .i64 ((rd_T32 l0_1 x3_1).f1)) ∧ w'.cell? ⟨gb648, 2, none⟩ = some (.int .i64 ((rd_T32 l0_1 x3_1).f2)) ∧ w'.cell? ⟨gb648, 3, none⟩ = some (.string ((rd_T32 l0_1 x3_1).f3)) ∧ w'.cell? ⟨gb648, 4, none⟩ = some (.slice A647_4 ((rd_T32 l0_1 x3_1).f4).length c647_4) ∧ w'.cell? ⟨gb648, 5, none⟩ = some (.slice A647_5 ((rd_T32 l0_1 x3_1).f5).length c647_5) ∧ w'.cell? ⟨gb648, 6, none⟩ = some (.slice A647_6 ((rd_T32 l0_1 x3_1).f6).length c647_6) ∧ w'.cell? ⟨gb645, 0, none⟩ = some (.int .i64 a0_0) ∧ w'.cell? ⟨gb645, 1, none⟩ = some (.slice (some ad647) l0_1.length c0_1)) (ds := []) #[false, false, false, false, false, false, false, false, false, false, false, false, false, false, false, false, false, false, false, false, false, false, false, false, false, false, false, false, false, false, false] (by kernel_rfl) rfl rfl ⟨bc BK648 0, bc BK648 1, bc BK648 2, bc BK648 3, bc BK648 4, bc BK648 5, bc BK648 6, bc BK645 0, bc BK645 1⟩ (fun hHeld => ?_); refine with_tabW spec_BaseOk.tab5 spec_BaseOk.bits5 (fun HT_ HW_ => ?_)
         generalize w24.drew = w25 at BK645 BK648 HB hHeld ⊢
         refine take_ (i := 0) (N := some 17) (v := ?_) (a' := ?_) (zb 31 1) rfl rfl (take_ofW HT_.out HW_.out (by kernel_rfl)) (fun _ _ _ h => h) (Or.inl ⟨by rfl, ?_⟩) hHeld ?_ ?_
         rotate_left; ·rintro w' ⟨s0, s1, s2, s3, s4, s5, s6, s7, s8⟩; go_simp; with_reducible rfl
         rotate_left; ·simp only [Act.put, zq0, zq1, zq2, i64_w, i32_w]; rfl
         refine one_ (i := 1) (N := some 18) (zb 31 3) rfl rfl (one_of HT_.out (by kernel_rfl)) (by decide) (fun K hK => ?_)
         refine gs Try.func11 #[.agg #[.string ((rd_T32 l0_1 x3_1).f0), .int .i64 ((rd_T32 l0_1 x3_1).f1), .int .i64 ((rd_T32 l0_1 x3_1).f2), .string ((rd_T32 l0_1 x3_1).f3), .slice A647_4 ((rd_T32 l0_1 x3_1).f4).length c647_4, .slice A647_5 ((rd_T32 l0_1 x3_1).f5).length c647_5, .slice A647_6 ((rd_T32 l0_1 x3_1).f6).length c647_6]] ?_
         with_reducible refine (spec_EntryOk.calls k1 ((rd_T32 l0_1 x3_1).f0) ((rd_T32 l0_1 x3_1).f1) ((rd_T32 l0_1 x3_1).f2) ((rd_T32 l0_1 x3_1).f3) _ _ ((rd_T32 l0_1 x3_1).f4) _ _ ((rd_T32 l0_1 x3_1).f5) _ _ ((rd_T32 l0_1 x3_1).f6) true _ ?side1 ?side2 ?side3 ?side4 ?side5 ?side6 A10.out).mono ?_
         (case side1 => exact kc HR647_4 HB)
         (case side2 => exact HC647_4.out)
         (case side3 => exact kc HR647_5 HB)
         (case side4 => exact HC647_5.out)
         (case side5 => exact kc HR647_6 HB)
         (case side6 => exact HC647_6.out)
         rintro e w26 ⟨rfl, hb⟩
         refine ⟨_, rfl, ?_⟩
         have n0_ := zq9 (zq30 (g := gb645) (o := .cells #[.int .i64 a0_0, .slice (some ad647) l0_1.length c0_1] 46 (0, 0)) (by exact bk BK645) hb)
         have n1_ := zq9 (zq30 (g := gb648) (o := .cells #[.string ((rd_T32 l0_1 x3_1).f0), .int .i64 ((rd_T32 l0_1 x3_1).f1), .int .i64 ((rd_T32 l0_1 x3_1).f2), .string ((rd_T32 l0_1 x3_1).f3), .slice A647_4 ((rd_T32 l0_1 x3_1).f4).length c647_4, .slice A647_5 ((rd_T32 l0_1 x3_1).f5).length c647_5, .slice A647_6 ((rd_T32 l0_1 x3_1).f6).length c647_6] 32 (0, 0)) (by exact bk BK648) hb)
         have n2_ := zq9 (zq27 (by exact b2 HB GE645 GE648) hb)
         clear BK645; clear BK648; clear HB; have BK645 := n0_; have BK648 := n1_; have HB := n2_; clear n0_ n1_ n2_
         (try clear hb)
         (try clear hb2)
         (try clear hk)
         (try clear hi)
         refine hK.out _ _ ⟨bc BK648 0, bc BK648 1, bc BK648 2, bc BK648 3, bc BK648 4, bc BK648 5, bc BK648 6, bc BK645 0, bc BK645 1⟩ (fun hHeld => ?_)
         clear hK K
         refine norm_ (a' := ?_) ?_ ?_
         rotate_left; ·show Act.put _ (some 18) _ = _; simp only [Act.put, zq0, zq1, zq2, i64_w, i32_w]; rfl
         refine pa HT_ 2 19 (zb 31 7) ?_; refine pa HT_ 3 20 (zb 31 15) ?_; refine pa HT_ 4 21 (zb 31 31) ?_
         refine take_ (i := 5) (N := some 22) (v := ?_) (a' := ?_) (zb 31 63) rfl rfl (take_ofW HT_.out HW_.out (by kernel_rfl)) (fun _ _ _ h => h) (Or.inl ⟨by rfl, ?_⟩) hHeld ?_ ?_
         rotate_left; ·rintro w' ⟨s0, s1, s2, s3, s4, s5, s6, s7, s8⟩; go_simp; with_reducible rfl
         rotate_left; ·simp only [Act.put, zq0, zq1, zq2, i64_w, i32_w]; rfl
         refine pa HT_ 6 23 (zb 31 127) ?_; refine pa HT_ 7 24 (zb 31 255) ?_; refine pa HT_ 8 25 (zb 31 511) ?_; refine pa HT_ 10 27 (zb 31 1535) ?_
         refine take_ (i := 9) (N := some 26) (v := ?_) (a' := ?_) (zb 31 2047) rfl rfl (take_ofW HT_.out HW_.out (by kernel_rfl)) (fun _ _ _ h => h) (Or.inl ⟨by rfl, ?_⟩) hHeld ?_ ?_
         rotate_left; ·rintro w' ⟨s0, s1, s2, s3, s4, s5, s6, s7, s8⟩; go_simp; with_reducible rfl
         rotate_left; ·simp only [Act.put, zq0, zq1, zq2, i64_w, i32_w]; rfl
         refine take_ (i := 11) (N := some 28) (v := ?_) (a' := ?_) (zb 31 4095) rfl rfl (take_ofW HT_.out HW_.out (by kernel_rfl)) (fun _ _ _ h => h) (Or.inl ⟨by rfl, ?_⟩) hHeld ?_ ?_
         rotate_left; ·rintro w' ⟨s0, s1, s2, s3, s4, s5, s6, s7, s8⟩; go_simp; with_reducible rfl
         rotate_left; ·simp only [Act.put, zq0, zq1, zq2, i64_w, i32_w]; rfl
         refine pa HT_ 12 29 (zb 31 8191) ?_; refine pa HT_ 13 30 (zb 31 16383) ?_; refine pa HT_ 14 31 (zb 31 32767) ?_; refine pa HT_ 15 32 (zb 31 65535) ?_; refine pb HT_ 16 33 (zb 31 131071) ?_; refine pb HT_ 17 34 (zb 31 262143) ?_; refine pb HT_ 18 35 (zb 31 524287) ?_; refine pb HT_ 19 36 (zb 31 1048575) ?_; refine pb HT_ 20 37 (zb 31 2097151) ?_; refine pb HT_ 21 38 (zb 31 4194303) ?_; refine pb HT_ 22 39 (zb 31 8388607) ?_
         refine pb HT_ 23 40 (zb 31 16777215) ?_; refine pb HT_ 24 41 (zb 31 33554431) ?_; refine pb HT_ 25 42 (zb 31 67108863) ?_; refine pb HT_ 26 43 (zb 31 134217727) ?_; refine pb HT_ 27 44 (zb 31 268435455) ?_; refine pb HT_ 28 45 (zb 31 536870911) ?_; refine pb HT_ 29 46 (zb 31 1073741823) ?_; refine pa HT_ 30 47 (zb 31 2147483647) ?_
         refine done_ (done_of HT_.out (by kernel_rfl)) ?_
         try go_wp2
         go_meet
         case rel => exact ⟨_, (true), (by first | rfl | (simp; done) | (simp [*]; done)), H', ⟨by have := HK1.out; first | omega | exact Nat.le_refl _⟩, ⟨by refine bp ?_; exact BK645.out⟩, ⟨by refine bp ?_; exact BK648.out⟩, ⟨by exact b2 HB GE645 GE648⟩⟩
        ·rw [if_neg c23] at H; have c23b0 : decide (((rd_T32 l0_1 x3_1).f1) ≤ a0_0) = false := decide_eq_false c23; clear c23
         by_cases c27 : x3_1 > 0
         ·rw [if_pos c27] at H; have c27b0 : decide (0 < x3_1) = true := decide_eq_true c27; clear c27
          obtain ⟨ji28, hji28⟩ : ∃ j_ : Int, (wrap64 (x3_1 - 1)) = j_ := ⟨_, rfl⟩
          replace H : (if 0 ≤ (ji28) then (if (ji28) < (l0_1.length : Int) then (spec_BaseOk.j1 k1 x3_1 (!(Op.bytesLess (((rd_T32 l0_1 (ji28)).f0).toList) (((rd_T32 l0_1 x3_1).f0).toList))) a0_0 l0_1) else (none)) else (none)) = some r := by first | (rw [hji28] at H; exact H) | (simp only [hji28] at H ⊢; exact H)
          (try rw [hji28] at A10)
          have hji28w : (IntKind.i64.wrap (x3_1 - 1)) = ji28 := (i64_w _).trans hji28
          by_cases c29 : 0 ≤ (ji28)
          ·rw [if_pos c29] at H; have c29b0 : decide (0 ≤ (ji28)) = true := decide_eq_true c29; clear c29
           by_cases c30 : (ji28) < (l0_1.length : Int)
           ·rw [if_pos c30] at H; have c30b0 : decide ((ji28) < (l0_1.length : Int)) = true := decide_eq_true c30; clear c30; have H' := zq9 H; clear H
            have p651 : 0 ≤ ((ji28) : Int) := of_decide_eq_true ‹_›
            have q651 : (ji28) < (l0_1.length : Int) := of_decide_eq_true ‹_›
            obtain ⟨ad651, A651_4, c651_4, A651_5, c651_5, A651_6, c651_6, e651, hx651_0, hx651_1, hx651_2, hx651_3, hx651_4, hx651_5, hx651_6, hl651_4, hi651_4, hl651_5, hi651_5, hl651_6, hi651_6⟩ := at_T32 HR0_1.out (ji28) p651 q651
            have hw651_6 := hx651_6; have hw651_5 := hx651_5; have hw651_4 := hx651_4; have hw651_3 := hx651_3; have hw651_2 := hx651_2; have hw651_1 := hx651_1; have hw651_0 := hx651_0
            obtain rfl : ad647 = ad651 := (by injection e651)
            replace hx651_0 := hcl HB hx651_0; replace hx651_1 := hcl HB hx651_1; replace hx651_2 := hcl HB hx651_2; replace hx651_3 := hcl HB hx651_3; replace hx651_4 := hcl HB hx651_4; replace hx651_5 := hcl HB hx651_5; replace hx651_6 := hcl HB hx651_6; have HR651_4 := zq9 hi651_4; have HC651_4 := zq9 hl651_4; clear hi651_4 hl651_4; have HR651_5 := zq9 hi651_5; have HC651_5 := zq9 hl651_5; clear hi651_5 hl651_5
            have HR651_6 := zq9 hi651_6; have HC651_6 := zq9 hl651_6; clear hi651_6 hl651_6; replace p651 := eq_true p651; replace q651 := eq_true q651
            refine start_ (n := 31) (S := fun w' => w'.cell? ⟨gb648, 0, none⟩ = some (.string ((rd_T32 l0_1 x3_1).f0)) ∧ w'.cell? ⟨gb648, 1, none⟩ = some (.int .i64 ((rd_T32 l0_1 x3_1).f1)) ∧ w'.cell? ⟨gb648, 2, none⟩ = some (.int .i64 ((rd_T32 l0_1 x3_1).f2)) ∧ w'.cell? ⟨gb648, 3, none⟩ = some (.string ((rd_T32 l0_1 x3_1).f3)) ∧ w'.cell? ⟨gb648, 4, none⟩ = some (.slice A647_4 ((rd_T32 l0_1 x3_1).f4).length c647_4) ∧ w'.cell? ⟨gb648, 5, none⟩ = some (.slice A647_5 ((rd_T32 l0_1 x3_1).f5).length c647_5) ∧ w'.cell? ⟨gb648, 6, none⟩ = some (.slice A647_6 ((rd_T32 l0_1 x3_1).f6).length c647_6) ∧ w'.cell? ⟨gb645, 0, none⟩ = some (.int .i64 a0_0) ∧ w'.cell? ⟨gb645, 1, none⟩ = some (.slice (some ad647) l0_1.length c0_1) ∧ w'.cell? (ad647.add (((ji28)).toNat * 7)) = some (.string ((rd_T32 l0_1 (ji28)).f0)) ∧ w'.cell? ⟨(ad647.add (((ji28)).toNat * 7)).block, (ad647.add (((ji28)).toNat * 7)).off + 1, none⟩ = some (.int .i64 ((rd_T32 l0_1 (ji28)).f1)) ∧ w'.cell? ⟨(ad647.add (((ji28)).toNat * 7)).block, (ad647.add (((ji28)).toNat * 7)).off + 2, none⟩ = some (.int .i64 ((rd_T32 l0_1 (ji28)).f2)) ∧ w'.cell? ⟨(ad647.add (((ji28)).toNat * 7)).block, (ad647.add (((ji28)).toNat * 7)).off + 3, none⟩ = some (.string ((rd_T32 l0_1 (ji28)).f3)) ∧ w'.cell? ⟨(ad647.add (((ji28)).toNat * 7)).block, (ad647.add (((ji28)).toNat * 7)).off + 4, none⟩ = some (.slice A651_4 ((rd_T32 l0_1 (ji28)).f4).length c651_4) ∧ w'.cell? ⟨(ad647.add (((ji28)).toNat * 7)).block, (ad647.add (((ji28)).toNat * 7)).off + 5, none⟩ = some (.slice A651_5 ((rd_T32 l0_1 (ji28)).f5).length c651_5) ∧ w'.cell? ⟨(ad647.add (((ji28)).toNat * 7)).block, (ad647.add (((ji28)).toNat * 7)).off + 6, none⟩ = some (.slice A651_6 ((rd_T32 l0_1 (ji28)).f6).length c651_6)) (ds := []) #[false, false, false, false, false, false, false, false, false, false, false, false, false, false, false, false, false, false, false, false, false, false, false, false, false, false, false, false, false, false, false] (by kernel_rfl) rfl rfl ⟨bc BK648 0, bc BK648 1, bc BK648 2, bc BK648 3, bc BK648 4, bc BK648 5, bc BK648 6, bc BK645 0, bc BK645 1, (hcm HB hw651_0), (hcm HB hw651_1), (hcm HB hw651_2), (hcm HB hw651_3), (hcm HB hw651_4), (hcm HB hw651_5), (hcm HB hw651_6)⟩ (fun hHeld => ?_); refine with_tabW spec_BaseOk.tab5 spec_BaseOk.bits5 (fun HT_ HW_ => ?_)
            generalize w24.drew = w32 at BK645 BK648 HB HR651_4 HR651_5 HR651_6 hx651_0 hx651_1 hx651_2 hx651_3 hx651_4 hx651_5 hx651_6 hHeld ⊢
            refine take_ (i := 0) (N := some 17) (v := ?_) (a' := ?_) (zb 31 1) rfl rfl (take_ofW HT_.out HW_.out (by kernel_rfl)) (fun _ _ _ h => h) (Or.inl ⟨by rfl, ?_⟩) hHeld ?_ ?_
            rotate_left; ·rintro w' ⟨s0, s1, s2, s3, s4, s5, s6, s7, s8, s9, s10, s11, s12, s13, s14, s15⟩; go_simp; with_reducible rfl
            rotate_left; ·simp only [Act.put, zq0, zq1, zq2, i64_w, i32_w]; rfl
            refine one_ (i := 1) (N := some 18) (zb 31 3) rfl rfl (one_of HT_.out (by kernel_rfl)) (by decide) (fun K hK => ?_)
            refine gs Try.func11 #[.agg #[.string ((rd_T32 l0_1 x3_1).f0), .int .i64 ((rd_T32 l0_1 x3_1).f1), .int .i64 ((rd_T32 l0_1 x3_1).f2), .string ((rd_T32 l0_1 x3_1).f3), .slice A647_4 ((rd_T32 l0_1 x3_1).f4).length c647_4, .slice A647_5 ((rd_T32 l0_1 x3_1).f5).length c647_5, .slice A647_6 ((rd_T32 l0_1 x3_1).f6).length c647_6]] ?_
            with_reducible refine (spec_EntryOk.calls k1 ((rd_T32 l0_1 x3_1).f0) ((rd_T32 l0_1 x3_1).f1) ((rd_T32 l0_1 x3_1).f2) ((rd_T32 l0_1 x3_1).f3) _ _ ((rd_T32 l0_1 x3_1).f4) _ _ ((rd_T32 l0_1 x3_1).f5) _ _ ((rd_T32 l0_1 x3_1).f6) true _ ?side1 ?side2 ?side3 ?side4 ?side5 ?side6 A10.out).mono ?_
            (case side1 => exact kc HR647_4 HB)
            (case side2 => exact HC647_4.out)
            (case side3 => exact kc HR647_5 HB)
            (case side4 => exact HC647_5.out)
            (case side5 => exact kc HR647_6 HB)
            (case side6 => exact HC647_6.out)
            rintro e w33 ⟨rfl, hb⟩
            refine ⟨_, rfl, ?_⟩
            have n0_ := zq9 (zq30 (g := gb645) (o := .cells #[.int .i64 a0_0, .slice (some ad647) l0_1.length c0_1] 46 (0, 0)) (by exact bk BK645) hb)
            have n1_ := zq9 (zq30 (g := gb648) (o := .cells #[.string ((rd_T32 l0_1 x3_1).f0), .int .i64 ((rd_T32 l0_1 x3_1).f1), .int .i64 ((rd_T32 l0_1 x3_1).f2), .string ((rd_T32 l0_1 x3_1).f3), .slice A647_4 ((rd_T32 l0_1 x3_1).f4).length c647_4, .slice A647_5 ((rd_T32 l0_1 x3_1).f5).length c647_5, .slice A647_6 ((rd_T32 l0_1 x3_1).f6).length c647_6] 32 (0, 0)) (by exact bk BK648) hb)
            have n2_ := zq9 (zq27 (by exact b2 HB GE645 GE648) hb)
            clear BK645; clear BK648; clear HB; have BK645 := n0_; have BK648 := n1_; have HB := n2_; clear n0_ n1_ n2_
            (try clear hb)
            (try clear hb2)
            (try clear hk)
            (try clear hi)
            refine hK.out _ _ ⟨bc BK648 0, bc BK648 1, bc BK648 2, bc BK648 3, bc BK648 4, bc BK648 5, bc BK648 6, bc BK645 0, bc BK645 1, (hcm HB hw651_0), (hcm HB hw651_1), (hcm HB hw651_2), (hcm HB hw651_3), (hcm HB hw651_4), (hcm HB hw651_5), (hcm HB hw651_6)⟩ (fun hHeld => ?_)
            clear hK K
            refine norm_ (a' := ?_) ?_ ?_
            rotate_left; ·show Act.put _ (some 18) _ = _; simp only [Act.put, zq0, zq1, zq2, i64_w, i32_w]; rfl
            refine pa HT_ 2 19 (zb 31 7) ?_; refine pa HT_ 3 20 (zb 31 15) ?_; refine pa HT_ 4 21 (zb 31 31) ?_
            refine take_ (i := 5) (N := some 22) (v := ?_) (a' := ?_) (zb 31 63) rfl rfl (take_ofW HT_.out HW_.out (by kernel_rfl)) (fun _ _ _ h => h) (Or.inl ⟨by rfl, ?_⟩) hHeld ?_ ?_
            rotate_left; ·rintro w' ⟨s0, s1, s2, s3, s4, s5, s6, s7, s8, s9, s10, s11, s12, s13, s14, s15⟩; go_simp; with_reducible rfl
            rotate_left; ·simp only [Act.put, zq0, zq1, zq2, i64_w, i32_w]; rfl
            refine pa HT_ 6 23 (zb 31 127) ?_; refine pa HT_ 7 24 (zb 31 255) ?_; refine pa HT_ 8 25 (zb 31 511) ?_; refine pa HT_ 10 27 (zb 31 1535) ?_
            refine take_ (i := 9) (N := some 26) (v := ?_) (a' := ?_) (zb 31 2047) rfl rfl (take_ofW HT_.out HW_.out (by kernel_rfl)) (fun _ _ _ h => h) (Or.inl ⟨by rfl, ?_⟩) hHeld ?_ ?_
            rotate_left; ·rintro w' ⟨s0, s1, s2, s3, s4, s5, s6, s7, s8, s9, s10, s11, s12, s13, s14, s15⟩; go_simp; with_reducible rfl
            rotate_left; ·simp only [Act.put, zq0, zq1, zq2, i64_w, i32_w]; rfl
            refine take_ (i := 11) (N := some 28) (v := ?_) (a' := ?_) (zb 31 4095) rfl rfl (take_ofW HT_.out HW_.out (by kernel_rfl)) (fun _ _ _ h => h) (Or.inl ⟨by rfl, ?_⟩) hHeld ?_ ?_
            rotate_left; ·rintro w' ⟨s0, s1, s2, s3, s4, s5, s6, s7, s8, s9, s10, s11, s12, s13, s14, s15⟩; go_simp; with_reducible rfl
            rotate_left; ·simp only [Act.put, zq0, zq1, zq2, i64_w, i32_w]; rfl
            refine pa HT_ 12 29 (zb 31 8191) ?_; refine pa HT_ 13 30 (zb 31 16383) ?_; refine pa HT_ 14 31 (zb 31 32767) ?_; refine pa HT_ 15 32 (zb 31 65535) ?_; refine pa HT_ 16 33 (zb 31 131071) ?_; refine pa HT_ 17 34 (zb 31 262143) ?_; refine pa HT_ 18 35 (zb 31 524287) ?_; refine pa HT_ 19 36 (zb 31 1048575) ?_; refine pa HT_ 21 38 (zb 31 3145727) ?_; refine pa HT_ 22 39 (zb 31 7340031) ?_; refine pa HT_ 26 43 (zb 31 74448895) ?_
            refine take_ (i := 20) (N := some 37) (v := ?_) (a' := ?_) (zb 31 75497471) rfl rfl (take_ofW HT_.out HW_.out (by kernel_rfl)) (fun _ _ _ h => h) (Or.inl ⟨by rfl, ?_⟩) hHeld ?_ ?_
            rotate_left; ·rintro w' ⟨s0, s1, s2, s3, s4, s5, s6, s7, s8, s9, s10, s11, s12, s13, s14, s15⟩; go_simp; with_reducible rfl
            rotate_left; ·simp only [Act.put, zq0, zq1, zq2, i64_w, i32_w]; rfl
            refine pa HT_ 23 40 (zb 31 83886079) ?_; refine pa HT_ 24 41 (zb 31 100663295) ?_
            refine take_ (i := 25) (N := some 42) (v := ?_) (a' := ?_) (zb 31 134217727) rfl rfl (take_ofW HT_.out HW_.out (by kernel_rfl)) (fun _ _ _ h => h) (Or.inl ⟨by rfl, ?_⟩) hHeld ?_ ?_
            rotate_left; ·rintro w' ⟨s0, s1, s2, s3, s4, s5, s6, s7, s8, s9, s10, s11, s12, s13, s14, s15⟩; go_simp; with_reducible rfl
            rotate_left; ·simp only [Act.put, zq0, zq1, zq2, i64_w, i32_w]; rfl
            refine take_ (i := 27) (N := some 44) (v := ?_) (a' := ?_) (zb 31 268435455) rfl rfl (take_ofW HT_.out HW_.out (by kernel_rfl)) (fun _ _ _ h => h) (Or.inl ⟨by rfl, ?_⟩) hHeld ?_ ?_
            rotate_left; ·rintro w' ⟨s0, s1, s2, s3, s4, s5, s6, s7, s8, s9, s10, s11, s12, s13, s14, s15⟩; go_simp; with_reducible rfl
            rotate_left; ·simp only [Act.put, zq0, zq1, zq2, i64_w, i32_w]; rfl
            refine pa HT_ 28 45 (zb 31 536870911) ?_; refine pa HT_ 29 46 (zb 31 1073741823) ?_; refine pa HT_ 30 47 (zb 31 2147483647) ?_
            refine done_ (done_of HT_.out (by kernel_rfl)) ?_
            try go_wp2
            go_meet
            case rel => exact ⟨_, (!(Op.bytesLess (((rd_T32 l0_1 (ji28)).f0).toList) (((rd_T32 l0_1 x3_1).f0).toList))), (by first | rfl | (simp; done) | (simp only [← hji28] <;> (first | rfl | simp)) | (simp [*]; done)), H', ⟨by have := HK1.out; first | omega | exact Nat.le_refl _⟩, ⟨by refine bp ?_; exact BK645.out⟩, ⟨by refine bp ?_; exact BK648.out⟩, ⟨by exact b2 HB GE645 GE648⟩⟩
           ·rw [if_neg c30] at H
            exact absurd H (by simp)
          ·rw [if_neg c29] at H
           exact absurd H (by simp)
         ·rw [if_neg c27] at H; have c27b0 : decide (0 < x3_1) = false := decide_eq_false c27; clear c27; have H' := zq9 H; clear H
          refine start_ (n := 31) (S := fun w' => w'.cell? ⟨gb648, 0, none⟩ = some (.string ((rd_T32 l0_1 x3_1).f0)) ∧ w'.cell? ⟨gb648, 1, none⟩ = some (.int .i64 ((rd_T32 l0_1 x3_1).f1)) ∧ w'.cell? ⟨gb648, 2, none⟩ = some (.int .i64 ((rd_T32 l0_1 x3_1).f2)) ∧ w'.cell? ⟨gb648, 3, none⟩ = some (.string ((rd_T32 l0_1 x3_1).f3)) ∧ w'.cell? ⟨gb648, 4, none⟩ = some (.slice A647_4 ((rd_T32 l0_1 x3_1).f4).length c647_4) ∧ w'.cell? ⟨gb648, 5, none⟩ = some (.slice A647_5 ((rd_T32 l0_1 x3_1).f5).length c647_5) ∧ w'.cell? ⟨gb648, 6, none⟩ = some (.slice A647_6 ((rd_T32 l0_1 x3_1).f6).length c647_6) ∧ w'.cell? ⟨gb645, 0, none⟩ = some (.int .i64 a0_0) ∧ w'.cell? ⟨gb645, 1, none⟩ = some (.slice (some ad647) l0_1.length c0_1)) (ds := []) #[false, false, false, false, false, false, false, false, false, false, false, false, false, false, false, false, false, false, false, false, false, false, false, false, false, false, false, false, false, false, false] (by kernel_rfl) rfl rfl ⟨bc BK648 0, bc BK648 1, bc BK648 2, bc BK648 3, bc BK648 4, bc BK648 5, bc BK648 6, bc BK645 0, bc BK645 1⟩ (fun hHeld => ?_); refine with_tabW spec_BaseOk.tab5 spec_BaseOk.bits5 (fun HT_ HW_ => ?_)
          generalize w24.drew = w35 at BK645 BK648 HB hHeld ⊢
          refine take_ (i := 0) (N := some 17) (v := ?_) (a' := ?_) (zb 31 1) rfl rfl (take_ofW HT_.out HW_.out (by kernel_rfl)) (fun _ _ _ h => h) (Or.inl ⟨by rfl, ?_⟩) hHeld ?_ ?_
          rotate_left; ·rintro w' ⟨s0, s1, s2, s3, s4, s5, s6, s7, s8⟩; go_simp; with_reducible rfl
          rotate_left; ·simp only [Act.put, zq0, zq1, zq2, i64_w, i32_w]; rfl
          refine one_ (i := 1) (N := some 18) (zb 31 3) rfl rfl (one_of HT_.out (by kernel_rfl)) (by decide) (fun K hK => ?_)
          refine gs Try.func11 #[.agg #[.string ((rd_T32 l0_1 x3_1).f0), .int .i64 ((rd_T32 l0_1 x3_1).f1), .int .i64 ((rd_T32 l0_1 x3_1).f2), .string ((rd_T32 l0_1 x3_1).f3), .slice A647_4 ((rd_T32 l0_1 x3_1).f4).length c647_4, .slice A647_5 ((rd_T32 l0_1 x3_1).f5).length c647_5, .slice A647_6 ((rd_T32 l0_1 x3_1).f6).length c647_6]] ?_
          with_reducible refine (spec_EntryOk.calls k1 ((rd_T32 l0_1 x3_1).f0) ((rd_T32 l0_1 x3_1).f1) ((rd_T32 l0_1 x3_1).f2) ((rd_T32 l0_1 x3_1).f3) _ _ ((rd_T32 l0_1 x3_1).f4) _ _ ((rd_T32 l0_1 x3_1).f5) _ _ ((rd_T32 l0_1 x3_1).f6) true _ ?side1 ?side2 ?side3 ?side4 ?side5 ?side6 A10.out).mono ?_
          (case side1 => exact kc HR647_4 HB)
          (case side2 => exact HC647_4.out)
          (case side3 => exact kc HR647_5 HB)
          (case side4 => exact HC647_5.out)
          (case side5 => exact kc HR647_6 HB)
          (case side6 => exact HC647_6.out)
          rintro e w36 ⟨rfl, hb⟩
          refine ⟨_, rfl, ?_⟩
          have n0_ := zq9 (zq30 (g := gb645) (o := .cells #[.int .i64 a0_0, .slice (some ad647) l0_1.length c0_1] 46 (0, 0)) (by exact bk BK645) hb)
          have n1_ := zq9 (zq30 (g := gb648) (o := .cells #[.string ((rd_T32 l0_1 x3_1).f0), .int .i64 ((rd_T32 l0_1 x3_1).f1), .int .i64 ((rd_T32 l0_1 x3_1).f2), .string ((rd_T32 l0_1 x3_1).f3), .slice A647_4 ((rd_T32 l0_1 x3_1).f4).length c647_4, .slice A647_5 ((rd_T32 l0_1 x3_1).f5).length c647_5, .slice A647_6 ((rd_T32 l0_1 x3_1).f6).length c647_6] 32 (0, 0)) (by exact bk BK648) hb)
          have n2_ := zq9 (zq27 (by exact b2 HB GE645 GE648) hb)
          clear BK645; clear BK648; clear HB; have BK645 := n0_; have BK648 := n1_; have HB := n2_; clear n0_ n1_ n2_
          (try clear hb)
          (try clear hb2)
          (try clear hk)
          (try clear hi)
          refine hK.out _ _ ⟨bc BK648 0, bc BK648 1, bc BK648 2, bc BK648 3, bc BK648 4, bc BK648 5, bc BK648 6, bc BK645 0, bc BK645 1⟩ (fun hHeld => ?_)
          clear hK K
          refine norm_ (a' := ?_) ?_ ?_
          rotate_left; ·show Act.put _ (some 18) _ = _; simp only [Act.put, zq0, zq1, zq2, i64_w, i32_w]; rfl
          refine pa HT_ 2 19 (zb 31 7) ?_; refine pa HT_ 3 20 (zb 31 15) ?_; refine pa HT_ 4 21 (zb 31 31) ?_
          refine take_ (i := 5) (N := some 22) (v := ?_) (a' := ?_) (zb 31 63) rfl rfl (take_ofW HT_.out HW_.out (by kernel_rfl)) (fun _ _ _ h => h) (Or.inl ⟨by rfl, ?_⟩) hHeld ?_ ?_
          rotate_left; ·rintro w' ⟨s0, s1, s2, s3, s4, s5, s6, s7, s8⟩; go_simp; with_reducible rfl
          rotate_left; ·simp only [Act.put, zq0, zq1, zq2, i64_w, i32_w]; rfl
          refine pa HT_ 6 23 (zb 31 127) ?_; refine pa HT_ 7 24 (zb 31 255) ?_; refine pa HT_ 8 25 (zb 31 511) ?_; refine pa HT_ 10 27 (zb 31 1535) ?_
          refine take_ (i := 9) (N := some 26) (v := ?_) (a' := ?_) (zb 31 2047) rfl rfl (take_ofW HT_.out HW_.out (by kernel_rfl)) (fun _ _ _ h => h) (Or.inl ⟨by rfl, ?_⟩) hHeld ?_ ?_
          rotate_left; ·rintro w' ⟨s0, s1, s2, s3, s4, s5, s6, s7, s8⟩; go_simp; with_reducible rfl
          rotate_left; ·simp only [Act.put, zq0, zq1, zq2, i64_w, i32_w]; rfl
          refine take_ (i := 11) (N := some 28) (v := ?_) (a' := ?_) (zb 31 4095) rfl rfl (take_ofW HT_.out HW_.out (by kernel_rfl)) (fun _ _ _ h => h) (Or.inl ⟨by rfl, ?_⟩) hHeld ?_ ?_
          rotate_left; ·rintro w' ⟨s0, s1, s2, s3, s4, s5, s6, s7, s8⟩; go_simp; with_reducible rfl
          rotate_left; ·simp only [Act.put, zq0, zq1, zq2, i64_w, i32_w]; rfl
          refine pa HT_ 12 29 (zb 31 8191) ?_; refine pa HT_ 13 30 (zb 31 16383) ?_; refine pa HT_ 14 31 (zb 31 32767) ?_; refine pa HT_ 15 32 (zb 31 65535) ?_; refine pa HT_ 16 33 (zb 31 131071) ?_; refine pa HT_ 17 34 (zb 31 262143) ?_; refine pa HT_ 18 35 (zb 31 524287) ?_; refine pb HT_ 19 36 (zb 31 1048575) ?_; refine pb HT_ 20 37 (zb 31 2097151) ?_; refine pb HT_ 21 38 (zb 31 4194303) ?_; refine pb HT_ 22 39 (zb 31 8388607) ?_
          refine pb HT_ 23 40 (zb 31 16777215) ?_; refine pb HT_ 24 41 (zb 31 33554431) ?_; refine pb HT_ 25 42 (zb 31 67108863) ?_; refine pb HT_ 26 43 (zb 31 134217727) ?_; refine pb HT_ 27 44 (zb 31 268435455) ?_; refine pb HT_ 28 45 (zb 31 536870911) ?_; refine pa HT_ 29 46 (zb 31 1073741823) ?_; refine pa HT_ 30 47 (zb 31 2147483647) ?_
          refine done_ (done_of HT_.out (by kernel_rfl)) ?_
          try go_wp2
          go_meet
          case rel => exact ⟨_, (false), (by first | rfl | (simp; done) | (simp [*]; done)), H', ⟨by have := HK1.out; first | omega | exact Nat.le_refl _⟩, ⟨by refine bp ?_; exact BK645.out⟩, ⟨by refine bp ?_; exact BK648.out⟩, ⟨by exact b2 HB GE645 GE648⟩⟩
      ·replace c11 := Bool.eq_false_iff.mpr c11
       subst c11
       have H1 : (spec_BaseOk.j1 k1 x3_1 true a0_0 l0_1) = some r := by rw [if_neg (show ¬ (false = true) by decide)] at H; exact H
       clear H; have H := H1; clear H1; have H' := zq9 H; clear H
       try go_wp2
       have n0_ : Aside0 ((((((((w7.setCell ⟨gb648, 0, none⟩ (.string ((rd_T32 l0_1 x3_1).f0))).setCell ⟨gb648, 1, none⟩ (.int .i64 ((rd_T32 l0_1 x3_1).f1))).setCell ⟨gb648, 2, none⟩ (.int .i64 ((rd_T32 l0_1 x3_1).f2))).setCell ⟨gb648, 3, none⟩ (.string ((rd_T32 l0_1 x3_1).f3))).setCell ⟨gb648, 4, none⟩ (.slice A647_4 ((rd_T32 l0_1 x3_1).f4).length c647_4)).setCell ⟨gb648, 5, none⟩ (.slice A647_5 ((rd_T32 l0_1 x3_1).f5).length c647_5)).setCell ⟨gb648, 6, none⟩ (.slice A647_6 ((rd_T32 l0_1 x3_1).f6).length c647_6)).heap[gb645]? = some (.cells #[.int .i64 a0_0, .slice (some ad647) l0_1.length c0_1] 46 (0, 0))) := ⟨by refine bp ?_; refine blk_far ?_ NB645_648.out _; refine bp ?_; refine blk_far ?_ NB645_648.out _; refine bp ?_; refine blk_far ?_ NB645_648.out _; refine bp ?_; refine blk_far ?_ NB645_648.out _; refine bp ?_; refine blk_far ?_ NB645_648.out _; refine bp ?_; refine blk_far ?_ NB645_648.out _; refine bp ?_; refine blk_far ?_ NB645_648.out _; refine bp ?_; exact BK645.out⟩
       have n1_ : Aside0 ((((((((w7.setCell ⟨gb648, 0, none⟩ (.string ((rd_T32 l0_1 x3_1).f0))).setCell ⟨gb648, 1, none⟩ (.int .i64 ((rd_T32 l0_1 x3_1).f1))).setCell ⟨gb648, 2, none⟩ (.int .i64 ((rd_T32 l0_1 x3_1).f2))).setCell ⟨gb648, 3, none⟩ (.string ((rd_T32 l0_1 x3_1).f3))).setCell ⟨gb648, 4, none⟩ (.slice A647_4 ((rd_T32 l0_1 x3_1).f4).length c647_4)).setCell ⟨gb648, 5, none⟩ (.slice A647_5 ((rd_T32 l0_1 x3_1).f5).length c647_5)).setCell ⟨gb648, 6, none⟩ (.slice A647_6 ((rd_T32 l0_1 x3_1).f6).length c647_6)).heap[gb648]? = some (.cells #[.string ((rd_T32 l0_1 x3_1).f0), .int .i64 ((rd_T32 l0_1 x3_1).f1), .int .i64 ((rd_T32 l0_1 x3_1).f2), .string ((rd_T32 l0_1 x3_1).f3), .slice A647_4 ((rd_T32 l0_1 x3_1).f4).length c647_4, .slice A647_5 ((rd_T32 l0_1 x3_1).f5).length c647_5, .slice A647_6 ((rd_T32 l0_1 x3_1).f6).length c647_6] 32 (0, 0))) := ⟨(blk_set (blk_set (blk_set (blk_set (blk_set (blk_set (blk_set BK648.out 0 _) 1 _) 2 _) 3 _) 4 _) 5 _) 6 _)⟩
       have n2_ : Aside0 (Below w.heap.size w (((((((w7.setCell ⟨gb648, 0, none⟩ (.string ((rd_T32 l0_1 x3_1).f0))).setCell ⟨gb648, 1, none⟩ (.int .i64 ((rd_T32 l0_1 x3_1).f1))).setCell ⟨gb648, 2, none⟩ (.int .i64 ((rd_T32 l0_1 x3_1).f2))).setCell ⟨gb648, 3, none⟩ (.string ((rd_T32 l0_1 x3_1).f3))).setCell ⟨gb648, 4, none⟩ (.slice A647_4 ((rd_T32 l0_1 x3_1).f4).length c647_4)).setCell ⟨gb648, 5, none⟩ (.slice A647_5 ((rd_T32 l0_1 x3_1).f5).length c647_5)).setCell ⟨gb648, 6, none⟩ (.slice A647_6 ((rd_T32 l0_1 x3_1).f6).length c647_6))) := ⟨by exact b2 HB GE645 GE648⟩
       (try clear BK645)
       (try clear BK648)
       (try clear HB)
       generalize (((((((w7.setCell ⟨gb648, 0, none⟩ (.string ((rd_T32 l0_1 x3_1).f0))).setCell ⟨gb648, 1, none⟩ (.int .i64 ((rd_T32 l0_1 x3_1).f1))).setCell ⟨gb648, 2, none⟩ (.int .i64 ((rd_T32 l0_1 x3_1).f2))).setCell ⟨gb648, 3, none⟩ (.string ((rd_T32 l0_1 x3_1).f3))).setCell ⟨gb648, 4, none⟩ (.slice A647_4 ((rd_T32 l0_1 x3_1).f4).length c647_4)).setCell ⟨gb648, 5, none⟩ (.slice A647_5 ((rd_T32 l0_1 x3_1).f5).length c647_5)).setCell ⟨gb648, 6, none⟩ (.slice A647_6 ((rd_T32 l0_1 x3_1).f6).length c647_6)) = w37 at n0_ n1_ n2_ ⊢
       have BK645 := n0_; have BK648 := n1_; have HB := n2_; clear n0_ n1_ n2_
       have n0_ := zq9 (blk_drew BK645.out)
       have n1_ := zq9 (blk_drew BK648.out)
       have n2_ := zq9 (zq4 HB.out)
       clear BK645; clear BK648; clear HB; have BK645 := n0_; have BK648 := n1_; have HB := n2_; clear n0_ n1_ n2_
       refine start_ (n := 31) (S := fun w' => w'.cell? ⟨gb648, 0, none⟩ = some (.string ((rd_T32 l0_1 x3_1).f0)) ∧ w'.cell? ⟨gb648, 1, none⟩ = some (.int .i64 ((rd_T32 l0_1 x3_1).f1)) ∧ w'.cell? ⟨gb648, 2, none⟩ = some (.int .i64 ((rd_T32 l0_1 x3_1).f2)) ∧ w'.cell? ⟨gb648, 3, none⟩ = some (.string ((rd_T32 l0_1 x3_1).f3)) ∧ w'.cell? ⟨gb648, 4, none⟩ = some (.slice A647_4 ((rd_T32 l0_1 x3_1).f4).length c647_4) ∧ w'.cell? ⟨gb648, 5, none⟩ = some (.slice A647_5 ((rd_T32 l0_1 x3_1).f5).length c647_5) ∧ w'.cell? ⟨gb648, 6, none⟩ = some (.slice A647_6 ((rd_T32 l0_1 x3_1).f6).length c647_6)) (ds := []) #[false, false, false, false, false, false, false, false, false, false, false, false, false, false, false, false, false, false, false, false, false, false, false, false, false, false, false, false, false, false, false] (by kernel_rfl) rfl rfl ⟨bc BK648 0, bc BK648 1, bc BK648 2, bc BK648 3, bc BK648 4, bc BK648 5, bc BK648 6⟩ (fun hHeld => ?_); refine with_tabW spec_BaseOk.tab5 spec_BaseOk.bits5 (fun HT_ HW_ => ?_)
       generalize w37.drew = w38 at BK645 BK648 HB hHeld ⊢
       refine take_ (i := 0) (N := some 17) (v := ?_) (a' := ?_) (zb 31 1) rfl rfl (take_ofW HT_.out HW_.out (by kernel_rfl)) (fun _ _ _ h => h) (Or.inl ⟨by rfl, ?_⟩) hHeld ?_ ?_
       rotate_left; ·rintro w' ⟨s0, s1, s2, s3, s4, s5, s6⟩; go_simp; with_reducible rfl
       rotate_left; ·simp only [Act.put, zq0, zq1, zq2, i64_w, i32_w]; rfl
       refine one_ (i := 1) (N := some 18) (zb 31 3) rfl rfl (one_of HT_.out (by kernel_rfl)) (by decide) (fun K hK => ?_)
       refine gs Try.func11 #[.agg #[.string ((rd_T32 l0_1 x3_1).f0), .int .i64 ((rd_T32 l0_1 x3_1).f1), .int .i64 ((rd_T32 l0_1 x3_1).f2), .string ((rd_T32 l0_1 x3_1).f3), .slice A647_4 ((rd_T32 l0_1 x3_1).f4).length c647_4, .slice A647_5 ((rd_T32 l0_1 x3_1).f5).length c647_5, .slice A647_6 ((rd_T32 l0_1 x3_1).f6).length c647_6]] ?_
       with_reducible refine (spec_EntryOk.calls k1 ((rd_T32 l0_1 x3_1).f0) ((rd_T32 l0_1 x3_1).f1) ((rd_T32 l0_1 x3_1).f2) ((rd_T32 l0_1 x3_1).f3) _ _ ((rd_T32 l0_1 x3_1).f4) _ _ ((rd_T32 l0_1 x3_1).f5) _ _ ((rd_T32 l0_1 x3_1).f6) false _ ?side1 ?side2 ?side3 ?side4 ?side5 ?side6 A10.out).mono ?_
       (case side1 => exact kc HR647_4 HB)
       (case side2 => exact HC647_4.out)
       (case side3 => exact kc HR647_5 HB)
       (case side4 => exact HC647_5.out)
       (case side5 => exact kc HR647_6 HB)
       (case side6 => exact HC647_6.out)
       rintro e w39 ⟨rfl, hb⟩
       refine ⟨_, rfl, ?_⟩
       have n0_ := zq9 (zq30 (g := gb645) (o := .cells #[.int .i64 a0_0, .slice (some ad647) l0_1.length c0_1] 46 (0, 0)) (by exact bk BK645) hb)
       have n1_ := zq9 (zq30 (g := gb648) (o := .cells #[.string ((rd_T32 l0_1 x3_1).f0), .int .i64 ((rd_T32 l0_1 x3_1).f1), .int .i64 ((rd_T32 l0_1 x3_1).f2), .string ((rd_T32 l0_1 x3_1).f3), .slice A647_4 ((rd_T32 l0_1 x3_1).f4).length c647_4, .slice A647_5 ((rd_T32 l0_1 x3_1).f5).length c647_5, .slice A647_6 ((rd_T32 l0_1 x3_1).f6).length c647_6] 32 (0, 0)) (by exact bk BK648) hb)
       have n2_ := zq9 (zq27 (by exact b2 HB GE645 GE648) hb)
       clear BK645; clear BK648; clear HB; have BK645 := n0_; have BK648 := n1_; have HB := n2_; clear n0_ n1_ n2_
       (try clear hb)
       (try clear hb2)
       (try clear hk)
       (try clear hi)
       refine hK.out _ _ ⟨bc BK648 0, bc BK648 1, bc BK648 2, bc BK648 3, bc BK648 4, bc BK648 5, bc BK648 6⟩ (fun hHeld => ?_)
       clear hK K
       refine norm_ (a' := ?_) ?_ ?_
       rotate_left; ·show Act.put _ (some 18) _ = _; simp only [Act.put, zq0, zq1, zq2, i64_w, i32_w]; rfl
       refine pa HT_ 2 19 (zb 31 7) ?_; refine pa HT_ 3 20 (zb 31 15) ?_; refine pb HT_ 4 21 (zb 31 31) ?_; refine pb HT_ 5 22 (zb 31 63) ?_; refine pb HT_ 6 23 (zb 31 127) ?_; refine pb HT_ 7 24 (zb 31 255) ?_; refine pb HT_ 8 25 (zb 31 511) ?_; refine pb HT_ 9 26 (zb 31 1023) ?_; refine pb HT_ 10 27 (zb 31 2047) ?_; refine pb HT_ 11 28 (zb 31 4095) ?_; refine pb HT_ 12 29 (zb 31 8191) ?_; refine pb HT_ 13 30 (zb 31 16383) ?_
       refine pa HT_ 14 31 (zb 31 32767) ?_; refine pa HT_ 15 32 (zb 31 65535) ?_; refine pb HT_ 16 33 (zb 31 131071) ?_; refine pb HT_ 17 34 (zb 31 262143) ?_; refine pb HT_ 18 35 (zb 31 524287) ?_; refine pb HT_ 19 36 (zb 31 1048575) ?_; refine pb HT_ 20 37 (zb 31 2097151) ?_; refine pb HT_ 21 38 (zb 31 4194303) ?_; refine pb HT_ 22 39 (zb 31 8388607) ?_; refine pb HT_ 23 40 (zb 31 16777215) ?_; refine pb HT_ 24 41 (zb 31 33554431) ?_
       refine pb HT_ 25 42 (zb 31 67108863) ?_; refine pb HT_ 26 43 (zb 31 134217727) ?_; refine pb HT_ 27 44 (zb 31 268435455) ?_; refine pb HT_ 28 45 (zb 31 536870911) ?_; refine pb HT_ 29 46 (zb 31 1073741823) ?_; refine pa HT_ 30 47 (zb 31 2147483647) ?_
       refine done_ (done_of HT_.out (by kernel_rfl)) ?_
       try go_wp2
       go_meet
       case rel => exact ⟨_, (true), (by first | rfl | (simp; done) | (simp [*]; done)), H', ⟨by have := HK1.out; first | omega | exact Nat.le_refl _⟩, ⟨by refine bp ?_; exact BK645.out⟩, ⟨by refine bp ?_; exact BK648.out⟩, ⟨by exact b2 HB GE645 GE648⟩⟩
     case rest =>
      clear HC5
      try clear c1
      try clear c2
      try clear p2
      try clear c3
      try clear c6
      try clear c11
      try clear c27
      try clear c27b0
      try clear c29
      try clear c30
      obtain ⟨kq, x47_4, rfl, HA, HJ4, BK645, BK648, HB⟩ := hcut
      cases kq with
      | zero => exact absurd HA.out (by simp [spec_BaseOk.j1])
      | succ kj4 =>
       have H := HA.out; clear HA
       simp only [spec_BaseOk.j1] at H
       by_cases c40 : x47_4 = true
       ·subst c40
        have H1 : (some false) = some r := by rw [if_pos rfl] at H; exact H
        clear H; have H := H1; clear H1; obtain rfl := Option.some.inj H
        go_wp2
        go_ret
        exact fz (by exact b2 HB GE645 GE648)
       ·replace c40 := Bool.eq_false_iff.mpr c40
        subst c40
        have H1 : (spec_BaseOk.l0 kj4 (wrap64 (x3_1 + 1)) a0_0 l0_1) = some r := by rw [if_neg (show ¬ (false = true) by decide)] at H; exact H
        clear H; have H := H1; clear H1; have H' := zq9 H; clear H
        go_wp2
        go_roundg kj4
        case measure => have := HK1.out; have := HJ4.out; omega
        case rel => exact ⟨(wrap64 (x3_1 + 1)), (by first | rfl | (simp; done) | (simp [*]; done)), H', ⟨by have := HK1.out; have := HJ4.out; omega⟩, ⟨by refine bp ?_; exact BK645.out⟩, ⟨by exact b2 HB GE645 GE648⟩⟩
    ·rw [if_neg c4] at H
     exact absurd H (by simp)
   case' n0 =>
    rw [if_neg c3] at H; have c3b0 : decide (x3_1 < (l0_1.length : Int)) = false := decide_eq_false c3; clear c3; replace H := Option.bind_eq_some_iff.mp H; obtain ⟨t646, A410, H⟩ := H
    try dsimp only at H
    have A41 := zq9 A410; clear A410
    have hcz43_0 : wr.cell? ⟨gb645, 0, none⟩ = some (.int .i64 a0_0) := bc BK645 0
    have hcz43_1 : wr.cell? ⟨gb645, 1, none⟩ = some (.slice A0_1 l0_1.length c0_1) := bc BK645 1
    have hfz43_0 := zq6 BK645.out 0
    have hfz43_1 := zq6 BK645.out 1
    refine (Classical.em (t646 = true)).elim (fun c42 => ?p12) (fun c42 => ?n12)
    case' p12 =>
     subst c42
     have H1 : (some (decide ((l0_1.length : Int) ≤ 12))) = some r := by rw [if_pos rfl] at H; exact H
     clear H; have H := H1; clear H1; obtain rfl := Option.some.inj H
    case' n12 =>
     replace c42 := Bool.eq_false_iff.mpr c42
     subst c42
     have H1 : (some false) = some r := by rw [if_neg (show ¬ (false = true) by decide)] at H; exact H
     clear H; have H := H1; clear H1; obtain rfl := Option.some.inj H
   case p12 | n12 =>
    try go_wp2_with (first | ((with_reducible refine zq24 (f := 40) rfl ?_); refine gl (some 50) Try.func40 #[.int .i64 a0_0, .int .i64 0, .int .i64 1000000] ?_; (with_reducible refine (spec_l1In.calls a0_0 0 1000000 false _ A41.out).mono ?_); rintro e w' ⟨rfl, ⟨nd, rfl⟩⟩; refine ⟨_, rfl, ?_⟩) | ((with_reducible refine zq24 (f := 40) rfl ?_); refine gl (some 50) Try.func40 #[.int .i64 a0_0, .int .i64 0, .int .i64 1000000] ?_; (with_reducible refine (spec_l1In.calls a0_0 0 1000000 true _ A41.out).mono ?_); rintro e w' ⟨rfl, ⟨nd, rfl⟩⟩; refine ⟨_, rfl, ?_⟩))
    go_ret
    exact fz (by exact b1 HB GE645)
set_option maxHeartbeats 8000000 in
set_option maxRecDepth 100000 in
theorem spec_l4At.calls (k : Nat) (a0_0 : Int) (A0_1 : Option Addr) (c0_1 : Nat) (l0_1 : List (S32)) (a1 : ByteArray) (r1 : Int) (r2 : Bool) (w : World) (hr0_1 : Kd.C k32 w A0_1 l0_1.length l0_1) (hc0_1 : l0_1.length ≤ c0_1) (h : spec_l4At.f k a0_0 l0_1 a1 = some (r1, r2)) :
    Calls Try.prog 65 #[.agg #[.int .i64 a0_0, .slice A0_1 l0_1.length c0_1], .string a1] w fun e w' => e = .returned (.tuple #[.int .i64 r1, .bool r2]) ∧ Below w.heap.size w w' := by
  have hu46 := Try.underlying46; have HR0_1 := zq9 hr0_1; have HC0_1 := zq9 hc0_1; clear hr0_1 hc0_1
  have HB := zq9 (Below.refl w.heap.size w)
  have H : (spec_l4At.l0 k a1 0 a0_0 l0_1) = some (r1, r2) := h
  clear h; have H' := zq9 H; clear H
  go_enter Try.func65, Try.ntmps65
  go_wp2_with (first | ((with_reducible refine zq25 (N := 2) rfl ?_); refine bx 2 #[.int .i64 a0_0, .slice A0_1 l0_1.length c0_1] 46 ?_; intro gb763 hg w3 hbox hb; have n0_ := zq9 (zq27 (by exact bl HB) hb); have n1_ := zq9 (hbox); have n2_ := zq9 ((by rw [hg]; exact (zq29 (by exact bl HB)) : w.heap.size ≤ gb763)); have n3_ := n2_; clear HB; have HB := n0_; have BK763 := n1_; have GW763 := n2_; have GE763 := n3_; clear n0_ n1_ n2_ n3_; clear hb hbox hg))
  repeat (go_quiet (first | ((with_reducible refine zq25 (N := 2) rfl ?_); refine bx 2 #[.int .i64 a0_0, .slice A0_1 l0_1.length c0_1] 46 ?_; intro gb763 hg w3 hbox hb; have n0_ := zq9 (zq27 (by exact bl HB) hb); have n1_ := zq9 (hbox); have n2_ := zq9 ((by rw [hg]; exact (zq29 (by exact bl HB)) : w.heap.size ≤ gb763)); have n3_ := n2_; clear HB; have HB := n0_; have BK763 := n1_; have GW763 := n2_; have GE763 := n3_; clear n0_ n1_ n2_ n3_; clear hb hbox hg)); try go_wp2_with (first | ((with_reducible refine zq25 (N := 2) rfl ?_); refine bx 2 #[.int .i64 a0_0, .slice A0_1 l0_1.length c0_1] 46 ?_; intro gb763 hg w3 hbox hb; have n0_ := zq9 (zq27 (by exact bl HB) hb); have n1_ := zq9 (hbox); have n2_ := zq9 ((by rw [hg]; exact (zq29 (by exact bl HB)) : w.heap.size ≤ gb763)); have n3_ := n2_; clear HB; have HB := n0_; have BK763 := n1_; have GW763 := n2_; have GE763 := n3_; clear n0_ n1_ n2_ n3_; clear hb hbox hg)))
  go_loopg [6] k (fun kq v6 w' => ∃ (x6_1 : Int), v6 = .int .i64 x6_1 ∧ Aside0 (spec_l4At.l0 kq a1 x6_1 a0_0 l0_1 = some (r1, r2)) ∧ Aside0 (kq ≤ k) ∧ Aside0 (w'.heap[gb763]? = some (.cells #[.int .i64 a0_0, (.slice A0_1 l0_1.length c0_1)] 46 (0, 0))) ∧ Aside0 (Below w.heap.size w w'))
  case atStart => exact ⟨(0), (by first | rfl | (simp; done) | (simp [*]; done)), H', ⟨Nat.le_refl _⟩, ⟨by refine bp ?_; exact BK763.out⟩, ⟨by exact b1 HB GE763⟩⟩
  case round =>
    clear H'
    try clear p2
    obtain ⟨x6_1, rfl, HA, HK1, BK763, HB⟩ := hrel
    cases gk with
    | zero => exact absurd HA.out (by simp [spec_l4At.l0])
    | succ k1 =>
      have H := HA.out; clear HA
      simp only [spec_l4At.l0] at H
      have hcz7_0 : wr.cell? ⟨gb763, 0, none⟩ = some (.int .i64 a0_0) := bc BK763 0
      have hcz7_1 : wr.cell? ⟨gb763, 1, none⟩ = some (.slice A0_1 l0_1.length c0_1) := bc BK763 1
      have hfz7_0 := zq6 BK763.out 0
      have hfz7_1 := zq6 BK763.out 1
      by_cases c4 : x6_1 < (l0_1.length : Int)
      · rw [if_pos c4] at H; have c4b0 : decide (x6_1 < (l0_1.length : Int)) = true := decide_eq_true c4; clear c4
        by_cases c5 : 0 ≤ x6_1
        · rw [if_pos c5] at H; have c5b0 : decide (0 ≤ x6_1) = true := decide_eq_true c5; clear c5
          have p764 : 0 ≤ (x6_1 : Int) := of_decide_eq_true ‹_›
          have q764 : x6_1 < (l0_1.length : Int) := of_decide_eq_true ‹_›
          obtain ⟨ad764, A764_4, c764_4, A764_5, c764_5, A764_6, c764_6, e764, hx764_0, hx764_1, hx764_2, hx764_3, hx764_4, hx764_5, hx764_6, hl764_4, hi764_4, hl764_5, hi764_5, hl764_6, hi764_6⟩ := at_T32 HR0_1.out x6_1 p764 q764
          cases e764; replace hx764_0 := hcl HB hx764_0; replace hx764_1 := hcl HB hx764_1; replace hx764_2 := hcl HB hx764_2; replace hx764_3 := hcl HB hx764_3; replace hx764_4 := hcl HB hx764_4; replace hx764_5 := hcl HB hx764_5; replace hx764_6 := hcl HB hx764_6; have HR764_4 := zq9 hi764_4; have HC764_4 := zq9 hl764_4; clear hi764_4 hl764_4; have HR764_5 := zq9 hi764_5; have HC764_5 := zq9 hl764_5
          clear hi764_5 hl764_5; have HR764_6 := zq9 hi764_6; have HC764_6 := zq9 hl764_6; clear hi764_6 hl764_6; replace p764 := eq_true p764; replace q764 := eq_true q764
          by_cases c6 : (Op.bytesLess (((rd_T32 l0_1 x6_1).f0).toList) a1.toList) = true
          · rw [if_pos c6] at H
            have c6b0 : (Op.bytesLess (((rd_T32 l0_1 x6_1).f0).toList) a1.toList) = true := c6
            clear c6; have H' := zq9 H; clear H
            go_wp2
            repeat (go_quiet (fail); try go_wp2)
            go_roundg k1
            case measure => have := HK1.out; omega
            case rel => exact ⟨(wrap64 (x6_1 + 1)), (by first | rfl | (simp; done) | (simp [*]; done)), H', ⟨by have := HK1.out; omega⟩, ⟨by refine bp ?_; exact BK763.out⟩, ⟨by exact b1 HB GE763⟩⟩
          · rw [if_neg c6] at H
            have c6b0 : (Op.bytesLess (((rd_T32 l0_1 x6_1).f0).toList) a1.toList) = false := by simpa using c6
            clear c6
            simp only [Option.some.injEq, Prod.mk.injEq] at H
            obtain ⟨rfl, rfl⟩ := H
            have p765 : 0 ≤ (x6_1 : Int) := of_decide_eq_true ‹_›
            have q765 : x6_1 < (l0_1.length : Int) := of_decide_eq_true ‹_›
            obtain ⟨ad765, A765_4, c765_4, A765_5, c765_5, A765_6, c765_6, e765, hx765_0, hx765_1, hx765_2, hx765_3, hx765_4, hx765_5, hx765_6, hl765_4, hi765_4, hl765_5, hi765_5, hl765_6, hi765_6⟩ := at_T32 HR0_1.out x6_1 p765 q765
            obtain rfl : ad764 = ad765 := (by injection e765)
            replace hx765_0 := hcl HB hx765_0; replace hx765_1 := hcl HB hx765_1; replace hx765_2 := hcl HB hx765_2; replace hx765_3 := hcl HB hx765_3; replace hx765_4 := hcl HB hx765_4; replace hx765_5 := hcl HB hx765_5; replace hx765_6 := hcl HB hx765_6; have HR765_4 := zq9 hi765_4; have HC765_4 := zq9 hl765_4; clear hi765_4 hl765_4; have HR765_5 := zq9 hi765_5; have HC765_5 := zq9 hl765_5; clear hi765_5 hl765_5
            have HR765_6 := zq9 hi765_6; have HC765_6 := zq9 hl765_6; clear hi765_6 hl765_6; replace p765 := eq_true p765; replace q765 := eq_true q765
            have ea_ := Option.some.inj (hx764_4.symm.trans hx765_4)
            injection ea_ with ea_ en_ ec_
            subst ea_; subst ec_; clear en_
            have ea_ := Option.some.inj (hx764_5.symm.trans hx765_5)
            injection ea_ with ea_ en_ ec_
            subst ea_; subst ec_; clear en_
            have ea_ := Option.some.inj (hx764_6.symm.trans hx765_6)
            injection ea_ with ea_ en_ ec_
            subst ea_; subst ec_; clear en_
            go_wp2
            repeat (go_quiet (fail); try go_wp2)
            go_ret2
            exact fz (by exact b1 HB GE763)
        · rw [if_neg c5] at H
          exact absurd H (by simp)
      · rw [if_neg c4] at H; have c4b0 : decide (x6_1 < (l0_1.length : Int)) = false := decide_eq_false c4; clear c4
        simp only [Option.some.injEq, Prod.mk.injEq] at H
        obtain ⟨rfl, rfl⟩ := H
        go_wp2
        repeat (go_quiet (fail); try go_wp2)
        go_ret2
        exact fz (by exact b1 HB GE763)
set_option maxHeartbeats 8000000 in
set_option maxRecDepth 100000 in
theorem spec_l2Copy.calls (A0 : Option Addr) (c0 : Nat) (l0 : List ByteArray) (r : List ByteArray) (w : World) (hr0 : Kd.C Kd.string w A0 l0.length l0) (hc0 : l0.length ≤ c0) (h : spec_l2Copy.f l0 = some r) :
    Calls Try.prog 116 #[.slice A0 l0.length c0] w fun e w' => ∃ v0_ : Value, e = .returned (v0_) ∧ Kd.R Kd.string 9 w' w.heap.size (fun _ => True) v0_ r ∧ Below w.heap.size w w' := by
  have HR0 := zq9 hr0; have HC0 := zq9 hc0; clear hr0 hc0
  have HB := zq9 (Below.refl w.heap.size w)
  have H : ((some (([] : List ByteArray) : List ByteArray)).bind fun y766 => (if y766.length + l0.length < 8796093022208 then (some (y766 ++ l0)) else (none))) = some r := h
  clear h
  obtain ⟨y766, hy766⟩ : ∃ y_ : List ByteArray, y_ = (([] : List ByteArray)) := ⟨_, rfl⟩
  replace H : (if y766.length + l0.length < 8796093022208 then (some (y766 ++ l0)) else (none)) = some r := by first | (rw [hy766]; with_reducible exact H) | (have H2_ := (Option.bind_some _ _).symm.trans H; rw [hy766]; with_reducible exact H2_) | (have H2_ := (Option.bind_some _ _).symm.trans H; with_reducible exact H2_) | with_reducible exact H | (rw [hy766]; exact H) | exact H
  have Ny766 := zq9 hy766; clear hy766
  by_cases c2 : y766.length + l0.length < 8796093022208
  · rw [if_pos c2] at H; have LMc2 := zq9 c2; clear c2
    obtain ⟨y769, hy769⟩ : ∃ y_ : List ByteArray, y_ = (y766 ++ l0) := ⟨_, rfl⟩
    replace H : (some y769) = some r := by first | (rw [hy769]; with_reducible exact H) | (have H2_ := (Option.bind_some _ _).symm.trans H; rw [hy769]; with_reducible exact H2_) | (have H2_ := (Option.bind_some _ _).symm.trans H; with_reducible exact H2_) | with_reducible exact H | (rw [hy769]; exact H) | exact H
    have Ny769 := zq9 hy769; clear hy769; obtain rfl := Option.some.inj H
    go_enter Try.func116, Try.ntmps116
    go_wp2_with (first | ((with_reducible refine zq25 (N := 3) rfl ?_); refine Kd.R_lit Kd.string _ 9 ?hg (N := 3) ?hd (xs := ([] : List ByteArray)) (inner := []) (ok := fun _ => True) (okp := fun _ => True) ?hr ?hp (fun _ hk => hk) trivial (Below.refl _ _) (Nat.le_refl _) (by simp) ?_; (case hd => rfl); (case hg => rfl); (case hr => first | (go_simp; done) | (go_simp; rfl)); (case hp => exact (Reps.none _ _)); intro v767 w3 ho4 hb hg_ hnew_; clear hg_ hnew_; (first | rw [← Ny766.out] at ho4 | (simp only [Int.reduceToNat] at ho4; rw [← Ny766.out] at ho4)); have n0_ := zq9 (Kd.R_lower ho4 (zq29 (by exact bl HB))); have n1_ := zq9 (zq27 (by exact bl HB) hb); clear HB; have HO768 := n0_; have HB := n1_; clear n0_ n1_; clear hb ho4) | ((with_reducible refine gate_builtin (b := .append) (xs := #[.tmp 3, .tmp 4]) rfl ?_); at_builtin; refine Kd.R_append_rows Kd.string (w0 := w) w.heap.size rfl (.tmp 3) (.tmp 4) 22 9 (.string ⟨#[]⟩) 16 rfl Try.underlying22 info9 rfl (by decide) (by omega) v767 y766 l0 _ _ _ (fun _ => True) (fun _ => False) rfl rfl ?aO ?aR (fun _ _ h => h) (fun _ h => h.elim) ?aF ?aB ?aS ?aL ?_; (case aR => exact kc HR0 HB); (case aB => exact (by exact bl HB)); (case aF => exact (fun _ _ => trivial)); (case aO => exact (by exact rz HO768)); (case aS => exact (zq29 (by exact bl HB))); (case aL => have := LMc2.out; omega); intro v770 w5 ho hb hg hat; rw [← Ny769.out] at ho; have n0_ := zq9 (hb); have n1_ := zq9 (ho); clear HB; clear HO768; have HB := n0_; have HO771 := n1_; clear n0_ n1_; clear ho hb hg hat))
    go_ret
    exact ⟨_, by first | rfl | (simp [errW_none, errW_some] <;> rfl) | (simp [*, errW_none, errW_some] <;> rfl), by (with_reducible repeat (first | apply zq10 | apply zq11 | apply zq12)); exact HO771.out, by exact bl HB⟩
  · rw [if_neg c2] at H
    exact absurd H (by simp)
set_option maxHeartbeats 8000000 in
set_option maxRecDepth 100000 in
theorem spec_l4Entry.calls (a0_0 : ByteArray) (a0_1 : Int) (a0_2 : Int) (a0_3 : ByteArray) (A0_4 : Option Addr) (c0_4 : Nat) (l0_4 : List ByteArray) (A0_5 : Option Addr) (c0_5 : Nat) (l0_5 : List (S99)) (A0_6 : Option Addr) (c0_6 : Nat) (l0_6 : List (S101)) (r1 : ByteArray) (r2 : Int) (r3 : Int) (r4 : ByteArray) (r5 : List ByteArray) (r6 : List (S99)) (r7 : List (S101)) (w : World) (hr0_4 : Kd.C Kd.string w A0_4 l0_4.length l0_4) (hc0_4 : l0_4.length ≤ c0_4) (hr0_5 : Kd.C k99 w A0_5 l0_5.length l0_5) (hc0_5 : l0_5.length ≤ c0_5) (hr0_6 : Kd.C k101 w A0_6 l0_6.length l0_6) (hc0_6 : l0_6.length ≤ c0_6) (h : spec_l4Entry.f a0_0 a0_1 a0_2 a0_3 l0_4 l0_5 l0_6 = some (r1, r2, r3, r4, r5, r6, r7)) :
    Calls Try.prog 98 #[.agg #[.string a0_0, .int .i64 a0_1, .int .i64 a0_2, .string a0_3, .slice A0_4 l0_4.length c0_4, .slice A0_5 l0_5.length c0_5, .slice A0_6 l0_6.length c0_6]] w fun e w' => ∃ v4_ v5_ v6_ : Value, e = .returned (.agg #[.string r1, .int .i64 r2, .int .i64 r3, .string r4, v4_, v5_, v6_]) ∧ Kd.R Kd.string 9 w' w.heap.size (fun _ => True) v4_ r5 ∧ Kd.R k99 99 w' w.heap.size (fun _ => True) v5_ r6 ∧ Kd.R k101 101 w' w.heap.size (fun _ => True) v6_ r7 ∧ Below w.heap.size w w' := by
  have hu32 := Try.underlying32; have HR0_4 := zq9 hr0_4; have HC0_4 := zq9 hc0_4; clear hr0_4 hc0_4; have HR0_5 := zq9 hr0_5; have HC0_5 := zq9 hc0_5; clear hr0_5 hc0_5; have HR0_6 := zq9 hr0_6; have HC0_6 := zq9 hc0_6; clear hr0_6 hc0_6
  have HB := zq9 (Below.refl w.heap.size w)
  have H : ((spec_l2Copy.f l0_4).bind fun t774 => ((some (([] : List (S99)) : List (S99))).bind fun y777 => (if y777.length + l0_5.length < 5864062014805 then ((some (([] : List (S101)) : List (S101))).bind fun y783 => (if y783.length + l0_6.length < 4398046511104 then (some (a0_0, a0_1, a0_2, a0_3, t774, (y777 ++ l0_5), (y783 ++ l0_6))) else (none))) else (none)))) = some (r1, r2, r3, r4, r5, r6, r7) := h
  clear h; replace H := Option.bind_eq_some_iff.mp H; obtain ⟨t774, A20, H⟩ := H
  try dsimp only at H
  have A2 := zq9 A20; clear A20
  obtain ⟨y777, hy777⟩ : ∃ y_ : List (S99), y_ = (([] : List (S99))) := ⟨_, rfl⟩
  replace H : (if y777.length + l0_5.length < 5864062014805 then ((some (([] : List (S101)) : List (S101))).bind fun y783 => (if y783.length + l0_6.length < 4398046511104 then (some (a0_0, a0_1, a0_2, a0_3, t774, (y777 ++ l0_5), (y783 ++ l0_6))) else (none))) else (none)) = some (r1, r2, r3, r4, r5, r6, r7) := by first | (rw [hy777]; with_reducible exact H) | (have H2_ := (Option.bind_some _ _).symm.trans H; rw [hy777]; with_reducible exact H2_) | (have H2_ := (Option.bind_some _ _).symm.trans H; with_reducible exact H2_) | with_reducible exact H | (rw [hy777]; exact H) | exact H
  have Ny777 := zq9 hy777; clear hy777
  by_cases c3 : y777.length + l0_5.length < 5864062014805
  · rw [if_pos c3] at H; have LMc3 := zq9 c3; clear c3
    obtain ⟨y780, hy780⟩ : ∃ y_ : List (S99), y_ = (y777 ++ l0_5) := ⟨_, rfl⟩
    replace H : ((some (([] : List (S101)) : List (S101))).bind fun y783 => (if y783.length + l0_6.length < 4398046511104 then (some (a0_0, a0_1, a0_2, a0_3, t774, y780, (y783 ++ l0_6))) else (none))) = some (r1, r2, r3, r4, r5, r6, r7) := by first | (rw [hy780]; with_reducible exact H) | (have H2_ := (Option.bind_some _ _).symm.trans H; rw [hy780]; with_reducible exact H2_) | (have H2_ := (Option.bind_some _ _).symm.trans H; with_reducible exact H2_) | with_reducible exact H | (rw [hy780]; exact H) | exact H
    have Ny780 := zq9 hy780; clear hy780
    obtain ⟨y783, hy783⟩ : ∃ y_ : List (S101), y_ = (([] : List (S101))) := ⟨_, rfl⟩
    replace H : (if y783.length + l0_6.length < 4398046511104 then (some (a0_0, a0_1, a0_2, a0_3, t774, y780, (y783 ++ l0_6))) else (none)) = some (r1, r2, r3, r4, r5, r6, r7) := by first | (rw [hy783]; with_reducible exact H) | (have H2_ := (Option.bind_some _ _).symm.trans H; rw [hy783]; with_reducible exact H2_) | (have H2_ := (Option.bind_some _ _).symm.trans H; with_reducible exact H2_) | with_reducible exact H | (rw [hy783]; exact H) | exact H
    have Ny783 := zq9 hy783; clear hy783
    by_cases c4 : y783.length + l0_6.length < 4398046511104
    · rw [if_pos c4] at H; have LMc4 := zq9 c4; clear c4
      obtain ⟨y786, hy786⟩ : ∃ y_ : List (S101), y_ = (y783 ++ l0_6) := ⟨_, rfl⟩
      replace H : (some (a0_0, a0_1, a0_2, a0_3, t774, y780, y786)) = some (r1, r2, r3, r4, r5, r6, r7) := by first | (rw [hy786]; with_reducible exact H) | (have H2_ := (Option.bind_some _ _).symm.trans H; rw [hy786]; with_reducible exact H2_) | (have H2_ := (Option.bind_some _ _).symm.trans H; with_reducible exact H2_) | with_reducible exact H | (rw [hy786]; exact H) | exact H
      have Ny786 := zq9 hy786; clear hy786
      simp only [Option.some.injEq, Prod.mk.injEq] at H
      obtain ⟨rfl, rfl, rfl, rfl, rfl, rfl, rfl⟩ := H
      go_enter Try.func98, Try.ntmps98
      go_wp2_with (first | ((with_reducible refine zq25 (N := 1) rfl ?_); refine bx 1 #[.string a0_0, .int .i64 a0_1, .int .i64 a0_2, .string a0_3, .slice A0_4 l0_4.length c0_4, .slice A0_5 l0_5.length c0_5, .slice A0_6 l0_6.length c0_6] 32 ?_; intro gb772 hg w5 hbox hb; have n0_ := zq9 (zq27 (by exact bl HB) hb); have n1_ := zq9 (hbox); have n2_ := zq9 ((by rw [hg]; exact (zq29 (by exact bl HB)) : w.heap.size ≤ gb772)); have n3_ := n2_; clear HB; have HB := n0_; have BK772 := n1_; have GW772 := n2_; have GE772 := n3_; clear n0_ n1_ n2_ n3_; clear hb hbox hg) | ((with_reducible refine zq25 (N := 2) rfl ?_); refine bx 2 #[.string (⟨#[]⟩ : ByteArray), .int .i64 0, .int .i64 0, .string (⟨#[]⟩ : ByteArray), .slice none 0 0, .slice none 0 0, .slice none 0 0] 32 ?_; intro gb773 hg w6 hbox hb; have n0_ := zq9 (zq30 (g := gb772) (o := .cells #[.string a0_0, .int .i64 a0_1, .int .i64 a0_2, .string a0_3, .slice A0_4 l0_4.length c0_4, .slice A0_5 l0_5.length c0_5, .slice A0_6 l0_6.length c0_6] 32 (0, 0)) (by exact bk BK772) hb); have n1_ := zq9 (zq27 (by exact b1 HB GE772) hb); have n2_ := zq9 (hbox); have n3_ := zq9 ((by rw [hg]; exact (zq29 (by exact b1 HB GE772)) : w.heap.size ≤ gb773)); have n4_ := n3_; have n5_ := zq9 ((by rw [hg]; exact Nat.ne_of_lt (blk_lt (g := gb772) (o := .cells #[.string a0_0, .int .i64 a0_1, .int .i64 a0_2, .string a0_3, .slice A0_4 l0_4.length c0_4, .slice A0_5 l0_5.length c0_5, .slice A0_6 l0_6.length c0_6] 32 (0, 0)) (by exact bk BK772)) : gb772 ≠ gb773)); have n6_ := zq9 ((by rw [hg]; exact Nat.ne_of_gt (blk_lt (g := gb772) (o := .cells #[.string a0_0, .int .i64 a0_1, .int .i64 a0_2, .string a0_3, .slice A0_4 l0_4.length c0_4, .slice A0_5 l0_5.length c0_5, .slice A0_6 l0_6.length c0_6] 32 (0, 0)) (by exact bk BK772)) : gb773 ≠ gb772)); clear BK772; clear HB; have BK772 := n0_; have HB := n1_; have BK773 := n2_; have GW773 := n3_; have GE773 := n4_; have NB772_773 := n5_; have NB773_772 := n6_; clear n0_ n1_ n2_ n3_ n4_ n5_ n6_; clear hb hbox hg; have hnb7 := NB772_773.out; have hnc7 := NB773_772.out; have hcz8_0 : w6.cell? ⟨gb772, 0, none⟩ = some (.string a0_0) := bc BK772 0; have hcz8_1 : w6.cell? ⟨gb772, 1, none⟩ = some (.int .i64 a0_1) := bc BK772 1; have hcz8_2 : w6.cell? ⟨gb772, 2, none⟩ = some (.int .i64 a0_2) := bc BK772 2; have hcz8_3 : w6.cell? ⟨gb772, 3, none⟩ = some (.string a0_3) := bc BK772 3; have hcz8_4 : w6.cell? ⟨gb772, 4, none⟩ = some (.slice A0_4 l0_4.length c0_4) := bc BK772 4; have hcz8_5 : w6.cell? ⟨gb772, 5, none⟩ = some (.slice A0_5 l0_5.length c0_5) := bc BK772 5; have hcz8_6 : w6.cell? ⟨gb772, 6, none⟩ = some (.slice A0_6 l0_6.length c0_6) := bc BK772 6; have hfz8_0 := zq6 BK772.out 0; have hfz8_1 := zq6 BK772.out 1; have hfz8_2 := zq6 BK772.out 2; have hfz8_3 := zq6 BK772.out 3; have hfz8_4 := zq6 BK772.out 4; have hfz8_5 := zq6 BK772.out 5; have hfz8_6 := zq6 BK772.out 6) | ((with_reducible refine zq24 (f := 116) rfl ?_); refine gl (some 5) Try.func116 #[.slice A0_4 l0_4.length c0_4] ?_; (with_reducible refine (spec_l2Copy.calls _ _ l0_4 t774 _ ?side1 ?side2 A2.out).mono ?_); (case side1 => exact kc HR0_4 HB); (case side2 => exact HC0_4.out); rintro e w9 ⟨v775, rfl, ho0, hb⟩; refine ⟨_, rfl, ?_⟩; have n0_ := zq9 (Kd.R_lower ho0 (zq29 (by exact b2 HB GE772 GE773))); have n1_ := zq9 (zq30 (g := gb772) (o := .cells #[.string a0_0, .int .i64 a0_1, .int .i64 a0_2, .string a0_3, .slice A0_4 l0_4.length c0_4, .slice A0_5 l0_5.length c0_5, .slice A0_6 l0_6.length c0_6] 32 (0, 0)) (by exact bk BK772) hb); have n2_ := zq9 (zq30 (g := gb773) (o := .cells #[.string (⟨#[]⟩ : ByteArray), .int .i64 0, .int .i64 0, .string (⟨#[]⟩ : ByteArray), .slice none 0 0, .slice none 0 0, .slice none 0 0] 32 (0, 0)) (by exact bk BK773) hb); have n3_ := zq9 (zq27 (by exact b2 HB GE772 GE773) hb); clear BK772; clear BK773; clear HB; have HO776 := n0_; have BK772 := n1_; have BK773 := n2_; have HB := n3_; clear n0_ n1_ n2_ n3_; (try clear hb); (try clear hb2); (try clear hk); (try clear hi); (try clear ho0); obtain ⟨Ao10, co10, eo10⟩ := Kd.R_slice HO776.out; subst eo10; have hcz11_0 : w9.cell? ⟨gb772, 0, none⟩ = some (.string a0_0) := bc BK772 0; have hcz11_1 : w9.cell? ⟨gb772, 1, none⟩ = some (.int .i64 a0_1) := bc BK772 1; have hcz11_2 : w9.cell? ⟨gb772, 2, none⟩ = some (.int .i64 a0_2) := bc BK772 2; have hcz11_3 : w9.cell? ⟨gb772, 3, none⟩ = some (.string a0_3) := bc BK772 3; have hcz11_4 : w9.cell? ⟨gb772, 4, none⟩ = some (.slice A0_4 l0_4.length c0_4) := bc BK772 4; have hcz11_5 : w9.cell? ⟨gb772, 5, none⟩ = some (.slice A0_5 l0_5.length c0_5) := bc BK772 5; have hcz11_6 : w9.cell? ⟨gb772, 6, none⟩ = some (.slice A0_6 l0_6.length c0_6) := bc BK772 6; have hfz11_0 := zq6 BK772.out 0; have hfz11_1 := zq6 BK772.out 1; have hfz11_2 := zq6 BK772.out 2; have hfz11_3 := zq6 BK772.out 3; have hfz11_4 := zq6 BK772.out 4; have hfz11_5 := zq6 BK772.out 5; have hfz11_6 := zq6 BK772.out 6) | ((with_reducible refine zq25 (N := 7) rfl ?_); refine Kd.R_lit k99 _ 99 ?hg (N := 7) ?hd (xs := ([] : List (S99))) (inner := []) (ok := fun _ => True) (okp := fun _ => True) ?hr ?hp (fun _ hk => hk) trivial (Below.refl _ _) (Nat.le_refl _) (by simp) ?_; (case hd => rfl); (case hg => rfl); (case hr => first | (go_simp; done) | (go_simp; rfl)); (case hp => exact (Reps.none _ _)); intro v778 w12 ho13 hb hg_ hnew_; clear hg_ hnew_; (first | rw [← Ny777.out] at ho13 | (simp only [Int.reduceToNat] at ho13; rw [← Ny777.out] at ho13)); have n0_ := zq9 (Kd.R_below (by (with_reducible repeat (first | apply zq10 | apply zq11 | apply zq12)); exact (Kd.R_mono (Kd.R_far (p := ⟨gb772, 4, none⟩) (Kd.R_types HO776.out BK772.out (by decide)) (fun _ hk => hk.2) (.slice Ao10 t774.length co10)) (fun _ h_ => h_.1))) hb); have n1_ := zq9 (Kd.R_lower ho13 (zq29 (by exact b2 HB GE772 GE773))); have n2_ := zq9 (zq30 (g := gb772) (o := .cells #[.string a0_0, .int .i64 a0_1, .int .i64 a0_2, .string a0_3, .slice Ao10 t774.length co10, .slice A0_5 l0_5.length c0_5, .slice A0_6 l0_6.length c0_6] 32 (0, 0)) (by refine bp ?_; refine blk_put (cs := #[.string a0_0, .int .i64 a0_1, .int .i64 a0_2, .string a0_3, .slice A0_4 l0_4.length c0_4, .slice A0_5 l0_5.length c0_5, .slice A0_6 l0_6.length c0_6]) ?_ 4 _ rfl; refine bp ?_; exact BK772.out) hb); have n3_ := zq9 (zq30 (g := gb773) (o := .cells #[.string (⟨#[]⟩ : ByteArray), .int .i64 0, .int .i64 0, .string (⟨#[]⟩ : ByteArray), .slice none 0 0, .slice none 0 0, .slice none 0 0] 32 (0, 0)) (by refine bp ?_; refine blk_far ?_ NB773_772.out _; refine bp ?_; exact BK773.out) hb); have n4_ := zq9 (zq27 (by exact b2 HB GE772 GE773) hb); clear HO776; clear BK772; clear BK773; clear HB; have HO776 := n0_; have HO779 := n1_; have BK772 := n2_; have BK773 := n3_; have HB := n4_; clear n0_ n1_ n2_ n3_ n4_; clear hb ho13; have hcz14_0 : w12.cell? ⟨gb772, 0, none⟩ = some (.string a0_0) := bc BK772 0; have hcz14_1 : w12.cell? ⟨gb772, 1, none⟩ = some (.int .i64 a0_1) := bc BK772 1; have hcz14_2 : w12.cell? ⟨gb772, 2, none⟩ = some (.int .i64 a0_2) := bc BK772 2; have hcz14_3 : w12.cell? ⟨gb772, 3, none⟩ = some (.string a0_3) := bc BK772 3; have hcz14_4 : w12.cell? ⟨gb772, 4, none⟩ = some (.slice Ao10 t774.length co10) := bc BK772 4; have hcz14_5 : w12.cell? ⟨gb772, 5, none⟩ = some (.slice A0_5 l0_5.length c0_5) := bc BK772 5; have hcz14_6 : w12.cell? ⟨gb772, 6, none⟩ = some (.slice A0_6 l0_6.length c0_6) := bc BK772 6; have hfz14_0 := zq6 BK772.out 0; have hfz14_1 := zq6 BK772.out 1; have hfz14_2 := zq6 BK772.out 2; have hfz14_3 := zq6 BK772.out 3; have hfz14_4 := zq6 BK772.out 4; have hfz14_5 := zq6 BK772.out 5; have hfz14_6 := zq6 BK772.out 6) | ((with_reducible refine gate_builtin (b := .append) (xs := #[.tmp 7, .tmp 9]) rfl ?_); at_builtin; refine Kd.R_append_rows k99 (w0 := w) w.heap.size rfl (.tmp 7) (.tmp 9) 29 99 (.agg #[(.string ⟨#[]⟩), (.int .i64 0)]) 24 rfl Try.underlying29 info99 rfl (by decide) (by omega) v778 y777 l0_5 _ _ _ (fun _ => True) (fun _ => False) rfl rfl ?aO ?aR (fun _ _ h => h) (fun _ h => h.elim) ?aF ?aB ?aS ?aL ?_; (case aR => exact kc HR0_5 HB); (case aB => exact (by exact b2 HB GE772 GE773)); (case aF => exact (fun _ _ => trivial)); (case aO => exact (by exact rz HO779)); (case aS => exact (zq29 (by exact b2 HB GE772 GE773))); (case aL => have := LMc3.out; omega); intro v781 w15 ho hb hg hat; rw [← Ny780.out] at ho; have n0_ := zq9 (blk_grown (g := gb772) (o := .cells #[.string a0_0, .int .i64 a0_1, .int .i64 a0_2, .string a0_3, .slice Ao10 t774.length co10, .slice A0_5 l0_5.length c0_5, .slice A0_6 l0_6.length c0_6] 32 (0, 0)) (by exact bk BK772) hg (Kd.R_ne HO779.out BK772.out (by decide))); have n1_ := zq9 (blk_grown (g := gb773) (o := .cells #[.string (⟨#[]⟩ : ByteArray), .int .i64 0, .int .i64 0, .string (⟨#[]⟩ : ByteArray), .slice none 0 0, .slice none 0 0, .slice none 0 0] 32 (0, 0)) (by exact bk BK773) hg (Kd.R_ne HO779.out BK773.out (by decide))); have n2_ := zq9 (Kd.R_over' (by exact rz HO776) (Kd.R_typed (by exact rz HO779)) (by decide) hg); have n3_ := zq9 (hb); have n4_ := zq9 (ho); clear BK772; clear BK773; clear HO776; clear HB; clear HO779; have BK772 := n0_; have BK773 := n1_; have HO776 := n2_; have HB := n3_; have HO782 := n4_; clear n0_ n1_ n2_ n3_ n4_; clear ho hb hg hat; obtain ⟨Ao16, co16, eo16⟩ := Kd.R_slice HO782.out; subst eo16; have hcz17_0 : w15.cell? ⟨gb772, 0, none⟩ = some (.string a0_0) := bc BK772 0; have hcz17_1 : w15.cell? ⟨gb772, 1, none⟩ = some (.int .i64 a0_1) := bc BK772 1; have hcz17_2 : w15.cell? ⟨gb772, 2, none⟩ = some (.int .i64 a0_2) := bc BK772 2; have hcz17_3 : w15.cell? ⟨gb772, 3, none⟩ = some (.string a0_3) := bc BK772 3; have hcz17_4 : w15.cell? ⟨gb772, 4, none⟩ = some (.slice Ao10 t774.length co10) := bc BK772 4; have hcz17_5 : w15.cell? ⟨gb772, 5, none⟩ = some (.slice A0_5 l0_5.length c0_5) := bc BK772 5; have hcz17_6 : w15.cell? ⟨gb772, 6, none⟩ = some (.slice A0_6 l0_6.length c0_6) := bc BK772 6; have hfz17_0 := zq6 BK772.out 0; have hfz17_1 := zq6 BK772.out 1; have hfz17_2 := zq6 BK772.out 2; have hfz17_3 := zq6 BK772.out 3; have hfz17_4 := zq6 BK772.out 4; have hfz17_5 := zq6 BK772.out 5; have hfz17_6 := zq6 BK772.out 6) | ((with_reducible refine zq25 (N := 12) rfl ?_); refine Kd.R_lit k101 _ 101 ?hg (N := 12) ?hd (xs := ([] : List (S101))) (inner := []) (ok := fun _ => True) (okp := fun _ => True) ?hr ?hp (fun _ hk => hk) trivial (Below.refl _ _) (Nat.le_refl _) (by simp) ?_; (case hd => rfl); (case hg => rfl); (case hr => first | (go_simp; done) | (go_simp; rfl)); (case hp => exact (Reps.none _ _)); intro v784 w18 ho19 hb hg_ hnew_; clear hg_ hnew_; (first | rw [← Ny783.out] at ho19 | (simp only [Int.reduceToNat] at ho19; rw [← Ny783.out] at ho19)); have n0_ := zq9 (Kd.R_below (by (with_reducible repeat (first | apply zq10 | apply zq11 | apply zq12)); exact (Kd.R_mono (Kd.R_far (p := ⟨gb772, 5, none⟩) (Kd.R_types HO776.out BK772.out (by decide)) (fun _ hk => hk.2) (.slice Ao16 y780.length co16)) (fun _ h_ => h_.1))) hb); have n1_ := zq9 (Kd.R_below (by (with_reducible repeat (first | apply zq10 | apply zq11 | apply zq12)); exact (Kd.R_mono (Kd.R_far (p := ⟨gb772, 5, none⟩) (Kd.R_types HO782.out BK772.out (by decide)) (fun _ hk => hk.2) (.slice Ao16 y780.length co16)) (fun _ h_ => h_.1))) hb); have n2_ := zq9 (Kd.R_lower ho19 (zq29 (by exact b2 HB GE772 GE773))); have n3_ := zq9 (zq30 (g := gb772) (o := .cells #[.string a0_0, .int .i64 a0_1, .int .i64 a0_2, .string a0_3, .slice Ao10 t774.length co10, .slice Ao16 y780.length co16, .slice A0_6 l0_6.length c0_6] 32 (0, 0)) (by refine bp ?_; refine blk_put (cs := #[.string a0_0, .int .i64 a0_1, .int .i64 a0_2, .string a0_3, .slice Ao10 t774.length co10, .slice A0_5 l0_5.length c0_5, .slice A0_6 l0_6.length c0_6]) ?_ 5 _ rfl; refine bp ?_; exact BK772.out) hb); have n4_ := zq9 (zq30 (g := gb773) (o := .cells #[.string (⟨#[]⟩ : ByteArray), .int .i64 0, .int .i64 0, .string (⟨#[]⟩ : ByteArray), .slice none 0 0, .slice none 0 0, .slice none 0 0] 32 (0, 0)) (by refine bp ?_; refine blk_far ?_ NB773_772.out _; refine bp ?_; exact BK773.out) hb); have n5_ := zq9 (zq27 (by exact b2 HB GE772 GE773) hb); clear HO776; clear HO782; clear BK772; clear BK773; clear HB; have HO776 := n0_; have HO782 := n1_; have HO785 := n2_; have BK772 := n3_; have BK773 := n4_; have HB := n5_; clear n0_ n1_ n2_ n3_ n4_ n5_; clear hb ho19; have hcz20_0 : w18.cell? ⟨gb772, 0, none⟩ = some (.string a0_0) := bc BK772 0; have hcz20_1 : w18.cell? ⟨gb772, 1, none⟩ = some (.int .i64 a0_1) := bc BK772 1; have hcz20_2 : w18.cell? ⟨gb772, 2, none⟩ = some (.int .i64 a0_2) := bc BK772 2; have hcz20_3 : w18.cell? ⟨gb772, 3, none⟩ = some (.string a0_3) := bc BK772 3; have hcz20_4 : w18.cell? ⟨gb772, 4, none⟩ = some (.slice Ao10 t774.length co10) := bc BK772 4; have hcz20_5 : w18.cell? ⟨gb772, 5, none⟩ = some (.slice Ao16 y780.length co16) := bc BK772 5; have hcz20_6 : w18.cell? ⟨gb772, 6, none⟩ = some (.slice A0_6 l0_6.length c0_6) := bc BK772 6; have hfz20_0 := zq6 BK772.out 0; have hfz20_1 := zq6 BK772.out 1; have hfz20_2 := zq6 BK772.out 2; have hfz20_3 := zq6 BK772.out 3; have hfz20_4 := zq6 BK772.out 4; have hfz20_5 := zq6 BK772.out 5; have hfz20_6 := zq6 BK772.out 6) | ((with_reducible refine gate_builtin (b := .append) (xs := #[.tmp 12, .tmp 14]) rfl ?_); at_builtin; refine Kd.R_append_rows k101 (w0 := w) w.heap.size rfl (.tmp 12) (.tmp 14) 30 101 (.agg #[(.string ⟨#[]⟩), (.string ⟨#[]⟩)]) 32 rfl Try.underlying30 info101 rfl (by decide) (by omega) v784 y783 l0_6 _ _ _ (fun _ => True) (fun _ => False) rfl rfl ?aO ?aR (fun _ _ h => h) (fun _ h => h.elim) ?aF ?aB ?aS ?aL ?_; (case aR => exact kc HR0_6 HB); (case aB => exact (by exact b2 HB GE772 GE773)); (case aF => exact (fun _ _ => trivial)); (case aO => exact (by exact rz HO785)); (case aS => exact (zq29 (by exact b2 HB GE772 GE773))); (case aL => have := LMc4.out; omega); intro v787 w21 ho hb hg hat; rw [← Ny786.out] at ho; have n0_ := zq9 (blk_grown (g := gb772) (o := .cells #[.string a0_0, .int .i64 a0_1, .int .i64 a0_2, .string a0_3, .slice Ao10 t774.length co10, .slice Ao16 y780.length co16, .slice A0_6 l0_6.length c0_6] 32 (0, 0)) (by exact bk BK772) hg (Kd.R_ne HO785.out BK772.out (by decide))); have n1_ := zq9 (blk_grown (g := gb773) (o := .cells #[.string (⟨#[]⟩ : ByteArray), .int .i64 0, .int .i64 0, .string (⟨#[]⟩ : ByteArray), .slice none 0 0, .slice none 0 0, .slice none 0 0] 32 (0, 0)) (by exact bk BK773) hg (Kd.R_ne HO785.out BK773.out (by decide))); have n2_ := zq9 (Kd.R_over' (by exact rz HO776) (Kd.R_typed (by exact rz HO785)) (by decide) hg); have n3_ := zq9 (Kd.R_over' (by exact rz HO782) (Kd.R_typed (by exact rz HO785)) (by decide) hg); have n4_ := zq9 (hb); have n5_ := zq9 (ho); clear BK772; clear BK773; clear HO776; clear HO782; clear HB; clear HO785; have BK772 := n0_; have BK773 := n1_; have HO776 := n2_; have HO782 := n3_; have HB := n4_; have HO788 := n5_; clear n0_ n1_ n2_ n3_ n4_ n5_; clear ho hb hg hat; obtain ⟨Ao22, co22, eo22⟩ := Kd.R_slice HO788.out; subst eo22; have hcz23_0 : w21.cell? ⟨gb772, 0, none⟩ = some (.string a0_0) := bc BK772 0; have hcz23_1 : w21.cell? ⟨gb772, 1, none⟩ = some (.int .i64 a0_1) := bc BK772 1; have hcz23_2 : w21.cell? ⟨gb772, 2, none⟩ = some (.int .i64 a0_2) := bc BK772 2; have hcz23_3 : w21.cell? ⟨gb772, 3, none⟩ = some (.string a0_3) := bc BK772 3; have hcz23_4 : w21.cell? ⟨gb772, 4, none⟩ = some (.slice Ao10 t774.length co10) := bc BK772 4; have hcz23_5 : w21.cell? ⟨gb772, 5, none⟩ = some (.slice Ao16 y780.length co16) := bc BK772 5; have hcz23_6 : w21.cell? ⟨gb772, 6, none⟩ = some (.slice A0_6 l0_6.length c0_6) := bc BK772 6; have hfz23_0 := zq6 BK772.out 0; have hfz23_1 := zq6 BK772.out 1; have hfz23_2 := zq6 BK772.out 2; have hfz23_3 := zq6 BK772.out 3; have hfz23_4 := zq6 BK772.out 4; have hfz23_5 := zq6 BK772.out 5; have hfz23_6 := zq6 BK772.out 6; have hcz24_0 : w21.cell? ⟨gb773, 0, none⟩ = some (.string (⟨#[]⟩ : ByteArray)) := bc BK773 0; have hcz24_1 : w21.cell? ⟨gb773, 1, none⟩ = some (.int .i64 0) := bc BK773 1; have hcz24_2 : w21.cell? ⟨gb773, 2, none⟩ = some (.int .i64 0) := bc BK773 2; have hcz24_3 : w21.cell? ⟨gb773, 3, none⟩ = some (.string (⟨#[]⟩ : ByteArray)) := bc BK773 3; have hcz24_4 : w21.cell? ⟨gb773, 4, none⟩ = some (.slice none 0 0) := bc BK773 4; have hcz24_5 : w21.cell? ⟨gb773, 5, none⟩ = some (.slice none 0 0) := bc BK773 5; have hcz24_6 : w21.cell? ⟨gb773, 6, none⟩ = some (.slice none 0 0) := bc BK773 6; have hfz24_0 := zq6 BK773.out 0; have hfz24_1 := zq6 BK773.out 1; have hfz24_2 := zq6 BK773.out 2; have hfz24_3 := zq6 BK773.out 3; have hfz24_4 := zq6 BK773.out 4; have hfz24_5 := zq6 BK773.out 5; have hfz24_6 := zq6 BK773.out 6))
      refine bodyPost_ret (results_cell_row rfl _ _ gb773 32 #[.string a0_0, .int .i64 a0_1, .int .i64 a0_2, .string a0_3, .slice Ao10 t774.length co10, .slice Ao16 y780.length co16, .slice Ao22 y786.length co22] (0, 0) _ rfl (by refine bp ?_; refine blk_put (cs := #[.string a0_0, .int .i64 a0_1, .int .i64 a0_2, .string a0_3, .slice Ao10 t774.length co10, .slice Ao16 y780.length co16, .slice none 0 0]) ?_ 6 _ rfl; refine bp ?_; refine blk_put (cs := #[.string a0_0, .int .i64 a0_1, .int .i64 a0_2, .string a0_3, .slice Ao10 t774.length co10, .slice none 0 0, .slice none 0 0]) ?_ 5 _ rfl; refine bp ?_; refine blk_put (cs := #[.string a0_0, .int .i64 a0_1, .int .i64 a0_2, .string a0_3, .slice none 0 0, .slice none 0 0, .slice none 0 0]) ?_ 4 _ rfl; refine bp ?_; refine blk_put (cs := #[.string a0_0, .int .i64 a0_1, .int .i64 a0_2, .string (⟨#[]⟩ : ByteArray), .slice none 0 0, .slice none 0 0, .slice none 0 0]) ?_ 3 _ rfl; refine bp ?_; refine blk_put (cs := #[.string a0_0, .int .i64 a0_1, .int .i64 0, .string (⟨#[]⟩ : ByteArray), .slice none 0 0, .slice none 0 0, .slice none 0 0]) ?_ 2 _ rfl; refine bp ?_; refine blk_put (cs := #[.string a0_0, .int .i64 0, .int .i64 0, .string (⟨#[]⟩ : ByteArray), .slice none 0 0, .slice none 0 0, .slice none 0 0]) ?_ 1 _ rfl; refine bp ?_; refine blk_put (cs := #[.string (⟨#[]⟩ : ByteArray), .int .i64 0, .int .i64 0, .string (⟨#[]⟩ : ByteArray), .slice none 0 0, .slice none 0 0, .slice none 0 0]) ?_ 0 _ rfl; refine bp ?_; refine blk_far ?_ NB773_772.out _; refine bp ?_; exact BK773.out) Try.underlying32 rfl (by kernel_rfl)) rfl ?_
      exact ⟨_, _, _, by first | rfl | (simp [errW_none, errW_some] <;> rfl) | (simp [*, errW_none, errW_some] <;> rfl), by (with_reducible repeat (first | apply zq10 | apply zq11 | apply zq12)); exact Kd.R_mono (Kd.R_far (p := ⟨gb773, 6, none⟩) (Kd.R_far (p := ⟨gb773, 5, none⟩) (Kd.R_far (p := ⟨gb773, 4, none⟩) (Kd.R_far (p := ⟨gb773, 3, none⟩) (Kd.R_far (p := ⟨gb773, 2, none⟩) (Kd.R_far (p := ⟨gb773, 1, none⟩) (Kd.R_far (p := ⟨gb773, 0, none⟩) (Kd.R_far (p := ⟨gb772, 6, none⟩) (Kd.R_types (Kd.R_types HO776.out BK772.out (by decide)) BK773.out (by decide)) (fun _ hk => hk.1.2) (.slice Ao22 y786.length co22)) (fun _ hk => hk.2) (.string a0_0)) (fun _ hk => hk.2) (.int .i64 a0_1)) (fun _ hk => hk.2) (.int .i64 a0_2)) (fun _ hk => hk.2) (.string a0_3)) (fun _ hk => hk.2) (.slice Ao10 t774.length co10)) (fun _ hk => hk.2) (.slice Ao16 y780.length co16)) (fun _ hk => hk.2) (.slice Ao22 y786.length co22)) (fun _ hk => trivial), by (with_reducible repeat (first | apply zq10 | apply zq11 | apply zq12)); exact Kd.R_mono (Kd.R_far (p := ⟨gb773, 6, none⟩) (Kd.R_far (p := ⟨gb773, 5, none⟩) (Kd.R_far (p := ⟨gb773, 4, none⟩) (Kd.R_far (p := ⟨gb773, 3, none⟩) (Kd.R_far (p := ⟨gb773, 2, none⟩) (Kd.R_far (p := ⟨gb773, 1, none⟩) (Kd.R_far (p := ⟨gb773, 0, none⟩) (Kd.R_far (p := ⟨gb772, 6, none⟩) (Kd.R_types (Kd.R_types HO782.out BK772.out (by decide)) BK773.out (by decide)) (fun _ hk => hk.1.2) (.slice Ao22 y786.length co22)) (fun _ hk => hk.2) (.string a0_0)) (fun _ hk => hk.2) (.int .i64 a0_1)) (fun _ hk => hk.2) (.int .i64 a0_2)) (fun _ hk => hk.2) (.string a0_3)) (fun _ hk => hk.2) (.slice Ao10 t774.length co10)) (fun _ hk => hk.2) (.slice Ao16 y780.length co16)) (fun _ hk => hk.2) (.slice Ao22 y786.length co22)) (fun _ hk => trivial), by (with_reducible repeat (first | apply zq10 | apply zq11 | apply zq12)); exact Kd.R_mono (Kd.R_far (p := ⟨gb773, 6, none⟩) (Kd.R_far (p := ⟨gb773, 5, none⟩) (Kd.R_far (p := ⟨gb773, 4, none⟩) (Kd.R_far (p := ⟨gb773, 3, none⟩) (Kd.R_far (p := ⟨gb773, 2, none⟩) (Kd.R_far (p := ⟨gb773, 1, none⟩) (Kd.R_far (p := ⟨gb773, 0, none⟩) (Kd.R_far (p := ⟨gb772, 6, none⟩) (Kd.R_types (Kd.R_types HO788.out BK772.out (by decide)) BK773.out (by decide)) (fun _ hk => hk.1.2) (.slice Ao22 y786.length co22)) (fun _ hk => hk.2) (.string a0_0)) (fun _ hk => hk.2) (.int .i64 a0_1)) (fun _ hk => hk.2) (.int .i64 a0_2)) (fun _ hk => hk.2) (.string a0_3)) (fun _ hk => hk.2) (.slice Ao10 t774.length co10)) (fun _ hk => hk.2) (.slice Ao16 y780.length co16)) (fun _ hk => hk.2) (.slice Ao22 y786.length co22)) (fun _ hk => trivial), by exact b2 HB GE772 GE773⟩
    · rw [if_neg c4] at H
      exact absurd H (by simp)
  · rw [if_neg c3] at H
    exact absurd H (by simp)
def spec_l4Copy.T5 : Bool × List (List Nat × List Nat) := (true, [([], []), ([0], [0]), ([], []), ([2], [2]), ([], []), ([3, 4], [3, 4]), ([5], [5]), ([6], [6]), ([7], [7]), ([1, 8, 7], [1, 8]), ([0, 1, 2, 3, 4, 5, 6, 7, 8, 9], []), ([10, 9, 9, 0, 1, 2, 3, 4, 5, 6, 7, 8, 9], [9, 10])])
def spec_l4Copy.B5 : List Nat := [0, 1, 0, 4, 0, 28, 60, 124, 252, 511, 1023, 2047]
theorem spec_l4Copy.tab5 : rtab .any (opsOf Try.f73 5) = spec_l4Copy.T5 := by kernel_rfl
theorem spec_l4Copy.bits5 : waitsOk spec_l4Copy.T5.2 spec_l4Copy.B5 = true := by kernel_rfl
set_option maxHeartbeats 8000000 in
set_option maxRecDepth 100000 in
theorem spec_l4Copy.calls (k : Nat) (a0_0 : Int) (A0_1 : Option Addr) (c0_1 : Nat) (l0_1 : List (S32)) (r1 : Int) (r2 : List (S32)) (w : World) (hr0_1 : Kd.C k32 w A0_1 l0_1.length l0_1) (hc0_1 : l0_1.length ≤ c0_1) (h : spec_l4Copy.f k a0_0 l0_1 = some (r1, r2)) :
  Calls Try.prog 73 #[.agg #[.int .i64 a0_0, .slice A0_1 l0_1.length c0_1]] w fun e w' => ∃ v1_ : Value, e = .returned (.agg #[.int .i64 r1, v1_]) ∧ Kd.S k32 32 w' w.heap.size (fun _ => True) v1_ r2 ∧ Below w.heap.size w w' := by
 have hu46 := Try.underlying46; have hu32 := Try.underlying32; have HR0_1 := zq9 hr0_1; have HC0_1 := zq9 hc0_1; clear hr0_1 hc0_1
 have HB := zq9 (Below.refl w.heap.size w)
 have H : (spec_l4Copy.l0 k 0 a0_0 l0_1 a0_0 ([] : List (S32))) = some (r1, r2) := h
 clear h; have H' := zq9 H; clear H
 go_enter Try.func73, Try.ntmps73
 go_wp2_with (first | ((with_reducible refine zq25 (N := 1) rfl ?_); refine bx 1 #[.int .i64 a0_0, .slice A0_1 l0_1.length c0_1] 46 ?_; intro gb890 hg w2 hbox hb; have n0_ := zq9 (zq27 (by exact bl HB) hb); have n1_ := zq9 (hbox); have n2_ := zq9 ((by rw [hg]; exact (zq29 (by exact bl HB)) : w.heap.size ≤ gb890)); have n3_ := n2_; clear HB; have HB := n0_; have BK890 := n1_; have GW890 := n2_; have GE890 := n3_; clear n0_ n1_ n2_ n3_; clear hb hbox hg) | ((with_reducible refine zq25 (N := 2) rfl ?_); refine bx 2 #[.int .i64 0, .slice none 0 0] 46 ?_; intro gb891 hg w3 hbox hb; have n0_ := zq9 (zq30 (g := gb890) (o := .cells #[.int .i64 a0_0, .slice A0_1 l0_1.length c0_1] 46 (0, 0)) (by exact bk BK890) hb); have n1_ := zq9 (zq27 (by exact b1 HB GE890) hb); have n2_ := zq9 (hbox); have n3_ := zq9 ((by rw [hg]; exact (zq29 (by exact b1 HB GE890)) : w.heap.size ≤ gb891)); have n4_ := n3_; have n5_ := zq9 ((by rw [hg]; exact Nat.ne_of_lt (blk_lt (g := gb890) (o := .cells #[.int .i64 a0_0, .slice A0_1 l0_1.length c0_1] 46 (0, 0)) (by exact bk BK890)) : gb890 ≠ gb891)); have n6_ := zq9 ((by rw [hg]; exact Nat.ne_of_gt (blk_lt (g := gb890) (o := .cells #[.int .i64 a0_0, .slice A0_1 l0_1.length c0_1] 46 (0, 0)) (by exact bk BK890)) : gb891 ≠ gb890)); clear BK890; clear HB; have BK890 := n0_; have HB := n1_; have BK891 := n2_; have GW891 := n3_; have GE891 := n4_; have NB890_891 := n5_; have NB891_890 := n6_; clear n0_ n1_ n2_ n3_ n4_ n5_ n6_; clear hb hbox hg; have hnb4 := NB890_891.out; have hnc4 := NB891_890.out; have hcz5_0 : w3.cell? ⟨gb890, 0, none⟩ = some (.int .i64 a0_0) := bc BK890 0; have hcz5_1 : w3.cell? ⟨gb890, 1, none⟩ = some (.slice A0_1 l0_1.length c0_1) := bc BK890 1; have hfz5_0 := zq6 BK890.out 0; have hfz5_1 := zq6 BK890.out 1) | ((with_reducible refine zq25 (N := 3) rfl ?_); refine bx 3 #[.int .i64 0, .slice none 0 0] 46 ?_; intro gb892 hg w6 hbox hb; have n0_ := zq9 (zq30 (g := gb890) (o := .cells #[.int .i64 a0_0, .slice A0_1 l0_1.length c0_1] 46 (0, 0)) (by exact bk BK890) hb); have n1_ := zq9 (zq30 (g := gb891) (o := .cells #[.int .i64 0, .slice none 0 0] 46 (0, 0)) (by exact bk BK891) hb); have n2_ := zq9 (zq27 (by exact b2 HB GE890 GE891) hb); have n3_ := zq9 (hbox); have n4_ := zq9 ((by rw [hg]; exact (zq29 (by exact b2 HB GE890 GE891)) : w.heap.size ≤ gb892)); have n5_ := n4_; have n6_ := zq9 ((by rw [hg]; exact Nat.ne_of_lt (blk_lt (g := gb890) (o := .cells #[.int .i64 a0_0, .slice A0_1 l0_1.length c0_1] 46 (0, 0)) (by exact bk BK890)) : gb890 ≠ gb892)); have n7_ := zq9 ((by rw [hg]; exact Nat.ne_of_gt (blk_lt (g := gb890) (o := .cells #[.int .i64 a0_0, .slice A0_1 l0_1.length c0_1] 46 (0, 0)) (by exact bk BK890)) : gb892 ≠ gb890)); have n8_ := zq9 ((by rw [hg]; exact Nat.ne_of_lt (blk_lt (g := gb891) (o := .cells #[.int .i64 0, .slice none 0 0] 46 (0, 0)) (by exact bk BK891)) : gb891 ≠ gb892)); have n9_ := zq9 ((by rw [hg]; exact Nat.ne_of_gt (blk_lt (g := gb891) (o := .cells #[.int .i64 0, .slice none 0 0] 46 (0, 0)) (by exact bk BK891)) : gb892 ≠ gb891)); clear BK890; clear BK891; clear HB; have BK890 := n0_; have BK891 := n1_; have HB := n2_; have BK892 := n3_; have GW892 := n4_; have GE892 := n5_; have NB890_892 := n6_; have NB892_890 := n7_; have NB891_892 := n8_; have NB892_891 := n9_; clear n0_ n1_ n2_ n3_ n4_ n5_ n6_ n7_ n8_ n9_; clear hb hbox hg; have hnb7 := NB892_890.out; have hnc7 := NB890_892.out; have hnb8 := NB892_891.out; have hnc8 := NB891_892.out; have hcz9_0 : w6.cell? ⟨gb892, 0, none⟩ = some (.int .i64 0) := bc BK892 0; have hcz9_1 : w6.cell? ⟨gb892, 1, none⟩ = some (.slice none 0 0) := bc BK892 1; have hfz9_0 := zq6 BK892.out 0; have hfz9_1 := zq6 BK892.out 1))
 go_loopg [4] k (fun kq v4 w' => ∃ (x4_1 : Int) (x893001_1 : List (S32)) (u893001 : Value), v4 = .int .i64 x4_1 ∧ Aside0 (spec_l4Copy.l0 kq x4_1 a0_0 l0_1 a0_0 x893001_1 = some (r1, r2)) ∧ Aside0 (kq ≤ k) ∧ Aside0 (Kd.S k32 32 w' w.heap.size (fun _ => True) u893001 x893001_1) ∧ Aside0 (w'.heap[gb890]? = some (.cells #[.int .i64 a0_0, (.slice A0_1 l0_1.length c0_1)] 46 (0, 0))) ∧ Aside0 (w'.heap[gb891]? = some (.cells #[.int .i64 0, (.slice none 0 0)] 46 (0, 0))) ∧ Aside0 (w'.heap[gb892]? = some (.cells #[.int .i64 a0_0, u893001] 46 (0, 0))) ∧ Aside0 (Below w.heap.size w w'))
 case atStart => exact ⟨(0), (([] : List (S32))), (.slice none 0 0), (by first | rfl | (simp; done) | (simp [*]; done)), H', ⟨Nat.le_refl _⟩, ⟨by first | exact Kd.S_nil _ _ _ _ _ | exact Kd.N_nil _ _ _ _ _ | exact Kd.V_nil _ _ _ _ _ | exact Kd.Q_nil _ _ _ _ _ | exact Kd.R_nil _ _ _ _ _⟩, ⟨by refine bp ?_; refine blk_far ?_ NB890_892.out _; refine bp ?_; refine blk_far ?_ NB890_892.out _; refine bp ?_; exact BK890.out⟩, ⟨by refine bp ?_; refine blk_far ?_ NB891_892.out _; refine bp ?_; refine blk_far ?_ NB891_892.out _; refine bp ?_; exact BK891.out⟩, ⟨(blk_set (blk_set BK892.out 0 _) 1 _)⟩, ⟨by exact b3 HB GE890 GE891 GE892⟩⟩
 case round =>
  clear H'
  try clear p2
  try clear c4
  try clear c7
  try clear c8
  try clear hcz5_0
  try clear hcz5_1
  try clear hcz9_0
  try clear hcz9_1
  try clear hfz5_0
  try clear hfz5_1
  try clear hfz9_0
  try clear hfz9_1
  obtain ⟨x4_1, x893001_1, u893001, rfl, HA, HK1, HO_893001, BK890, BK891, BK892, HB⟩ := hrel
  cases gk with
  | zero => exact absurd HA.out (by simp [spec_l4Copy.l0])
  | succ k1 =>
   have H := HA.out; clear HA
   simp only [spec_l4Copy.l0] at H
   by_cases c10 : x4_1 < (l0_1.length : Int)
   ·rw [if_pos c10] at H; have c10b0 : decide (x4_1 < (l0_1.length : Int)) = true := decide_eq_true c10; clear c10
    by_cases c11 : 0 ≤ x4_1
    ·rw [if_pos c11] at H; have c11b0 : decide (0 ≤ x4_1) = true := decide_eq_true c11; clear c11; replace H := Option.bind_eq_some_iff.mp H
     obtain ⟨⟨t894, t895, t896, t897, t898, t901, t904⟩, A120, H⟩ := H
     try dsimp only at H
     have A12 := zq9 A120; clear A120
     by_cases c13 : x893001_1.length < 1172812402961
     ·rw [if_pos c13] at H; have LMc13 := zq9 c13; clear c13
      obtain ⟨y907, hy907⟩ : ∃ y_ : List (S32), y_ = (x893001_1 ++ [(⟨t894, t895, t896, t897, t898, t901, t904⟩ : S32)]) := ⟨_, rfl⟩
      replace H : (spec_l4Copy.l0 k1 (wrap64 (x4_1 + 1)) a0_0 l0_1 a0_0 y907) = some (r1, r2) := by first | (rw [hy907]; with_reducible exact H) | (have H2_ := (Option.bind_some _ _).symm.trans H; rw [hy907]; with_reducible exact H2_) | (have H2_ := (Option.bind_some _ _).symm.trans H; with_reducible exact H2_) | with_reducible exact H | (rw [hy907]; exact H) | exact H
      have Ny907 := zq9 hy907; clear hy907; have H' := zq9 H; clear H; have hnb14 := NB890_891.out; have hnc14 := NB891_890.out; have hnb15 := NB890_892.out; have hnc15 := NB892_890.out
      have hcz16_0 : wr.cell? ⟨gb890, 0, none⟩ = some (.int .i64 a0_0) := bc BK890 0
      have hcz16_1 : wr.cell? ⟨gb890, 1, none⟩ = some (.slice A0_1 l0_1.length c0_1) := bc BK890 1
      have hfz16_0 := zq6 BK890.out 0
      have hfz16_1 := zq6 BK890.out 1
      try go_wp2
      have n0_ := zq9 (Kd.S_drew HO_893001.out)
      have n1_ := zq9 (blk_drew BK890.out)
      have n2_ := zq9 (blk_drew BK891.out)
      have n3_ := zq9 (blk_drew BK892.out)
      have n4_ := zq9 (zq4 HB.out)
      clear HO_893001; clear BK890; clear BK891; clear BK892; clear HB; have HO_893001 := n0_; have BK890 := n1_; have BK891 := n2_; have BK892 := n3_; have HB := n4_; clear n0_ n1_ n2_ n3_ n4_
      have p893 : 0 ≤ (x4_1 : Int) := of_decide_eq_true ‹_›
      have q893 : x4_1 < (l0_1.length : Int) := of_decide_eq_true ‹_›
      obtain ⟨ad893, A893_4, c893_4, A893_5, c893_5, A893_6, c893_6, e893, hx893_0, hx893_1, hx893_2, hx893_3, hx893_4, hx893_5, hx893_6, hl893_4, hi893_4, hl893_5, hi893_5, hl893_6, hi893_6⟩ := at_T32 HR0_1.out x4_1 p893 q893
      have hw893_6 := hx893_6; have hw893_5 := hx893_5; have hw893_4 := hx893_4; have hw893_3 := hx893_3; have hw893_2 := hx893_2; have hw893_1 := hx893_1; have hw893_0 := hx893_0; cases e893; replace hx893_0 := hcl HB hx893_0; replace hx893_1 := hcl HB hx893_1; replace hx893_2 := hcl HB hx893_2; replace hx893_3 := hcl HB hx893_3; replace hx893_4 := hcl HB hx893_4; replace hx893_5 := hcl HB hx893_5
      replace hx893_6 := hcl HB hx893_6; have HR893_4 := zq9 hi893_4; have HC893_4 := zq9 hl893_4; clear hi893_4 hl893_4; have HR893_5 := zq9 hi893_5; have HC893_5 := zq9 hl893_5; clear hi893_5 hl893_5; have HR893_6 := zq9 hi893_6; have HC893_6 := zq9 hl893_6; clear hi893_6 hl893_6; replace p893 := eq_true p893; replace q893 := eq_true q893
      refine start_ (n := 12) (S := fun w' => w'.cell? ⟨gb892, 0, none⟩ = some (.int .i64 a0_0) ∧ w'.cell? ⟨gb892, 1, none⟩ = some (u893001) ∧ w'.cell? ⟨gb890, 0, none⟩ = some (.int .i64 a0_0) ∧ w'.cell? ⟨gb890, 1, none⟩ = some (.slice (some ad893) l0_1.length c0_1) ∧ w'.cell? (ad893.add ((x4_1).toNat * 7)) = some (.string ((rd_T32 l0_1 x4_1).f0)) ∧ w'.cell? ⟨(ad893.add ((x4_1).toNat * 7)).block, (ad893.add ((x4_1).toNat * 7)).off + 1, none⟩ = some (.int .i64 ((rd_T32 l0_1 x4_1).f1)) ∧ w'.cell? ⟨(ad893.add ((x4_1).toNat * 7)).block, (ad893.add ((x4_1).toNat * 7)).off + 2, none⟩ = some (.int .i64 ((rd_T32 l0_1 x4_1).f2)) ∧ w'.cell? ⟨(ad893.add ((x4_1).toNat * 7)).block, (ad893.add ((x4_1).toNat * 7)).off + 3, none⟩ = some (.string ((rd_T32 l0_1 x4_1).f3)) ∧ w'.cell? ⟨(ad893.add ((x4_1).toNat * 7)).block, (ad893.add ((x4_1).toNat * 7)).off + 4, none⟩ = some (.slice A893_4 ((rd_T32 l0_1 x4_1).f4).length c893_4) ∧ w'.cell? ⟨(ad893.add ((x4_1).toNat * 7)).block, (ad893.add ((x4_1).toNat * 7)).off + 5, none⟩ = some (.slice A893_5 ((rd_T32 l0_1 x4_1).f5).length c893_5) ∧ w'.cell? ⟨(ad893.add ((x4_1).toNat * 7)).block, (ad893.add ((x4_1).toNat * 7)).off + 6, none⟩ = some (.slice A893_6 ((rd_T32 l0_1 x4_1).f6).length c893_6)) (ds := [11]) #[false, false, false, false, false, false, false, false, false, false, false, false] (by kernel_rfl) rfl rfl ⟨bc BK892 0, bc BK892 1, bc BK890 0, bc BK890 1, (hcm HB hw893_0), (hcm HB hw893_1), (hcm HB hw893_2), (hcm HB hw893_3), (hcm HB hw893_4), (hcm HB hw893_5), (hcm HB hw893_6)⟩ (fun hHeld => ?_); refine with_tabW spec_l4Copy.tab5 spec_l4Copy.bits5 (fun HT_ HW_ => ?_)
      generalize wr.drew = w17 at HO_893001 BK890 BK891 BK892 HB HR893_4 HR893_5 HR893_6 hx893_0 hx893_1 hx893_2 hx893_3 hx893_4 hx893_5 hx893_6 hHeld ⊢
      refine pa HT_ 0 15 (zb 12 1) ?_; refine pa HT_ 2 17 (zb 12 5) ?_; refine pa HT_ 4 19 (zb 12 21) ?_
      refine take_ (i := 1) (N := some 16) (v := ?_) (a' := ?_) (zb 12 23) rfl rfl (take_ofW HT_.out HW_.out (by kernel_rfl)) (fun _ _ _ h => h) (Or.inl ⟨by rfl, ?_⟩) hHeld ?_ ?_
      rotate_left; ·rintro w' ⟨s0, s1, s2, s3, s4, s5, s6, s7, s8, s9, s10⟩; go_simp; with_reducible rfl
      rotate_left; ·simp only [Act.put, zq0, zq1, zq2, i64_w, i32_w]; rfl
      refine take_ (i := 3) (N := some 18) (v := ?_) (a' := ?_) (zb 12 31) rfl rfl (take_ofW HT_.out HW_.out (by kernel_rfl)) (fun _ _ _ h => h) (Or.inl ⟨by rfl, ?_⟩) hHeld ?_ ?_
      rotate_left; ·rintro w' ⟨s0, s1, s2, s3, s4, s5, s6, s7, s8, s9, s10⟩; go_simp; with_reducible rfl
      rotate_left; ·simp only [Act.put, zq0, zq1, zq2, i64_w, i32_w]; rfl
      refine pa HT_ 5 20 (zb 12 63) ?_
      refine take_ (i := 6) (N := some 21) (v := ?_) (a' := ?_) (zb 12 127) rfl rfl (take_ofW HT_.out HW_.out (by kernel_rfl)) (fun _ _ _ h => h) (Or.inl ⟨by rfl, ?_⟩) hHeld ?_ ?_
      rotate_left; ·rintro w' ⟨s0, s1, s2, s3, s4, s5, s6, s7, s8, s9, s10⟩; go_simp; with_reducible rfl
      rotate_left; ·simp only [Act.put, zq0, zq1, zq2, i64_w, i32_w]; rfl
      refine one_ (i := 7) (N := some 22) (zb 12 255) rfl rfl (one_of HT_.out (by kernel_rfl)) (by decide) (fun K hK => ?_)
      refine gs Try.func98 #[.agg #[.string ((rd_T32 l0_1 x4_1).f0), .int .i64 ((rd_T32 l0_1 x4_1).f1), .int .i64 ((rd_T32 l0_1 x4_1).f2), .string ((rd_T32 l0_1 x4_1).f3), .slice A893_4 ((rd_T32 l0_1 x4_1).f4).length c893_4, .slice A893_5 ((rd_T32 l0_1 x4_1).f5).length c893_5, .slice A893_6 ((rd_T32 l0_1 x4_1).f6).length c893_6]] ?_
      with_reducible refine (spec_l4Entry.calls ((rd_T32 l0_1 x4_1).f0) ((rd_T32 l0_1 x4_1).f1) ((rd_T32 l0_1 x4_1).f2) ((rd_T32 l0_1 x4_1).f3) _ _ ((rd_T32 l0_1 x4_1).f4) _ _ ((rd_T32 l0_1 x4_1).f5) _ _ ((rd_T32 l0_1 x4_1).f6) t894 t895 t896 t897 t898 t901 t904 _ ?side1 ?side2 ?side3 ?side4 ?side5 ?side6 A12.out).mono ?_
      (case side1 => exact kc HR893_4 HB)
      (case side2 => exact HC893_4.out)
      (case side3 => exact kc HR893_5 HB)
      (case side4 => exact HC893_5.out)
      (case side5 => exact kc HR893_6 HB)
      (case side6 => exact HC893_6.out)
      rintro e w18 ⟨v899, v902, v905, rfl, ho0, ho1, ho2, hb⟩
      refine ⟨_, rfl, ?_⟩
      have n0_ := zq9 (Kd.S_mono (Kd.S_told (Kd.S_told (Kd.S_told (Kd.S_old (by (with_reducible repeat (first | apply Kd.S_alloc | apply Kd.S_drewN | apply Kd.S_drew)); exact HO_893001.out) hb) (Kd.R_base ho0)) (Kd.R_base ho1)) (Kd.R_base ho2)) (fun _ h_ => h_.1))
      have n1_ := zq9 (Kd.R_lower ho0 (zq29 (by exact b3 HB GE890 GE891 GE892)))
      have n2_ := zq9 (Kd.R_lower ho1 (zq29 (by exact b3 HB GE890 GE891 GE892)))
      have n3_ := zq9 (Kd.R_lower ho2 (zq29 (by exact b3 HB GE890 GE891 GE892)))
      have n4_ := zq9 (zq30 (g := gb890) (o := .cells #[.int .i64 a0_0, .slice (some ad893) l0_1.length c0_1] 46 (0, 0)) (by exact bk BK890) hb)
      have n5_ := zq9 (zq30 (g := gb891) (o := .cells #[.int .i64 0, .slice none 0 0] 46 (0, 0)) (by exact bk BK891) hb)
      have n6_ := zq9 (zq30 (g := gb892) (o := .cells #[.int .i64 a0_0, u893001] 46 (0, 0)) (by exact bk BK892) hb)
      have n7_ := zq9 (zq27 (by exact b3 HB GE890 GE891 GE892) hb)
      clear HO_893001; clear BK890; clear BK891; clear BK892; clear HB; have HO_893001 := n0_; have HO900 := n1_; have HO903 := n2_; have HO906 := n3_; have BK890 := n4_; have BK891 := n5_; have BK892 := n6_; have HB := n7_; clear n0_ n1_ n2_ n3_ n4_ n5_ n6_ n7_
      (try clear hb)
      (try clear hb2)
      (try clear hk)
      (try clear hi)
      (try clear ho0)
      (try clear ho1)
      (try clear ho2)
      obtain ⟨Ao20, co20, eo20⟩ := Kd.R_slice HO900.out
      (first | subst eo20 | (injection eo20 with f1_ f2_ f3_; have f4_ := f1_.symm; have f5_ := f3_.symm; clear f1_ f2_ f3_; subst f4_; subst f5_))
      obtain ⟨Ao21, co21, eo21⟩ := Kd.R_slice HO903.out
      (first | subst eo21 | (injection eo21 with f1_ f2_ f3_; have f4_ := f1_.symm; have f5_ := f3_.symm; clear f1_ f2_ f3_; subst f4_; subst f5_))
      obtain ⟨Ao22, co22, eo22⟩ := Kd.R_slice HO906.out
      (first | subst eo22 | (injection eo22 with f1_ f2_ f3_; have f4_ := f1_.symm; have f5_ := f3_.symm; clear f1_ f2_ f3_; subst f4_; subst f5_))
      refine hK.out _ _ ⟨bc BK892 0, bc BK892 1, bc BK890 0, bc BK890 1, (hcm HB hw893_0), (hcm HB hw893_1), (hcm HB hw893_2), (hcm HB hw893_3), (hcm HB hw893_4), (hcm HB hw893_5), (hcm HB hw893_6)⟩ (fun hHeld => ?_)
      clear hK K
      refine norm_ (a' := ?_) ?_ ?_
      rotate_left; ·show Act.put _ (some 22) _ = _; simp only [Act.put, zq0, zq1, zq2, i64_w, i32_w]; rfl
      refine one_ (i := 8) (N := some 23) (zb 12 511) rfl rfl (one_of HT_.out (by kernel_rfl)) (by decide) (fun K hK => ?_)
      refine value_ (w1 := ?_) (v := ?_) (by rfl) rfl ?_ ?_
      rotate_left 2
      ·go_simp
       constructor
       ·rfl
       ·rfl
      refine hK.out _ _ ⟨(zq7 (blk_alloc BK892.out _) 0).trans rfl, (zq7 (blk_alloc BK892.out _) 1).trans rfl, (zq7 (blk_alloc BK890.out _) 0).trans rfl, (zq7 (blk_alloc BK890.out _) 1).trans rfl, (World.cell?_alloc_lt _ _ _ (zq8 _ _ ((hcm HB hw893_0)))).trans ((hcm HB hw893_0)), (World.cell?_alloc_lt _ _ _ (zq8 _ _ ((hcm HB hw893_1)))).trans ((hcm HB hw893_1)), (World.cell?_alloc_lt _ _ _ (zq8 _ _ ((hcm HB hw893_2)))).trans ((hcm HB hw893_2)), (World.cell?_alloc_lt _ _ _ (zq8 _ _ ((hcm HB hw893_3)))).trans ((hcm HB hw893_3)), (World.cell?_alloc_lt _ _ _ (zq8 _ _ ((hcm HB hw893_4)))).trans ((hcm HB hw893_4)), (World.cell?_alloc_lt _ _ _ (zq8 _ _ ((hcm HB hw893_5)))).trans ((hcm HB hw893_5)), (World.cell?_alloc_lt _ _ _ (zq8 _ _ ((hcm HB hw893_6)))).trans ((hcm HB hw893_6))⟩ (fun hHeld => ?_)
      clear hK K
      refine norm_ (a' := ?_) ?_ ?_
      rotate_left; ·show Act.put _ (some 23) _ = _; simp only [Act.put, zq0, zq1, zq2, i64_w, i32_w]; rfl
      refine one_ (i := 9) (N := some 24) (zb 12 1023) rfl rfl (one_of HT_.out (by kernel_rfl)) (by decide) (fun K hK => ?_)
      refine Kd.S_append_step k32 (w0 := w) w.heap.size (by rfl) (.tmp 16) (.tmp 23) 44 32 (.agg #[(.string ⟨#[]⟩), (.int .i64 0), (.int .i64 0), (.string ⟨#[]⟩), (.slice none 0 0), (.slice none 0 0), (.slice none 0 0)]) 120 rfl Try.underlying44 info32 rfl (by decide) (by omega) u893001 x893001_1 (⟨t894, t895, t896, t897, t898, t901, t904⟩ : S32) [.string t894, .int .i64 t895, .int .i64 t896, .string t897, .slice Ao20 t898.length co20, .slice Ao21 t901.length co21, .slice Ao22 t904.length co22] (fun _ => True) (fun k_ => some k_ = (.slice Ao20 t898.length co20 : Value).ownBlock ∨ some k_ = (.slice Ao21 t901.length co21 : Value).ownBlock ∨ some k_ = (.slice Ao22 t904.length co22 : Value).ownBlock) rfl rfl ?aP (fun k_ hk_ => hk_.elim (fun h_ => ((Kd.R_mono (ok' := fun k_ => ((fun _ => True)) k_ ∧ some k_ ≠ (u893001 : Value).ownBlock) (Kd.R_apart' (HO900.out) (Kd.S_typed HO_893001.out) (by decide)) (fun k_ hk => ⟨trivial, hk.2⟩))).1 k_ h_.symm) (fun h_ => h_.elim (fun h_ => ((Kd.R_mono (ok' := fun k_ => ((fun _ => True)) k_ ∧ some k_ ≠ (u893001 : Value).ownBlock) (Kd.R_apart' (HO903.out) (Kd.S_typed HO_893001.out) (by decide)) (fun k_ hk => ⟨trivial, hk.2⟩))).1 k_ h_.symm) (fun h_ => ((Kd.R_mono (ok' := fun k_ => ((fun _ => True)) k_ ∧ some k_ ≠ (u893001 : Value).ownBlock) (Kd.R_apart' (HO906.out) (Kd.S_typed HO_893001.out) (by decide)) (fun k_ hk => ⟨trivial, hk.2⟩))).1 k_ h_.symm))) ?aF ?aO ?aB ?aS ?aL ?_
      (case aP => exact k32_mkM _ _ _ (⟨t894, t895, t896, t897, t898, t901, t904⟩ : S32) (Kd.R_mono (Kd.R_tight rfl (Kd.R_mono (ok' := fun k_ => ((fun _ => True)) k_ ∧ some k_ ≠ (u893001 : Value).ownBlock) (Kd.R_apart' (HO900.out) (Kd.S_typed HO_893001.out) (by decide)) (fun k_ hk => ⟨trivial, hk.2⟩))) (fun _ h_ => Or.inl h_)) (Kd.R_mono (Kd.R_tight rfl (Kd.R_mono (ok' := fun k_ => ((fun _ => True)) k_ ∧ some k_ ≠ (u893001 : Value).ownBlock) (Kd.R_apart' (HO903.out) (Kd.S_typed HO_893001.out) (by decide)) (fun k_ hk => ⟨trivial, hk.2⟩))) (fun _ h_ => Or.inr (Or.inl h_))) (Kd.R_mono (Kd.R_tight rfl (Kd.R_mono (ok' := fun k_ => ((fun _ => True)) k_ ∧ some k_ ≠ (u893001 : Value).ownBlock) (Kd.R_apart' (HO906.out) (Kd.S_typed HO_893001.out) (by decide)) (fun k_ hk => ⟨trivial, hk.2⟩))) (fun _ h_ => Or.inr (Or.inr (h_)))))
      (case aB => exact (by exact b3 HB GE890 GE891 GE892))
      (case aF => exact (fun _ _ => trivial))
      (case aO => exact (by (with_reducible repeat (first | apply Kd.S_alloc | apply Kd.S_drewN | apply Kd.S_drew)); exact Kd.S_mono HO_893001.out (fun k_ hk => ⟨trivial, fun e_ => e_.elim (fun h_ => hk.1.1.2 h_) (fun h_ => h_.elim (fun h_ => hk.1.2 h_) (fun h_ => hk.2 h_))⟩)))
      (case aS => exact (zq29 (by exact b3 HB GE890 GE891 GE892)))
      (case aL => have := LMc13.out; omega)
      intro v908 w19 ho hb hg hat
      rw [← Ny907.out] at ho
      have n0_ := zq9 (blk_grown (g := gb890) (o := .cells #[.int .i64 a0_0, .slice (some ad893) l0_1.length c0_1] 46 (0, 0)) (by exact bk BK890) hg (Kd.S_ne HO_893001.out BK890.out (by decide)))
      have n1_ := zq9 (blk_grown (g := gb891) (o := .cells #[.int .i64 0, .slice none 0 0] 46 (0, 0)) (by exact bk BK891) hg (Kd.S_ne HO_893001.out BK891.out (by decide)))
      have n2_ := zq9 (blk_grown (g := gb892) (o := .cells #[.int .i64 a0_0, u893001] 46 (0, 0)) (by exact bk BK892) hg (Kd.S_ne HO_893001.out BK892.out (by decide)))
      have n3_ := zq9 (hb)
      have n4_ := zq9 (ho)
      clear BK890; clear BK891; clear BK892; clear HB; clear HO_893001; clear HO900; clear HO903; clear HO906; have BK890 := n0_; have BK891 := n1_; have BK892 := n2_; have HB := n3_; have HO909 := n4_; clear n0_ n1_ n2_ n3_ n4_; clear ho hb hg hat
      obtain ⟨Ao23, co23, eo23⟩ := Kd.S_slice HO909.out
      (first | subst eo23 | (injection eo23 with f1_ f2_ f3_; have f4_ := f1_.symm; have f5_ := f3_.symm; clear f1_ f2_ f3_; subst f4_; subst f5_))
      refine hK.out _ _ ⟨bc BK892 0, bc BK892 1, bc BK890 0, bc BK890 1, (hcm HB hw893_0), (hcm HB hw893_1), (hcm HB hw893_2), (hcm HB hw893_3), (hcm HB hw893_4), (hcm HB hw893_5), (hcm HB hw893_6)⟩ (fun hHeld => ?_)
      clear hK K
      refine norm_ (a' := ?_) ?_ ?_
      rotate_left; ·show Act.put _ (some 24) _ = _; simp only [Act.put, zq0, zq1, zq2, i64_w, i32_w]; rfl
      refine pa HT_ 10 25 (zb 12 2047) ?_
      refine last_ (i := 11) (N := none) #[true, true, true, true, true, true, true, true, true, true, true, true] rfl rfl (one_of HT_.out (by kernel_rfl)) (by decide) (fun K hK => ?_)
      have hs24 : w19.cell? ⟨gb892, 1, none⟩ = some (u893001) := bc BK892 1
      have hfs24 := zq6 BK892.out 1
      have hns24_0 := NB890_892.out; have hns24_1 := NB891_892.out; have hms24_0 := NB892_890.out; have hms24_1 := NB892_891.out
      refine skip_ (w1 := ?_) (by rfl) rfl ?_ ?_
      rotate_left; ·go_simp; rfl
      refine hK.out _ _ ?_
      clear hK K
      refine done_ (done_of HT_.out (by kernel_rfl)) ?_
      try go_wp2
      go_roundg k1
      case measure => have := HK1.out; omega
      case rel => exact ⟨(wrap64 (x4_1 + 1)), (y907), (.slice Ao23 y907.length co23), (by first | rfl | (simp; done) | (simp [*]; done)), H', ⟨by have := HK1.out; omega⟩, ⟨by (with_reducible repeat (first | apply Kd.S_alloc | apply Kd.S_drewN | apply Kd.S_drew)); exact Kd.S_mono (Kd.S_far (p := ⟨gb892, 1, none⟩) (Kd.S_types HO909.out BK892.out (by decide)) (fun _ hk => hk.2) (.slice Ao23 y907.length co23)) (fun _ hk => trivial)⟩, ⟨by refine bp ?_; refine blk_far ?_ NB890_892.out _; refine bp ?_; exact BK890.out⟩, ⟨by refine bp ?_; refine blk_far ?_ NB891_892.out _; refine bp ?_; exact BK891.out⟩, ⟨(blk_set BK892.out 1 _)⟩, ⟨by exact b3 HB GE890 GE891 GE892⟩⟩
     ·rw [if_neg c13] at H
      exact absurd H (by simp)
    ·rw [if_neg c11] at H
     exact absurd H (by simp)
   ·rw [if_neg c10] at H; have c10b0 : decide (x4_1 < (l0_1.length : Int)) = false := decide_eq_false c10; clear c10
    simp only [Option.some.injEq, Prod.mk.injEq] at H
    obtain ⟨rfl, rfl⟩ := H
    have hnb25 := NB890_891.out; have hnc25 := NB891_890.out; have hnb26 := NB890_892.out; have hnc26 := NB892_890.out
    have hcz27_0 : wr.cell? ⟨gb890, 0, none⟩ = some (.int .i64 a0_0) := bc BK890 0
    have hcz27_1 : wr.cell? ⟨gb890, 1, none⟩ = some (.slice A0_1 l0_1.length c0_1) := bc BK890 1
    have hfz27_0 := zq6 BK890.out 0
    have hfz27_1 := zq6 BK890.out 1
    have hnb28 := NB892_891.out; have hnc28 := NB891_892.out
    have hcz29_0 : wr.cell? ⟨gb892, 0, none⟩ = some (.int .i64 a0_0) := bc BK892 0
    have hcz29_1 : wr.cell? ⟨gb892, 1, none⟩ = some (u893001) := bc BK892 1
    have hfz29_0 := zq6 BK892.out 0
    have hfz29_1 := zq6 BK892.out 1
    have hcz30_0 : wr.cell? ⟨gb891, 0, none⟩ = some (.int .i64 0) := bc BK891 0
    have hcz30_1 : wr.cell? ⟨gb891, 1, none⟩ = some (.slice none 0 0) := bc BK891 1
    have hfz30_0 := zq6 BK891.out 0
    have hfz30_1 := zq6 BK891.out 1
    obtain ⟨Ao31, co31, eo31⟩ := Kd.S_slice HO_893001.out
    subst eo31
    go_wp2
    refine bodyPost_ret (results_cell_row rfl _ _ gb891 46 #[.int .i64 a0_0, .slice Ao31 x893001_1.length co31] (0, 0) _ rfl (by refine bp ?_; refine blk_put (cs := #[.int .i64 a0_0, .slice none 0 0]) ?_ 1 _ rfl; refine bp ?_; refine blk_put (cs := #[.int .i64 0, .slice none 0 0]) ?_ 0 _ rfl; refine bp ?_; exact BK891.out) Try.underlying46 rfl (by kernel_rfl)) rfl ?_
    exact ⟨_, by first | rfl | (simp [errW_none, errW_some] <;> rfl) | (simp [*, errW_none, errW_some] <;> rfl), by (with_reducible repeat (first | apply Kd.S_alloc | apply Kd.S_drewN | apply Kd.S_drew)); exact Kd.S_mono (Kd.S_far (p := ⟨gb891, 1, none⟩) (Kd.S_far (p := ⟨gb891, 0, none⟩) (Kd.S_types HO_893001.out BK891.out (by decide)) (fun _ hk => hk.2) (.int .i64 a0_0)) (fun _ hk => hk.2) (.slice Ao31 x893001_1.length co31)) (fun _ hk => trivial), by exact b3 HB GE890 GE891 GE892⟩
def spec_l4Drop.T4 : Bool × List (List Nat × List Nat) := (true, [([], []), ([], []), ([1], [1]), ([], []), ([2, 3], [2, 3]), ([0, 4], [0, 4]), ([], []), ([6], [6]), ([], []), ([8], [8]), ([7, 9], [7, 9]), ([5, 10, 5], [5, 10]), ([0, 1, 2, 3, 4, 5, 6, 7, 8, 9, 10, 11], []), ([12, 11, 11, 0, 1, 2, 3, 4, 5, 6, 7, 8, 9, 10, 11], [11, 12])])
def spec_l4Drop.B4 : List Nat := [0, 0, 2, 0, 14, 31, 0, 64, 0, 256, 960, 2047, 4095, 8191]
theorem spec_l4Drop.tab4 : rtab .any (opsOf Try.f77 4) = spec_l4Drop.T4 := by kernel_rfl
theorem spec_l4Drop.bits4 : waitsOk spec_l4Drop.T4.2 spec_l4Drop.B4 = true := by kernel_rfl
set_option maxHeartbeats 8000000 in
set_option maxRecDepth 100000 in
theorem spec_l4Drop.calls (k : Nat) (a0_0 : Int) (A0_1 : Option Addr) (c0_1 : Nat) (l0_1 : List (S32)) (a1 : ByteArray) (r1 : Int) (r2 : List (S32)) (w : World) (hr0_1 : Kd.C k32 w A0_1 l0_1.length l0_1) (hc0_1 : l0_1.length ≤ c0_1) (h : spec_l4Drop.f k a0_0 l0_1 a1 = some (r1, r2)) :
  Calls Try.prog 77 #[.agg #[.int .i64 a0_0, .slice A0_1 l0_1.length c0_1], .string a1] w fun e w' => ∃ v1_ : Value, e = .returned (.agg #[.int .i64 r1, v1_]) ∧ Kd.N k32 32 w' w.heap.size (fun k_ => (w.heap.size ≤ k_)) v1_ r2 ∧ Below w.heap.size w w' := by
 have hu46 := Try.underlying46; have HR0_1 := zq9 hr0_1; have HC0_1 := zq9 hc0_1; clear hr0_1 hc0_1
 have HB := zq9 (Below.refl w.heap.size w)
 have H : ((spec_l4Copy.f k a0_0 l0_1).bind fun bt1034 => ((spec_l4At.f k a0_0 l0_1 a1).bind fun bt1039 => (if bt1039.2 = true then ((some (([] : List (S32)) : List (S32))).bind fun y1041 => (if 0 ≤ bt1039.1 then (if bt1039.1 ≤ (bt1034.2.length : Int) then ((some (bt1034.2.take (bt1039.1 : Int).toNat : List (S32))).bind fun y1044 => (if y1041.length + y1044.length < 1172812402961 then ((some (y1041 ++ y1044 : List (S32))).bind fun y1049 => (if 0 ≤ (wrap64 (bt1039.1 + 1)) then (if (wrap64 (bt1039.1 + 1)) ≤ (bt1034.2.length : Int) then ((some (bt1034.2.drop ((wrap64 (bt1039.1 + 1)) : Int).toNat : List (S32))).bind fun y1052 => (if y1049.length + y1052.length < 1172812402961 then (some (bt1034.1, (y1049 ++ y1052))) else (none))) else (none)) else (none))) else (none))) else (none)) else (none))) else (some (bt1034.1, bt1034.2))))) = some (r1, r2) := h
 clear h; replace H := Option.bind_eq_some_iff.mp H
 obtain ⟨⟨t1034, t1035⟩, A30, H⟩ := H
 try dsimp only at H
 have A3 := zq9 A30; clear A30; replace H := Option.bind_eq_some_iff.mp H
 obtain ⟨⟨t1039, t1040⟩, A40, H⟩ := H
 try dsimp only at H
 have A4 := zq9 A40; clear A40
 by_cases c5 : t1040 = true
 ·subst c5
  have H1 : ((some (([] : List (S32)) : List (S32))).bind fun y1041 => (if 0 ≤ t1039 then (if t1039 ≤ (t1035.length : Int) then ((some (t1035.take (t1039 : Int).toNat : List (S32))).bind fun y1044 => (if y1041.length + y1044.length < 1172812402961 then ((some (y1041 ++ y1044 : List (S32))).bind fun y1049 => (if 0 ≤ (wrap64 (t1039 + 1)) then (if (wrap64 (t1039 + 1)) ≤ (t1035.length : Int) then ((some (t1035.drop ((wrap64 (t1039 + 1)) : Int).toNat : List (S32))).bind fun y1052 => (if y1049.length + y1052.length < 1172812402961 then (some (t1034, (y1049 ++ y1052))) else (none))) else (none)) else (none))) else (none))) else (none)) else (none))) = some (r1, r2) := by rw [if_pos rfl] at H; exact H
  clear H; have H := H1; clear H1
  obtain ⟨y1041, hy1041⟩ : ∃ y_ : List (S32), y_ = (([] : List (S32))) := ⟨_, rfl⟩
  replace H : (if 0 ≤ t1039 then (if t1039 ≤ (t1035.length : Int) then ((some (t1035.take (t1039 : Int).toNat : List (S32))).bind fun y1044 => (if y1041.length + y1044.length < 1172812402961 then ((some (y1041 ++ y1044 : List (S32))).bind fun y1049 => (if 0 ≤ (wrap64 (t1039 + 1)) then (if (wrap64 (t1039 + 1)) ≤ (t1035.length : Int) then ((some (t1035.drop ((wrap64 (t1039 + 1)) : Int).toNat : List (S32))).bind fun y1052 => (if y1049.length + y1052.length < 1172812402961 then (some (t1034, (y1049 ++ y1052))) else (none))) else (none)) else (none))) else (none))) else (none)) else (none)) = some (r1, r2) := by first | (rw [hy1041]; with_reducible exact H) | (have H2_ := (Option.bind_some _ _).symm.trans H; rw [hy1041]; with_reducible exact H2_) | (have H2_ := (Option.bind_some _ _).symm.trans H; with_reducible exact H2_) | with_reducible exact H | (rw [hy1041]; exact H) | exact H
  have Ny1041 := zq9 hy1041; clear hy1041
  by_cases c6 : 0 ≤ t1039
  ·rw [if_pos c6] at H
   have c6b0 := eq_true c6
   have c6b1 : decide (0 ≤ t1039) = true := decide_eq_true c6; clear c6
   by_cases c7 : t1039 ≤ (t1035.length : Int)
   ·rw [if_pos c7] at H
    have c7b0 := eq_true c7
    have c7b1 : decide (t1039 ≤ (t1035.length : Int)) = true := decide_eq_true c7; clear c7
    obtain ⟨y1044, hy1044⟩ : ∃ y_ : List (S32), y_ = (t1035.take (t1039 : Int).toNat) := ⟨_, rfl⟩
    replace H : (if y1041.length + y1044.length < 1172812402961 then ((some (y1041 ++ y1044 : List (S32))).bind fun y1049 => (if 0 ≤ (wrap64 (t1039 + 1)) then (if (wrap64 (t1039 + 1)) ≤ (t1035.length : Int) then ((some (t1035.drop ((wrap64 (t1039 + 1)) : Int).toNat : List (S32))).bind fun y1052 => (if y1049.length + y1052.length < 1172812402961 then (some (t1034, (y1049 ++ y1052))) else (none))) else (none)) else (none))) else (none)) = some (r1, r2) := by first | (rw [hy1044]; with_reducible exact H) | (have H2_ := (Option.bind_some _ _).symm.trans H; rw [hy1044]; with_reducible exact H2_) | (have H2_ := (Option.bind_some _ _).symm.trans H; with_reducible exact H2_) | with_reducible exact H | (rw [hy1044]; exact H) | exact H
    have Ny1044 := zq9 hy1044; clear hy1044
    by_cases c8 : y1041.length + y1044.length < 1172812402961
    ·rw [if_pos c8] at H; have LMc8 := zq9 c8; clear c8
     obtain ⟨y1049, hy1049⟩ : ∃ y_ : List (S32), y_ = (y1041 ++ y1044) := ⟨_, rfl⟩
     replace H : (if 0 ≤ (wrap64 (t1039 + 1)) then (if (wrap64 (t1039 + 1)) ≤ (t1035.length : Int) then ((some (t1035.drop ((wrap64 (t1039 + 1)) : Int).toNat : List (S32))).bind fun y1052 => (if y1049.length + y1052.length < 1172812402961 then (some (t1034, (y1049 ++ y1052))) else (none))) else (none)) else (none)) = some (r1, r2) := by first | (rw [hy1049]; with_reducible exact H) | (have H2_ := (Option.bind_some _ _).symm.trans H; rw [hy1049]; with_reducible exact H2_) | (have H2_ := (Option.bind_some _ _).symm.trans H; with_reducible exact H2_) | with_reducible exact H | (rw [hy1049]; exact H) | exact H
     have Ny1049 := zq9 hy1049; clear hy1049
     obtain ⟨ji9, hji9⟩ : ∃ j_ : Int, (wrap64 (t1039 + 1)) = j_ := ⟨_, rfl⟩
     replace H : (if 0 ≤ (ji9) then (if (ji9) ≤ (t1035.length : Int) then ((some (t1035.drop ((ji9) : Int).toNat : List (S32))).bind fun y1052 => (if y1049.length + y1052.length < 1172812402961 then (some (t1034, (y1049 ++ y1052))) else (none))) else (none)) else (none)) = some (r1, r2) := by first | (rw [hji9] at H; exact H) | (simp only [hji9] at H ⊢; exact H)
     (try rw [hji9] at A3)
     (try rw [hji9] at A4)
     have hji9w : (IntKind.i64.wrap (t1039 + 1)) = ji9 := (i64_w _).trans hji9
     by_cases c10 : 0 ≤ (ji9)
     ·rw [if_pos c10] at H
      have c10b0 := eq_true c10
      have c10b1 : decide (0 ≤ (ji9)) = true := decide_eq_true c10; clear c10
      by_cases c11 : (ji9) ≤ (t1035.length : Int)
      ·rw [if_pos c11] at H
       have c11b0 := eq_true c11
       have c11b1 : decide ((ji9) ≤ (t1035.length : Int)) = true := decide_eq_true c11; clear c11
       obtain ⟨y1052, hy1052⟩ : ∃ y_ : List (S32), y_ = (t1035.drop ((ji9) : Int).toNat) := ⟨_, rfl⟩
       replace H : (if y1049.length + y1052.length < 1172812402961 then (some (t1034, (y1049 ++ y1052))) else (none)) = some (r1, r2) := by first | (rw [hy1052]; with_reducible exact H) | (have H2_ := (Option.bind_some _ _).symm.trans H; rw [hy1052]; with_reducible exact H2_) | (have H2_ := (Option.bind_some _ _).symm.trans H; with_reducible exact H2_) | with_reducible exact H | (rw [hy1052]; exact H) | exact H
       have Ny1052 := zq9 hy1052; clear hy1052
       by_cases c12 : y1049.length + y1052.length < 1172812402961
       ·rw [if_pos c12] at H; have LMc12 := zq9 c12; clear c12
        obtain ⟨y1057, hy1057⟩ : ∃ y_ : List (S32), y_ = (y1049 ++ y1052) := ⟨_, rfl⟩
        replace H : (some (t1034, y1057)) = some (r1, r2) := by first | (rw [hy1057]; with_reducible exact H) | (have H2_ := (Option.bind_some _ _).symm.trans H; rw [hy1057]; with_reducible exact H2_) | (have H2_ := (Option.bind_some _ _).symm.trans H; with_reducible exact H2_) | with_reducible exact H | (rw [hy1057]; exact H) | exact H
        have Ny1057 := zq9 hy1057; clear hy1057
        simp only [Option.some.injEq, Prod.mk.injEq] at H
        obtain ⟨rfl, rfl⟩ := H
        go_enter Try.func77, Try.ntmps77
        try go_wp2_with (first | ((with_reducible refine zq25 (N := 2) rfl ?_); refine bx 2 #[.int .i64 a0_0, .slice A0_1 l0_1.length c0_1] 46 ?_; intro gb1032 hg w13 hbox hb; have n0_ := zq9 (zq27 (by exact bl HB) hb); have n1_ := zq9 (hbox); have n2_ := zq9 ((by rw [hg]; exact (zq29 (by exact bl HB)) : w.heap.size ≤ gb1032)); have n3_ := n2_; clear HB; have HB := n0_; have BK1032 := n1_; have GW1032 := n2_; have GE1032 := n3_; clear n0_ n1_ n2_ n3_; clear hb hbox hg) | ((with_reducible refine zq25 (N := 4) rfl ?_); refine bx 4 #[.int .i64 0, .slice none 0 0] 46 ?_; intro gb1033 hg w14 hbox hb; have n0_ := zq9 (zq30 (g := gb1032) (o := .cells #[.int .i64 a0_0, .slice A0_1 l0_1.length c0_1] 46 (0, 0)) (by exact bk BK1032) hb); have n1_ := zq9 (zq27 (by exact b1 HB GE1032) hb); have n2_ := zq9 (hbox); have n3_ := zq9 ((by rw [hg]; exact (zq29 (by exact b1 HB GE1032)) : w.heap.size ≤ gb1033)); have n4_ := n3_; have n5_ := zq9 ((by rw [hg]; exact Nat.ne_of_lt (blk_lt (g := gb1032) (o := .cells #[.int .i64 a0_0, .slice A0_1 l0_1.length c0_1] 46 (0, 0)) (by exact bk BK1032)) : gb1032 ≠ gb1033)); have n6_ := zq9 ((by rw [hg]; exact Nat.ne_of_gt (blk_lt (g := gb1032) (o := .cells #[.int .i64 a0_0, .slice A0_1 l0_1.length c0_1] 46 (0, 0)) (by exact bk BK1032)) : gb1033 ≠ gb1032)); clear BK1032; clear HB; have BK1032 := n0_; have HB := n1_; have BK1033 := n2_; have GW1033 := n3_; have GE1033 := n4_; have NB1032_1033 := n5_; have NB1033_1032 := n6_; clear n0_ n1_ n2_ n3_ n4_ n5_ n6_; clear hb hbox hg; have hnb15 := NB1032_1033.out; have hnc15 := NB1033_1032.out; have hcz16_0 : w14.cell? ⟨gb1032, 0, none⟩ = some (.int .i64 a0_0) := bc BK1032 0; have hcz16_1 : w14.cell? ⟨gb1032, 1, none⟩ = some (.slice A0_1 l0_1.length c0_1) := bc BK1032 1; have hfz16_0 := zq6 BK1032.out 0; have hfz16_1 := zq6 BK1032.out 1) | ((with_reducible refine zq24 (f := 73) rfl ?_); refine gl (some 9) Try.func73 #[.agg #[.int .i64 a0_0, .slice A0_1 l0_1.length c0_1]] ?_; (with_reducible refine (spec_l4Copy.calls k a0_0 _ _ l0_1 t1034 t1035 _ ?side1 ?side2 A3.out).mono ?_); (case side1 => exact kc HR0_1 HB); (case side2 => exact HC0_1.out); rintro e w17 ⟨v1036, rfl, ho0, hb⟩; refine ⟨_, rfl, ?_⟩; have n0_ := zq9 (Kd.N_lower (Kd.N_mono (ok' := fun k_ => (w.heap.size ≤ k_) ∧ k_ ≠ gb1032 ∧ k_ ≠ gb1033) (Kd.S_N (Kd.S_bound ho0)) (fun k_ hk_ => ⟨(Nat.le_trans (zq29 (by exact b2 HB GE1032 GE1033)) hk_.2.1), (Kd.freshB (g := gb1032) (o := .cells #[.int .i64 a0_0, .slice A0_1 l0_1.length c0_1] 46 (0, 0)) (by exact bk BK1032) k_ hk_.2.1), (Kd.freshB (g := gb1033) (o := .cells #[.int .i64 0, .slice none 0 0] 46 (0, 0)) (by exact bk BK1033) k_ hk_.2.1)⟩)) (zq29 (by exact b2 HB GE1032 GE1033))); have n1_ := zq9 (zq30 (g := gb1032) (o := .cells #[.int .i64 a0_0, .slice A0_1 l0_1.length c0_1] 46 (0, 0)) (by exact bk BK1032) hb); have n2_ := zq9 (zq30 (g := gb1033) (o := .cells #[.int .i64 0, .slice none 0 0] 46 (0, 0)) (by exact bk BK1033) hb); have n3_ := zq9 (zq27 (by exact b2 HB GE1032 GE1033) hb); clear BK1032; clear BK1033; clear HB; have HO1037 := n0_; have BK1032 := n1_; have BK1033 := n2_; have HB := n3_; clear n0_ n1_ n2_ n3_; (try clear hb); (try clear hb2); (try clear hk); (try clear hi); (try clear ho0)) | ((with_reducible refine zq25 (N := 5) rfl ?_); refine bx 5 #[.int .i64 0, .slice none 0 0] 46 ?_; intro gb1038 hg w18 hbox hb; have n0_ := zq9 (Kd.N_below (Kd.N_elderB (by exact nz HO1037) gb1038 (Nat.le_of_eq hg.symm)) hb); have n1_ := zq9 (zq30 (g := gb1032) (o := .cells #[.int .i64 a0_0, .slice A0_1 l0_1.length c0_1] 46 (0, 0)) (by exact bk BK1032) hb); have n2_ := zq9 (zq30 (g := gb1033) (o := .cells #[.int .i64 0, .slice none 0 0] 46 (0, 0)) (by exact bk BK1033) hb); have n3_ := zq9 (zq27 (by exact b2 HB GE1032 GE1033) hb); have n4_ := zq9 (hbox); have n5_ := zq9 ((by rw [hg]; exact (zq29 (by exact b2 HB GE1032 GE1033)) : w.heap.size ≤ gb1038)); have n6_ := n5_; have n7_ := zq9 ((by rw [hg]; exact Nat.ne_of_lt (blk_lt (g := gb1032) (o := .cells #[.int .i64 a0_0, .slice A0_1 l0_1.length c0_1] 46 (0, 0)) (by exact bk BK1032)) : gb1032 ≠ gb1038)); have n8_ := zq9 ((by rw [hg]; exact Nat.ne_of_gt (blk_lt (g := gb1032) (o := .cells #[.int .i64 a0_0, .slice A0_1 l0_1.length c0_1] 46 (0, 0)) (by exact bk BK1032)) : gb1038 ≠ gb1032)); have n9_ := zq9 ((by rw [hg]; exact Nat.ne_of_lt (blk_lt (g := gb1033) (o := .cells #[.int .i64 0, .slice none 0 0] 46 (0, 0)) (by exact bk BK1033)) : gb1033 ≠ gb1038)); have n10_ := zq9 ((by rw [hg]; exact Nat.ne_of_gt (blk_lt (g := gb1033) (o := .cells #[.int .i64 0, .slice none 0 0] 46 (0, 0)) (by exact bk BK1033)) : gb1038 ≠ gb1033)); clear HO1037; clear BK1032; clear BK1033; clear HB; have HO1037 := n0_; have BK1032 := n1_; have BK1033 := n2_; have HB := n3_; have BK1038 := n4_; have GW1038 := n5_; have GE1038 := n6_; have NB1032_1038 := n7_; have NB1038_1032 := n8_; have NB1033_1038 := n9_; have NB1038_1033 := n10_; clear n0_ n1_ n2_ n3_ n4_ n5_ n6_ n7_ n8_ n9_ n10_; clear hb hbox hg; have hnb19 := NB1038_1032.out; have hnc19 := NB1032_1038.out; have hnb20 := NB1038_1033.out; have hnc20 := NB1033_1038.out; have hcz21_0 : w18.cell? ⟨gb1038, 0, none⟩ = some (.int .i64 0) := bc BK1038 0; have hcz21_1 : w18.cell? ⟨gb1038, 1, none⟩ = some (.slice none 0 0) := bc BK1038 1; have hfz21_0 := zq6 BK1038.out 0; have hfz21_1 := zq6 BK1038.out 1; obtain ⟨Ao22, co22, eo22⟩ := Kd.N_slice HO1037.out; subst eo22; have hcz23_0 : w18.cell? ⟨gb1032, 0, none⟩ = some (.int .i64 a0_0) := bc BK1032 0; have hcz23_1 : w18.cell? ⟨gb1032, 1, none⟩ = some (.slice A0_1 l0_1.length c0_1) := bc BK1032 1; have hfz23_0 := zq6 BK1032.out 0; have hfz23_1 := zq6 BK1032.out 1) | ((with_reducible refine zq24 (f := 65) rfl ?_); refine gl (some 13) Try.func65 #[.agg #[.int .i64 a0_0, .slice A0_1 l0_1.length c0_1], .string a1] ?_; (with_reducible refine (spec_l4At.calls k a0_0 _ _ l0_1 a1 t1039 true _ ?side1 ?side2 A4.out).mono ?_); (case side1 => exact zq31 HR0_1.out (by exact b3 HB GE1032 GE1033 GE1038)); (case side2 => exact HC0_1.out); rintro e w24 ⟨rfl, hb⟩; refine ⟨_, rfl, ?_⟩; have n0_ := zq9 (Kd.N_below (by (with_reducible repeat (first | apply Kd.N_alloc | apply Kd.N_drewN | apply Kd.N_drew)); exact (Kd.N_mono (Kd.N_far (p := ⟨gb1038, 1, none⟩) (Kd.N_far (p := ⟨gb1038, 0, none⟩) (Kd.N_mono HO1037.out (fun k_ hk => (⟨hk, by first | exact hk.2 | exact hk | exact hk.1⟩ : _ ∧ k_ ≠ gb1038))) (fun _ hk => hk.2) (.int .i64 t1034)) (fun _ hk => hk.2) (.slice Ao22 t1035.length co22)) (fun _ h_ => h_.1))) hb); have n1_ := zq9 (zq30 (g := gb1032) (o := .cells #[.int .i64 a0_0, .slice A0_1 l0_1.length c0_1] 46 (0, 0)) (by refine bp ?_; refine blk_far ?_ NB1032_1038.out _; refine bp ?_; refine blk_far ?_ NB1032_1038.out _; refine bp ?_; exact BK1032.out) hb); have n2_ := zq9 (zq30 (g := gb1033) (o := .cells #[.int .i64 0, .slice none 0 0] 46 (0, 0)) (by refine bp ?_; refine blk_far ?_ NB1033_1038.out _; refine bp ?_; refine blk_far ?_ NB1033_1038.out _; refine bp ?_; exact BK1033.out) hb); have n3_ := zq9 (zq30 (g := gb1038) (o := .cells #[.int .i64 t1034, .slice Ao22 t1035.length co22] 46 (0, 0)) (by refine bp ?_; refine blk_put (cs := #[.int .i64 t1034, .slice none 0 0]) ?_ 1 _ rfl; refine bp ?_; refine blk_put (cs := #[.int .i64 0, .slice none 0 0]) ?_ 0 _ rfl; refine bp ?_; exact BK1038.out) hb); have n4_ := zq9 (zq27 (by exact b3 HB GE1032 GE1033 GE1038) hb); clear HO1037; clear BK1032; clear BK1033; clear BK1038; clear HB; have HO1037 := n0_; have BK1032 := n1_; have BK1033 := n2_; have BK1038 := n3_; have HB := n4_; clear n0_ n1_ n2_ n3_ n4_; (try clear hb); (try clear hb2); (try clear hk); (try clear hi)))
        have n0_ := zq9 (Kd.N_drew HO1037.out)
        have n1_ := zq9 (blk_drew BK1032.out)
        have n2_ := zq9 (blk_drew BK1033.out)
        have n3_ := zq9 (blk_drew BK1038.out)
        have n4_ := zq9 (zq4 HB.out)
        clear HO1037; clear BK1032; clear BK1033; clear BK1038; clear HB; have HO1037 := n0_; have BK1032 := n1_; have BK1033 := n2_; have BK1038 := n3_; have HB := n4_; clear n0_ n1_ n2_ n3_ n4_
        have q26 : (t1039 : Int) ≤ ((t1035.length : Int) : Int) := of_decide_eq_true ‹_›
        obtain ⟨i026, hi026, _, hsz26, _⟩ := info_parts info32
        have hroom26 : t1035.length ≤ co22 := (Kd.N_reads' HO1037.out).2.1
        have hC26 : Kd.F k32 _ _ Ao22 t1035.length t1035 := (Kd.V_at (base := w.heap.size) (Kd.N_V HO1037.out)).2.2
        have hcut26 := cut_to (P := Try.prog) 44 32 .i64 Try.underlying44 hi026 Ao22 t1035.length co22 t1039 (of_decide_eq_true ‹_›) q26 hroom26
        have hr26 := Kd.F_take (m := (t1039 : Int).toNat) hC26 (by omega)
        have hy26 : y1044.length = (t1039 : Int).toNat := (by rw [Ny1044.out, zq34]; omega)
        rw [← Ny1044.out] at hr26
        rw [← hy26] at hcut26
        have HO1048 := zq9 (show Kd.V k32 32 _ w.heap.size _ (.slice Ao22 y1044.length co22) y1044 from Kd.V_mk (by omega) hr26)
        have HC1048 := zq9 (show y1044.length ≤ co22 from by omega)
        clear hr26 hC26 hroom26 hi026 hsz26; have KY26 := zq9 hy26; clear hy26; replace q26 := eq_true q26
        have q27 : ((ji9) : Int) ≤ ((t1035.length : Int) : Int) := of_decide_eq_true ‹_›
        obtain ⟨i027, hi027, _, hsz27, _⟩ := info_parts info32
        have hroom27 : t1035.length ≤ co22 := (Kd.N_reads' HO1037.out).2.1
        have hC27 : Kd.F k32 _ _ Ao22 t1035.length t1035 := (Kd.V_at (base := w.heap.size) (Kd.N_V HO1037.out)).2.2
        have q027 : (0 : Int) ≤ ((ji9) : Int) := of_decide_eq_true ‹_›
        have hcut27 := cut_from (P := Try.prog) 44 32 .i64 Try.underlying44 hi027 7 hsz27 Ao22 t1035.length co22 (ji9) q027 q27
        have hr27 := Kd.F_cut (m := ((ji9) : Int).toNat) (c := co22) hC27 (by omega) hroom27
        obtain ⟨A27, hA27⟩ : ∃ A1, A1 = (if co22 = ((ji9) : Int).toNat then Ao22 else (Ao22 : Option Addr).map (·.add (((ji9) : Int).toNat * 7))) := ⟨_, rfl⟩
        obtain ⟨c27, hc27⟩ : ∃ c1, c1 = co22 - ((ji9) : Int).toNat := ⟨_, rfl⟩
        have hy27 : y1052.length = t1035.length - ((ji9) : Int).toNat := (by rw [Ny1052.out, zq33] <;> omega)
        rw [show (t1035).drop ((ji9) : Int).toNat = y1052 from Ny1052.out.symm] at hr27
        replace hr27 : Kd.F k32 _ _ A27 y1052.length y1052 := (by rw [hA27]; exact hr27)
        rw [← hy27, ← hA27, ← hc27] at hcut27
        have HO1056 := zq9 (show Kd.V k32 32 _ w.heap.size _ (.slice A27 y1052.length c27) y1052 from Kd.V_mk (by rw [hy27, hc27]; exact Nat.sub_le_sub_right hroom27 _) hr27)
        have HC1056 := zq9 (show y1052.length ≤ c27 from by rw [hy27, hc27]; exact Nat.sub_le_sub_right hroom27 _)
        clear hr27 hC27 hroom27 hi027 hsz27 hc27; have KY27 := zq9 hy27; have KA27 := zq9 hA27; clear hy27 hA27; replace q27 := eq_true q27
        refine start_ (n := 14) (S := fun w' => w'.cell? ⟨gb1038, 0, none⟩ = some (.int .i64 t1034) ∧ w'.cell? ⟨gb1038, 1, none⟩ = some (.slice Ao22 t1035.length co22)) (ds := [13]) #[false, false, false, false, false, false, false, false, false, false, false, false, false, false] (by kernel_rfl) rfl rfl ⟨bc BK1038 0, bc BK1038 1⟩ (fun hHeld => ?_); refine with_tabW spec_l4Drop.tab4 spec_l4Drop.bits4 (fun HT_ HW_ => ?_)
        generalize w24.drew = w25 at HO1037 BK1032 BK1033 BK1038 HB HO1048 HO1056 hHeld ⊢
        refine pa HT_ 1 18 (zb 14 2) ?_; refine pa HT_ 3 20 (zb 14 10) ?_; refine pa HT_ 6 23 (zb 14 74) ?_; refine pa HT_ 8 25 (zb 14 330) ?_; refine pa HT_ 9 26 (zb 14 842) ?_
        refine take_ (i := 2) (N := some 19) (v := ?_) (a' := ?_) (zb 14 846) rfl rfl (take_ofW HT_.out HW_.out (by kernel_rfl)) (fun _ _ _ h => h) (Or.inl ⟨by rfl, ?_⟩) hHeld ?_ ?_
        rotate_left; ·rintro w' ⟨s0, s1⟩; go_simp; with_reducible rfl
        rotate_left; ·simp only [Act.put, zq0, zq1, zq2, i64_w, i32_w]; rfl
        refine pa HT_ 4 21 (zb 14 862) ?_
        refine take_ (i := 7) (N := some 24) (v := ?_) (a' := ?_) (zb 14 990) rfl rfl (take_ofW HT_.out HW_.out (by kernel_rfl)) (fun _ _ _ h => h) (Or.inl ⟨by rfl, ?_⟩) hHeld ?_ ?_
        rotate_left; ·rintro w' ⟨s0, s1⟩; go_simp; with_reducible rfl
        rotate_left; ·simp only [Act.put, zq0, zq1, zq2, i64_w, i32_w]; rfl
        refine pa HT_ 10 27 (zb 14 2014) ?_
        refine one_ (i := 0) (N := some 17) (zb 14 2015) rfl rfl (one_of HT_.out (by kernel_rfl)) (by decide) (fun K hK => ?_)
        refine Kd.N_lit_step k32 _ 32 ?hg (N' := 17) ?hd (xs := ([] : List (S32))) (inner := []) (ok := (fun k_ => (w.heap.size ≤ k_) ∧ some k_ ≠ (.slice Ao22 t1035.length co22 : Value).ownBlock ∧ k_ ≠ gb1032 ∧ k_ ≠ gb1033 ∧ k_ ≠ gb1038)) (okp := (fun k_ => (w.heap.size ≤ k_) ∧ some k_ ≠ (.slice Ao22 t1035.length co22 : Value).ownBlock ∧ k_ ≠ gb1032 ∧ k_ ≠ gb1033 ∧ k_ ≠ gb1038)) ?hr ?hp (fun _ hk => hk) ((show ∀ k_, w25.heap.size ≤ k_ → (fun k_ => (w.heap.size ≤ k_) ∧ some k_ ≠ (.slice Ao22 t1035.length co22 : Value).ownBlock ∧ k_ ≠ gb1032 ∧ k_ ≠ gb1033 ∧ k_ ≠ gb1038) k_ from fun k_ hk => ⟨(Nat.le_trans (zq29 (by exact b3 HB GE1032 GE1033 GE1038)) hk), Kd.fresh' (Kd.N_lt (by exact nz HO1037)) k_ hk, Kd.freshB (g := gb1032) (o := .cells #[.int .i64 a0_0, .slice A0_1 l0_1.length c0_1] 46 (0, 0)) (by exact bk BK1032) k_ hk, Kd.freshB (g := gb1033) (o := .cells #[.int .i64 0, .slice none 0 0] 46 (0, 0)) (by exact bk BK1033) k_ hk, Kd.freshB (g := gb1038) (o := .cells #[.int .i64 t1034, .slice Ao22 t1035.length co22] 46 (0, 0)) (by exact bk BK1038) k_ hk⟩) _ (Nat.le_refl _)) (Below.refl _ _) (Nat.le_refl _) (by simp) ?_; (case hd => rfl); (case hg => rfl); (case hr => first | (go_simp; done) | (go_simp; rfl)); (case hp => exact (Reps.none _ _))
        intro v1042 w28 ho29 hb hg_ hnew_
        clear hg_ hnew_
        (first | rw [← Ny1041.out] at ho29 | (simp only [Int.reduceToNat] at ho29; rw [← Ny1041.out] at ho29))
        have n0_ := zq9 (Kd.N_elder' (by exact nz HO1037) (Kd.N_base ho29) hb)
        have n1_ := zq9 (Kd.V_elder' (by exact vz HO1048) (Kd.N_base ho29) hb)
        have n2_ := zq9 (Kd.V_elder' (by exact vz HO1056) (Kd.N_base ho29) hb)
        have n3_ := zq9 (Kd.N_lower ho29 (zq29 (by exact b3 HB GE1032 GE1033 GE1038)))
        have n4_ := zq9 (zq30 (g := gb1032) (o := .cells #[.int .i64 a0_0, .slice A0_1 l0_1.length c0_1] 46 (0, 0)) (by exact bk BK1032) hb)
        have n5_ := zq9 (zq30 (g := gb1033) (o := .cells #[.int .i64 0, .slice none 0 0] 46 (0, 0)) (by exact bk BK1033) hb)
        have n6_ := zq9 (zq30 (g := gb1038) (o := .cells #[.int .i64 t1034, .slice Ao22 t1035.length co22] 46 (0, 0)) (by exact bk BK1038) hb)
        have n7_ := zq9 (zq27 (by exact b3 HB GE1032 GE1033 GE1038) hb)
        clear HO1037; clear HO1048; clear HO1056; clear BK1032; clear BK1033; clear BK1038; clear HB; have HO1037 := n0_; have HO1048 := n1_; have HO1056 := n2_; have HO1043 := n3_; have BK1032 := n4_; have BK1033 := n5_; have BK1038 := n6_; have HB := n7_; clear n0_ n1_ n2_ n3_ n4_ n5_ n6_ n7_; clear hb ho29
        refine hK.out _ _ ⟨bc BK1038 0, bc BK1038 1⟩ (fun hHeld => ?_)
        clear hK K
        refine norm_ (a' := ?_) ?_ ?_
        rotate_left; ·show Act.put _ (some 17) _ = _; simp only [Act.put, zq0, zq1, zq2, i64_w, i32_w]; rfl
        refine one_ (i := 5) (N := some 22) (zb 14 2047) rfl rfl (one_of HT_.out (by kernel_rfl)) (by decide) (fun K hK => ?_)
        refine Kd.N_append_rows_step k32 (w0 := w) w.heap.size (by rfl) (.tmp 17) (.tmp 21) 44 32 (.agg #[(.string ⟨#[]⟩), (.int .i64 0), (.int .i64 0), (.string ⟨#[]⟩), (.slice none 0 0), (.slice none 0 0), (.slice none 0 0)]) 120 rfl Try.underlying44 info32 rfl (by decide) (by omega) v1042 y1041 y1044 _ _ _ (fun k_ => (w.heap.size ≤ k_) ∧ k_ ≠ gb1032 ∧ k_ ≠ gb1033 ∧ k_ ≠ gb1038) (fun k_ => ((fun k_ => (w.heap.size ≤ k_) ∧ k_ ≠ gb1032 ∧ k_ ≠ gb1033 ∧ k_ ≠ gb1038)) k_ ∧ some k_ ≠ (v1042 : Value).ownBlock) rfl rfl ?aO ?aR (fun _ hk => hk) ?aF ?aB ?aS ?aL ?_
        (case aR => exact (by skip; exact Kd.V_F (Kd.V_mono (ok' := (fun k_ => ((fun k_ => (w.heap.size ≤ k_) ∧ k_ ≠ gb1032 ∧ k_ ≠ gb1033 ∧ k_ ≠ gb1038)) k_ ∧ some k_ ≠ (v1042 : Value).ownBlock)) (HO1048.out) (fun k_ hk => ⟨⟨hk.1.1.1, ⟨hk.1.1.2.1, ⟨hk.1.1.2.2, hk.1.2⟩⟩⟩, hk.2⟩))))
        (case aB => exact (by exact b3 HB GE1032 GE1033 GE1038))
        (case aF => exact (fun k_ hk => ⟨(Nat.le_trans (zq29 (by exact b3 HB GE1032 GE1033 GE1038)) hk), Kd.freshB (g := gb1032) (o := .cells #[.int .i64 a0_0, .slice A0_1 l0_1.length c0_1] 46 (0, 0)) (by exact bk BK1032) k_ hk, Kd.freshB (g := gb1033) (o := .cells #[.int .i64 0, .slice none 0 0] 46 (0, 0)) (by exact bk BK1033) k_ hk, Kd.freshB (g := gb1038) (o := .cells #[.int .i64 t1034, .slice Ao22 t1035.length co22] 46 (0, 0)) (by exact bk BK1038) k_ hk⟩))
        (case aO => exact (by (with_reducible repeat (first | apply Kd.N_alloc | apply Kd.N_drewN | apply Kd.N_drew)); exact Kd.N_mono HO1043.out (fun _ hk => ⟨hk.1, ⟨hk.2.2.1, ⟨hk.2.2.2.1, hk.2.2.2.2⟩⟩⟩)))
        (case aS => exact (zq29 (by exact b3 HB GE1032 GE1033 GE1038)))
        (case aL => have := LMc8.out; omega)
        intro v1050 w30 ho hb hg hat
        rw [← Ny1049.out] at ho
        have n0_ := zq9 (blk_grown (g := gb1032) (o := .cells #[.int .i64 a0_0, .slice A0_1 l0_1.length c0_1] 46 (0, 0)) (by exact bk BK1032) hg (Kd.N_ne HO1043.out BK1032.out (by decide)))
        have n1_ := zq9 (blk_grown (g := gb1033) (o := .cells #[.int .i64 0, .slice none 0 0] 46 (0, 0)) (by exact bk BK1033) hg (Kd.N_ne HO1043.out BK1033.out (by decide)))
        have n2_ := zq9 (Kd.N_afterv (ok := (fun k_ => (w.heap.size ≤ k_) ∧ k_ ≠ gb1032 ∧ k_ ≠ gb1033 ∧ k_ ≠ gb1038)) (by (with_reducible repeat (first | apply Kd.N_alloc | apply Kd.N_drewN | apply Kd.N_drew)); exact Kd.N_mono HO1037.out (fun _ hk => ⟨⟨hk.1.1.1, ⟨hk.1.1.2.1, ⟨hk.1.1.2.2, hk.1.2⟩⟩⟩, hk.2⟩)) hg hat)
        have n3_ := zq9 (blk_grown (g := gb1038) (o := .cells #[.int .i64 t1034, .slice Ao22 t1035.length co22] 46 (0, 0)) (by exact bk BK1038) hg (Kd.N_ne HO1043.out BK1038.out (by decide)))
        have n4_ := zq9 (Kd.V_afterv (ok := (fun k_ => (w.heap.size ≤ k_) ∧ k_ ≠ gb1032 ∧ k_ ≠ gb1033 ∧ k_ ≠ gb1038)) (by (with_reducible repeat (first | apply zq21 | apply zq22 | apply zq23)); exact Kd.V_mono HO1048.out (fun _ hk => ⟨⟨hk.1.1.1, ⟨hk.1.1.2.1, ⟨hk.1.1.2.2, hk.1.2⟩⟩⟩, hk.2⟩)) hg hat)
        have n5_ := zq9 (Kd.V_afterv (ok := (fun k_ => (w.heap.size ≤ k_) ∧ k_ ≠ gb1032 ∧ k_ ≠ gb1033 ∧ k_ ≠ gb1038)) (by (with_reducible repeat (first | apply zq21 | apply zq22 | apply zq23)); exact Kd.V_mono HO1056.out (fun _ hk => ⟨⟨hk.1.1.1, ⟨hk.1.1.2.1, ⟨hk.1.1.2.2, hk.1.2⟩⟩⟩, hk.2⟩)) hg hat)
        have n6_ := zq9 (hb)
        have n7_ := zq9 (ho)
        clear BK1032; clear BK1033; clear HO1037; clear BK1038; clear HO1048; clear HO1056; clear HB; clear HO1043; have BK1032 := n0_; have BK1033 := n1_; have HO1037 := n2_; have BK1038 := n3_; have HO1048 := n4_; have HO1056 := n5_; have HB := n6_; have HO1051 := n7_; clear n0_ n1_ n2_ n3_ n4_ n5_ n6_ n7_; clear ho hb hg hat
        refine hK.out _ _ ⟨bc BK1038 0, bc BK1038 1⟩ (fun hHeld => ?_)
        clear hK K
        refine norm_ (a' := ?_) ?_ ?_
        rotate_left; ·show Act.put _ (some 22) _ = _; simp only [Act.put, zq0, zq1, zq2, i64_w, i32_w]; rfl
        refine one_ (i := 11) (N := some 28) (zb 14 4095) rfl rfl (one_of HT_.out (by kernel_rfl)) (by decide) (fun K hK => ?_)
        refine Kd.N_append_rows_step k32 (w0 := w) w.heap.size (by rfl) (.tmp 22) (.tmp 27) 44 32 (.agg #[(.string ⟨#[]⟩), (.int .i64 0), (.int .i64 0), (.string ⟨#[]⟩), (.slice none 0 0), (.slice none 0 0), (.slice none 0 0)]) 120 rfl Try.underlying44 info32 rfl (by decide) (by omega) v1050 y1049 y1052 _ _ _ (fun k_ => (w.heap.size ≤ k_) ∧ k_ ≠ gb1032 ∧ k_ ≠ gb1033 ∧ k_ ≠ gb1038) (fun k_ => ((fun k_ => (w.heap.size ≤ k_) ∧ k_ ≠ gb1032 ∧ k_ ≠ gb1033 ∧ k_ ≠ gb1038)) k_ ∧ some k_ ≠ (v1050 : Value).ownBlock) rfl rfl ?aO ?aR (fun _ hk => hk) ?aF ?aB ?aS ?aL ?_
        (case aR => exact (by skip; exact Kd.V_F (Kd.V_mono (ok' := (fun k_ => ((fun k_ => (w.heap.size ≤ k_) ∧ k_ ≠ gb1032 ∧ k_ ≠ gb1033 ∧ k_ ≠ gb1038)) k_ ∧ some k_ ≠ (v1050 : Value).ownBlock)) (HO1056.out) (fun k_ hk => ⟨⟨hk.1.1, ⟨hk.1.2.1, ⟨hk.1.2.2.1, hk.1.2.2.2⟩⟩⟩, hk.2⟩))))
        (case aB => exact (by exact b3 HB GE1032 GE1033 GE1038))
        (case aF => exact (fun k_ hk => ⟨(Nat.le_trans (zq29 (by exact b3 HB GE1032 GE1033 GE1038)) hk), Kd.freshB (g := gb1032) (o := .cells #[.int .i64 a0_0, .slice A0_1 l0_1.length c0_1] 46 (0, 0)) (by exact bk BK1032) k_ hk, Kd.freshB (g := gb1033) (o := .cells #[.int .i64 0, .slice none 0 0] 46 (0, 0)) (by exact bk BK1033) k_ hk, Kd.freshB (g := gb1038) (o := .cells #[.int .i64 t1034, .slice Ao22 t1035.length co22] 46 (0, 0)) (by exact bk BK1038) k_ hk⟩))
        (case aO => exact (by exact nz HO1051))
        (case aS => exact (zq29 (by exact b3 HB GE1032 GE1033 GE1038)))
        (case aL => have := LMc12.out; omega)
        intro v1058 w31 ho hb hg hat
        rw [← Ny1057.out] at ho
        have n0_ := zq9 (blk_grown (g := gb1032) (o := .cells #[.int .i64 a0_0, .slice A0_1 l0_1.length c0_1] 46 (0, 0)) (by exact bk BK1032) hg (Kd.N_ne HO1051.out BK1032.out (by decide)))
        have n1_ := zq9 (blk_grown (g := gb1033) (o := .cells #[.int .i64 0, .slice none 0 0] 46 (0, 0)) (by exact bk BK1033) hg (Kd.N_ne HO1051.out BK1033.out (by decide)))
        have n2_ := zq9 (Kd.N_afterv (ok := (fun k_ => (w.heap.size ≤ k_) ∧ k_ ≠ gb1032 ∧ k_ ≠ gb1033 ∧ k_ ≠ gb1038)) (by exact nz HO1037) hg hat)
        have n3_ := zq9 (blk_grown (g := gb1038) (o := .cells #[.int .i64 t1034, .slice Ao22 t1035.length co22] 46 (0, 0)) (by exact bk BK1038) hg (Kd.N_ne HO1051.out BK1038.out (by decide)))
        have n4_ := zq9 (Kd.V_afterv (ok := (fun k_ => (w.heap.size ≤ k_) ∧ k_ ≠ gb1032 ∧ k_ ≠ gb1033 ∧ k_ ≠ gb1038)) (by exact vz HO1048) hg hat)
        have n5_ := zq9 (Kd.V_afterv (ok := (fun k_ => (w.heap.size ≤ k_) ∧ k_ ≠ gb1032 ∧ k_ ≠ gb1033 ∧ k_ ≠ gb1038)) (by exact vz HO1056) hg hat)
        have n6_ := zq9 (hb)
        have n7_ := zq9 (ho)
        clear BK1032; clear BK1033; clear HO1037; clear BK1038; clear HO1048; clear HO1056; clear HB; clear HO1051; have BK1032 := n0_; have BK1033 := n1_; have HO1037 := n2_; have BK1038 := n3_; have HO1048 := n4_; have HO1056 := n5_; have HB := n6_; have HO1059 := n7_; clear n0_ n1_ n2_ n3_ n4_ n5_ n6_ n7_; clear ho hb hg hat
        obtain ⟨Ao32, co32, eo32⟩ := Kd.N_slice HO1059.out
        (first | subst eo32 | (injection eo32 with f1_ f2_ f3_; have f4_ := f1_.symm; have f5_ := f3_.symm; clear f1_ f2_ f3_; subst f4_; subst f5_))
        refine hK.out _ _ ⟨bc BK1038 0, bc BK1038 1⟩ (fun hHeld => ?_)
        clear hK K
        refine norm_ (a' := ?_) ?_ ?_
        rotate_left; ·show Act.put _ (some 28) _ = _; simp only [Act.put, zq0, zq1, zq2, i64_w, i32_w]; rfl
        refine pa HT_ 12 29 (zb 14 8191) ?_
        refine last_ (i := 13) (N := none) #[true, true, true, true, true, true, true, true, true, true, true, true, true, true] rfl rfl (one_of HT_.out (by kernel_rfl)) (by decide) (fun K hK => ?_)
        have hs33 : w31.cell? ⟨gb1038, 1, none⟩ = some (.slice Ao22 t1035.length co22) := bc BK1038 1
        have hfs33 := zq6 BK1038.out 1
        have hns33_0 := NB1032_1038.out; have hns33_1 := NB1033_1038.out; have hms33_0 := NB1038_1032.out; have hms33_1 := NB1038_1033.out
        refine skip_ (w1 := ?_) (by rfl) rfl ?_ ?_
        rotate_left; ·go_simp; rfl
        refine hK.out _ _ ?_
        clear hK K
        refine done_ (done_of HT_.out (by kernel_rfl)) ?_
        have hcz34_0 : w31.cell? ⟨gb1038, 0, none⟩ = some (.int .i64 t1034) := bc BK1038 0
        have hcz34_1 : w31.cell? ⟨gb1038, 1, none⟩ = some (.slice Ao22 t1035.length co22) := bc BK1038 1
        have hfz34_0 := zq6 BK1038.out 0
        have hfz34_1 := zq6 BK1038.out 1
        have hcz35_0 : w31.cell? ⟨gb1033, 0, none⟩ = some (.int .i64 0) := bc BK1033 0
        have hcz35_1 : w31.cell? ⟨gb1033, 1, none⟩ = some (.slice none 0 0) := bc BK1033 1
        have hfz35_0 := zq6 BK1033.out 0
        have hfz35_1 := zq6 BK1033.out 1
        try go_wp2
        refine bodyPost_ret (results_cell_row rfl _ _ gb1033 46 #[.int .i64 t1034, .slice Ao32 y1057.length co32] (0, 0) _ rfl (by refine bp ?_; refine blk_put (cs := #[.int .i64 t1034, .slice none 0 0]) ?_ 1 _ rfl; refine bp ?_; refine blk_put (cs := #[.int .i64 0, .slice none 0 0]) ?_ 0 _ rfl; refine bp ?_; refine blk_far ?_ NB1033_1038.out _; refine bp ?_; exact BK1033.out) Try.underlying46 rfl (by kernel_rfl)) rfl ?_
        exact ⟨_, by first | rfl | (simp [errW_none, errW_some] <;> rfl) | (simp only [← hji9]; first | rfl | (simp [errW_none, errW_some] <;> rfl)) | (simp [*, errW_none, errW_some] <;> rfl), by (with_reducible repeat (first | apply Kd.N_alloc | apply Kd.N_drewN | apply Kd.N_drew)); exact Kd.N_mono (Kd.N_far (p := ⟨gb1033, 1, none⟩) (Kd.N_far (p := ⟨gb1033, 0, none⟩) (Kd.N_far (p := ⟨gb1038, 1, none⟩) (Kd.N_mono (Kd.N_mono HO1059.out (fun k_ hk => (⟨hk, hk.2.2.2⟩ : _ ∧ k_ ≠ gb1038))) (fun k_ hk => (⟨hk, hk.1.2.2.1⟩ : _ ∧ k_ ≠ gb1033))) (fun _ hk => hk.1.2) (.slice Ao32 y1057.length co32)) (fun _ hk => hk.2) (.int .i64 t1034)) (fun _ hk => hk.2) (.slice Ao32 y1057.length co32)) (fun _ hk => hk.1.1.1), by exact b3 HB GE1032 GE1033 GE1038⟩
       ·rw [if_neg c12] at H
        exact absurd H (by simp)
      ·rw [if_neg c11] at H
       exact absurd H (by simp)
     ·rw [if_neg c10] at H
      exact absurd H (by simp)
    ·rw [if_neg c8] at H
     exact absurd H (by simp)
   ·rw [if_neg c7] at H
    exact absurd H (by simp)
  ·rw [if_neg c6] at H
   exact absurd H (by simp)
 ·replace c5 := Bool.eq_false_iff.mpr c5
  subst c5
  have H1 : (some (t1034, t1035)) = some (r1, r2) := by rw [if_neg (show ¬ (false = true) by decide)] at H; exact H
  clear H; have H := H1; clear H1
  simp only [Option.some.injEq, Prod.mk.injEq] at H
  obtain ⟨rfl, rfl⟩ := H
  go_enter Try.func77, Try.ntmps77
  go_wp2_with (first | ((with_reducible refine zq25 (N := 2) rfl ?_); refine bx 2 #[.int .i64 a0_0, .slice A0_1 l0_1.length c0_1] 46 ?_; intro gb1032 hg w36 hbox hb; have n0_ := zq9 (zq27 (by exact bl HB) hb); have n1_ := zq9 (hbox); have n2_ := zq9 ((by rw [hg]; exact (zq29 (by exact bl HB)) : w.heap.size ≤ gb1032)); have n3_ := n2_; clear HB; have HB := n0_; have BK1032 := n1_; have GW1032 := n2_; have GE1032 := n3_; clear n0_ n1_ n2_ n3_; clear hb hbox hg) | ((with_reducible refine zq25 (N := 4) rfl ?_); refine bx 4 #[.int .i64 0, .slice none 0 0] 46 ?_; intro gb1033 hg w37 hbox hb; have n0_ := zq9 (zq30 (g := gb1032) (o := .cells #[.int .i64 a0_0, .slice A0_1 l0_1.length c0_1] 46 (0, 0)) (by exact bk BK1032) hb); have n1_ := zq9 (zq27 (by exact b1 HB GE1032) hb); have n2_ := zq9 (hbox); have n3_ := zq9 ((by rw [hg]; exact (zq29 (by exact b1 HB GE1032)) : w.heap.size ≤ gb1033)); have n4_ := n3_; have n5_ := zq9 ((by rw [hg]; exact Nat.ne_of_lt (blk_lt (g := gb1032) (o := .cells #[.int .i64 a0_0, .slice A0_1 l0_1.length c0_1] 46 (0, 0)) (by exact bk BK1032)) : gb1032 ≠ gb1033)); have n6_ := zq9 ((by rw [hg]; exact Nat.ne_of_gt (blk_lt (g := gb1032) (o := .cells #[.int .i64 a0_0, .slice A0_1 l0_1.length c0_1] 46 (0, 0)) (by exact bk BK1032)) : gb1033 ≠ gb1032)); clear BK1032; clear HB; have BK1032 := n0_; have HB := n1_; have BK1033 := n2_; have GW1033 := n3_; have GE1033 := n4_; have NB1032_1033 := n5_; have NB1033_1032 := n6_; clear n0_ n1_ n2_ n3_ n4_ n5_ n6_; clear hb hbox hg; have hnb38 := NB1032_1033.out; have hnc38 := NB1033_1032.out; have hcz39_0 : w37.cell? ⟨gb1032, 0, none⟩ = some (.int .i64 a0_0) := bc BK1032 0; have hcz39_1 : w37.cell? ⟨gb1032, 1, none⟩ = some (.slice A0_1 l0_1.length c0_1) := bc BK1032 1; have hfz39_0 := zq6 BK1032.out 0; have hfz39_1 := zq6 BK1032.out 1) | ((with_reducible refine zq24 (f := 73) rfl ?_); refine gl (some 9) Try.func73 #[.agg #[.int .i64 a0_0, .slice A0_1 l0_1.length c0_1]] ?_; (with_reducible refine (spec_l4Copy.calls k a0_0 _ _ l0_1 t1034 t1035 _ ?side1 ?side2 A3.out).mono ?_); (case side1 => exact kc HR0_1 HB); (case side2 => exact HC0_1.out); rintro e w40 ⟨v1036, rfl, ho0, hb⟩; refine ⟨_, rfl, ?_⟩; have n0_ := zq9 (Kd.N_lower (Kd.N_mono (ok' := fun k_ => (w.heap.size ≤ k_) ∧ k_ ≠ gb1032 ∧ k_ ≠ gb1033) (Kd.S_N (Kd.S_bound ho0)) (fun k_ hk_ => ⟨(Nat.le_trans (zq29 (by exact b2 HB GE1032 GE1033)) hk_.2.1), (Kd.freshB (g := gb1032) (o := .cells #[.int .i64 a0_0, .slice A0_1 l0_1.length c0_1] 46 (0, 0)) (by exact bk BK1032) k_ hk_.2.1), (Kd.freshB (g := gb1033) (o := .cells #[.int .i64 0, .slice none 0 0] 46 (0, 0)) (by exact bk BK1033) k_ hk_.2.1)⟩)) (zq29 (by exact b2 HB GE1032 GE1033))); have n1_ := zq9 (zq30 (g := gb1032) (o := .cells #[.int .i64 a0_0, .slice A0_1 l0_1.length c0_1] 46 (0, 0)) (by exact bk BK1032) hb); have n2_ := zq9 (zq30 (g := gb1033) (o := .cells #[.int .i64 0, .slice none 0 0] 46 (0, 0)) (by exact bk BK1033) hb); have n3_ := zq9 (zq27 (by exact b2 HB GE1032 GE1033) hb); clear BK1032; clear BK1033; clear HB; have HO1037 := n0_; have BK1032 := n1_; have BK1033 := n2_; have HB := n3_; clear n0_ n1_ n2_ n3_; (try clear hb); (try clear hb2); (try clear hk); (try clear hi); (try clear ho0)) | ((with_reducible refine zq25 (N := 5) rfl ?_); refine bx 5 #[.int .i64 0, .slice none 0 0] 46 ?_; intro gb1038 hg w41 hbox hb; have n0_ := zq9 (Kd.N_below (Kd.N_elderB (by exact nz HO1037) gb1038 (Nat.le_of_eq hg.symm)) hb); have n1_ := zq9 (zq30 (g := gb1032) (o := .cells #[.int .i64 a0_0, .slice A0_1 l0_1.length c0_1] 46 (0, 0)) (by exact bk BK1032) hb); have n2_ := zq9 (zq30 (g := gb1033) (o := .cells #[.int .i64 0, .slice none 0 0] 46 (0, 0)) (by exact bk BK1033) hb); have n3_ := zq9 (zq27 (by exact b2 HB GE1032 GE1033) hb); have n4_ := zq9 (hbox); have n5_ := zq9 ((by rw [hg]; exact (zq29 (by exact b2 HB GE1032 GE1033)) : w.heap.size ≤ gb1038)); have n6_ := n5_; have n7_ := zq9 ((by rw [hg]; exact Nat.ne_of_lt (blk_lt (g := gb1032) (o := .cells #[.int .i64 a0_0, .slice A0_1 l0_1.length c0_1] 46 (0, 0)) (by exact bk BK1032)) : gb1032 ≠ gb1038)); have n8_ := zq9 ((by rw [hg]; exact Nat.ne_of_gt (blk_lt (g := gb1032) (o := .cells #[.int .i64 a0_0, .slice A0_1 l0_1.length c0_1] 46 (0, 0)) (by exact bk BK1032)) : gb1038 ≠ gb1032)); have n9_ := zq9 ((by rw [hg]; exact Nat.ne_of_lt (blk_lt (g := gb1033) (o := .cells #[.int .i64 0, .slice none 0 0] 46 (0, 0)) (by exact bk BK1033)) : gb1033 ≠ gb1038)); have n10_ := zq9 ((by rw [hg]; exact Nat.ne_of_gt (blk_lt (g := gb1033) (o := .cells #[.int .i64 0, .slice none 0 0] 46 (0, 0)) (by exact bk BK1033)) : gb1038 ≠ gb1033)); clear HO1037; clear BK1032; clear BK1033; clear HB; have HO1037 := n0_; have BK1032 := n1_; have BK1033 := n2_; have HB := n3_; have BK1038 := n4_; have GW1038 := n5_; have GE1038 := n6_; have NB1032_1038 := n7_; have NB1038_1032 := n8_; have NB1033_1038 := n9_; have NB1038_1033 := n10_; clear n0_ n1_ n2_ n3_ n4_ n5_ n6_ n7_ n8_ n9_ n10_; clear hb hbox hg; have hnb42 := NB1038_1032.out; have hnc42 := NB1032_1038.out; have hnb43 := NB1038_1033.out; have hnc43 := NB1033_1038.out; have hcz44_0 : w41.cell? ⟨gb1038, 0, none⟩ = some (.int .i64 0) := bc BK1038 0; have hcz44_1 : w41.cell? ⟨gb1038, 1, none⟩ = some (.slice none 0 0) := bc BK1038 1; have hfz44_0 := zq6 BK1038.out 0; have hfz44_1 := zq6 BK1038.out 1; obtain ⟨Ao45, co45, eo45⟩ := Kd.N_slice HO1037.out; subst eo45; have hcz46_0 : w41.cell? ⟨gb1032, 0, none⟩ = some (.int .i64 a0_0) := bc BK1032 0; have hcz46_1 : w41.cell? ⟨gb1032, 1, none⟩ = some (.slice A0_1 l0_1.length c0_1) := bc BK1032 1; have hfz46_0 := zq6 BK1032.out 0; have hfz46_1 := zq6 BK1032.out 1) | ((with_reducible refine zq24 (f := 65) rfl ?_); refine gl (some 13) Try.func65 #[.agg #[.int .i64 a0_0, .slice A0_1 l0_1.length c0_1], .string a1] ?_; (with_reducible refine (spec_l4At.calls k a0_0 _ _ l0_1 a1 t1039 false _ ?side1 ?side2 A4.out).mono ?_); (case side1 => exact zq31 HR0_1.out (by exact b3 HB GE1032 GE1033 GE1038)); (case side2 => exact HC0_1.out); rintro e w47 ⟨rfl, hb⟩; refine ⟨_, rfl, ?_⟩; have n0_ := zq9 (Kd.N_below (by (with_reducible repeat (first | apply Kd.N_alloc | apply Kd.N_drewN | apply Kd.N_drew)); exact (Kd.N_mono (Kd.N_far (p := ⟨gb1038, 1, none⟩) (Kd.N_far (p := ⟨gb1038, 0, none⟩) (Kd.N_mono HO1037.out (fun k_ hk => (⟨hk, by first | exact hk.2 | exact hk | exact hk.1⟩ : _ ∧ k_ ≠ gb1038))) (fun _ hk => hk.2) (.int .i64 t1034)) (fun _ hk => hk.2) (.slice Ao45 t1035.length co45)) (fun _ h_ => h_.1))) hb); have n1_ := zq9 (zq30 (g := gb1032) (o := .cells #[.int .i64 a0_0, .slice A0_1 l0_1.length c0_1] 46 (0, 0)) (by refine bp ?_; refine blk_far ?_ NB1032_1038.out _; refine bp ?_; refine blk_far ?_ NB1032_1038.out _; refine bp ?_; exact BK1032.out) hb); have n2_ := zq9 (zq30 (g := gb1033) (o := .cells #[.int .i64 0, .slice none 0 0] 46 (0, 0)) (by refine bp ?_; refine blk_far ?_ NB1033_1038.out _; refine bp ?_; refine blk_far ?_ NB1033_1038.out _; refine bp ?_; exact BK1033.out) hb); have n3_ := zq9 (zq30 (g := gb1038) (o := .cells #[.int .i64 t1034, .slice Ao45 t1035.length co45] 46 (0, 0)) (by refine bp ?_; refine blk_put (cs := #[.int .i64 t1034, .slice none 0 0]) ?_ 1 _ rfl; refine bp ?_; refine blk_put (cs := #[.int .i64 0, .slice none 0 0]) ?_ 0 _ rfl; refine bp ?_; exact BK1038.out) hb); have n4_ := zq9 (zq27 (by exact b3 HB GE1032 GE1033 GE1038) hb); clear HO1037; clear BK1032; clear BK1033; clear BK1038; clear HB; have HO1037 := n0_; have BK1032 := n1_; have BK1033 := n2_; have BK1038 := n3_; have HB := n4_; clear n0_ n1_ n2_ n3_ n4_; (try clear hb); (try clear hb2); (try clear hk); (try clear hi); have hcz48_0 : w47.cell? ⟨gb1038, 0, none⟩ = some (.int .i64 t1034) := bc BK1038 0; have hcz48_1 : w47.cell? ⟨gb1038, 1, none⟩ = some (.slice Ao45 t1035.length co45) := bc BK1038 1; have hfz48_0 := zq6 BK1038.out 0; have hfz48_1 := zq6 BK1038.out 1; have hcz49_0 : w47.cell? ⟨gb1033, 0, none⟩ = some (.int .i64 0) := bc BK1033 0; have hcz49_1 : w47.cell? ⟨gb1033, 1, none⟩ = some (.slice none 0 0) := bc BK1033 1; have hfz49_0 := zq6 BK1033.out 0; have hfz49_1 := zq6 BK1033.out 1))
  refine bodyPost_ret (results_cell_row rfl _ _ gb1033 46 #[.int .i64 t1034, .slice Ao45 t1035.length co45] (0, 0) _ rfl (by refine bp ?_; refine blk_put (cs := #[.int .i64 t1034, .slice none 0 0]) ?_ 1 _ rfl; refine bp ?_; refine blk_put (cs := #[.int .i64 0, .slice none 0 0]) ?_ 0 _ rfl; refine bp ?_; exact BK1033.out) Try.underlying46 rfl (by kernel_rfl)) rfl ?_
  exact ⟨_, by first | rfl | (simp [errW_none, errW_some] <;> rfl) | (simp [*, errW_none, errW_some] <;> rfl), by (with_reducible repeat (first | apply Kd.N_alloc | apply Kd.N_drewN | apply Kd.N_drew)); exact Kd.N_mono (Kd.N_far (p := ⟨gb1033, 1, none⟩) (Kd.N_far (p := ⟨gb1033, 0, none⟩) (Kd.N_mono HO1037.out (fun k_ hk => (⟨hk, hk.1.2.2⟩ : _ ∧ k_ ≠ gb1033))) (fun _ hk => hk.2) (.int .i64 t1034)) (fun _ hk => hk.2) (.slice Ao45 t1035.length co45)) (fun _ hk => hk.1.1.1), by exact b3 HB GE1032 GE1033 GE1038⟩
set_option maxHeartbeats 8000000 in
set_option maxRecDepth 100000 in
theorem spec_BaseDrop.calls (k : Nat) (a0_0 : Int) (A0_1 : Option Addr) (c0_1 : Nat) (l0_1 : List (S32)) (a1 : ByteArray) (r1 : Int) (r2 : List (S32)) (r3 : Bool) (w : World) (hr0_1 : Kd.C k32 w A0_1 l0_1.length l0_1) (hc0_1 : l0_1.length ≤ c0_1) (h : spec_BaseDrop.f k a0_0 l0_1 a1 = some (r1, r2, r3)) :
    Calls Try.prog 34 #[.agg #[.int .i64 a0_0, .slice A0_1 l0_1.length c0_1], .string a1] w fun e w' => ∃ v1_ : Value, e = .returned (.tuple #[.agg #[.int .i64 r1, v1_], .bool r3]) ∧ Kd.N k32 32 w' w.heap.size (fun k_ => (w.heap.size ≤ k_)) v1_ r2 ∧ Below w.heap.size w w' := by
  have hu46 := Try.underlying46; have HR0_1 := zq9 hr0_1; have HC0_1 := zq9 hc0_1; clear hr0_1 hc0_1
  have HB := zq9 (Below.refl w.heap.size w)
  have H : ((spec_BaseOk.f k a0_0 l0_1).bind fun t1062 => (if t1062 = true then ((spec_l4At.f k a0_0 l0_1 a1).bind fun bt1063 => ((spec_l4Drop.f k a0_0 l0_1 a1).bind fun bt1065 => (some (bt1065.1, bt1065.2, bt1063.2)))) else (some (0, ([] : List (S32)), false)))) = some (r1, r2, r3) := h
  clear h; replace H := Option.bind_eq_some_iff.mp H; obtain ⟨t1062, A30, H⟩ := H
  try dsimp only at H
  have A3 := zq9 A30; clear A30
  go_enter Try.func34, Try.ntmps34
  by_cases c4 : t1062 = true
  · subst c4
    have H1 : ((spec_l4At.f k a0_0 l0_1 a1).bind fun bt1063 => ((spec_l4Drop.f k a0_0 l0_1 a1).bind fun bt1065 => (some (bt1065.1, bt1065.2, bt1063.2)))) = some (r1, r2, r3) := by rw [if_pos rfl] at H; exact H
    clear H; have H := H1; clear H1; replace H := Option.bind_eq_some_iff.mp H
    obtain ⟨⟨t1063, t1064⟩, A50, H⟩ := H
    try dsimp only at H
    have A5 := zq9 A50; clear A50; replace H := Option.bind_eq_some_iff.mp H
    obtain ⟨⟨t1065, t1066⟩, A60, H⟩ := H
    try dsimp only at H
    have A6 := zq9 A60; clear A60
    simp only [Option.some.injEq, Prod.mk.injEq] at H
    obtain ⟨rfl, rfl, rfl⟩ := H
    go_wp2_with (first | ((with_reducible refine zq25 (N := 2) rfl ?_); refine bx 2 #[.int .i64 a0_0, .slice A0_1 l0_1.length c0_1] 46 ?_; intro gb1060 hg w7 hbox hb; have n0_ := zq9 (zq27 (by exact bl HB) hb); have n1_ := zq9 (hbox); have n2_ := zq9 ((by rw [hg]; exact (zq29 (by exact bl HB)) : w.heap.size ≤ gb1060)); have n3_ := n2_; clear HB; have HB := n0_; have BK1060 := n1_; have GW1060 := n2_; have GE1060 := n3_; clear n0_ n1_ n2_ n3_; clear hb hbox hg) | ((with_reducible refine zq25 (N := 4) rfl ?_); refine bx 4 #[.int .i64 0, .slice none 0 0] 46 ?_; intro gb1061 hg w8 hbox hb; have n0_ := zq9 (zq30 (g := gb1060) (o := .cells #[.int .i64 a0_0, .slice A0_1 l0_1.length c0_1] 46 (0, 0)) (by exact bk BK1060) hb); have n1_ := zq9 (zq27 (by exact b1 HB GE1060) hb); have n2_ := zq9 (hbox); have n3_ := zq9 ((by rw [hg]; exact (zq29 (by exact b1 HB GE1060)) : w.heap.size ≤ gb1061)); have n4_ := n3_; have n5_ := zq9 ((by rw [hg]; exact Nat.ne_of_lt (blk_lt (g := gb1060) (o := .cells #[.int .i64 a0_0, .slice A0_1 l0_1.length c0_1] 46 (0, 0)) (by exact bk BK1060)) : gb1060 ≠ gb1061)); have n6_ := zq9 ((by rw [hg]; exact Nat.ne_of_gt (blk_lt (g := gb1060) (o := .cells #[.int .i64 a0_0, .slice A0_1 l0_1.length c0_1] 46 (0, 0)) (by exact bk BK1060)) : gb1061 ≠ gb1060)); clear BK1060; clear HB; have BK1060 := n0_; have HB := n1_; have BK1061 := n2_; have GW1061 := n3_; have GE1061 := n4_; have NB1060_1061 := n5_; have NB1061_1060 := n6_; clear n0_ n1_ n2_ n3_ n4_ n5_ n6_; clear hb hbox hg; have hnb9 := NB1060_1061.out; have hnc9 := NB1061_1060.out; have hcz10_0 : w8.cell? ⟨gb1060, 0, none⟩ = some (.int .i64 a0_0) := bc BK1060 0; have hcz10_1 : w8.cell? ⟨gb1060, 1, none⟩ = some (.slice A0_1 l0_1.length c0_1) := bc BK1060 1; have hfz10_0 := zq6 BK1060.out 0; have hfz10_1 := zq6 BK1060.out 1) | ((with_reducible refine zq24 (f := 17) rfl ?_); refine gl (some 9) Try.func17 #[.agg #[.int .i64 a0_0, .slice A0_1 l0_1.length c0_1]] ?_; (with_reducible refine (spec_BaseOk.calls k a0_0 _ _ l0_1 true _ ?side1 ?side2 A3.out).mono ?_); (case side1 => exact kc HR0_1 HB); (case side2 => exact HC0_1.out); rintro e w11 ⟨rfl, hb⟩; refine ⟨_, rfl, ?_⟩; have n0_ := zq9 (zq30 (g := gb1060) (o := .cells #[.int .i64 a0_0, .slice A0_1 l0_1.length c0_1] 46 (0, 0)) (by exact bk BK1060) hb); have n1_ := zq9 (zq30 (g := gb1061) (o := .cells #[.int .i64 0, .slice none 0 0] 46 (0, 0)) (by exact bk BK1061) hb); have n2_ := zq9 (zq27 (by exact b2 HB GE1060 GE1061) hb); clear BK1060; clear BK1061; clear HB; have BK1060 := n0_; have BK1061 := n1_; have HB := n2_; clear n0_ n1_ n2_; (try clear hb); (try clear hb2); (try clear hk); (try clear hi); have hcz12_0 : w11.cell? ⟨gb1060, 0, none⟩ = some (.int .i64 a0_0) := bc BK1060 0; have hcz12_1 : w11.cell? ⟨gb1060, 1, none⟩ = some (.slice A0_1 l0_1.length c0_1) := bc BK1060 1; have hfz12_0 := zq6 BK1060.out 0; have hfz12_1 := zq6 BK1060.out 1) | ((with_reducible refine zq24 (f := 65) rfl ?_); refine gl (some 15) Try.func65 #[.agg #[.int .i64 a0_0, .slice A0_1 l0_1.length c0_1], .string a1] ?_; (with_reducible refine (spec_l4At.calls k a0_0 _ _ l0_1 a1 t1063 t1064 _ ?side1 ?side2 A5.out).mono ?_); (case side1 => exact kc HR0_1 HB); (case side2 => exact HC0_1.out); rintro e w13 ⟨rfl, hb⟩; refine ⟨_, rfl, ?_⟩; have n0_ := zq9 (zq30 (g := gb1060) (o := .cells #[.int .i64 a0_0, .slice A0_1 l0_1.length c0_1] 46 (0, 0)) (by exact bk BK1060) hb); have n1_ := zq9 (zq30 (g := gb1061) (o := .cells #[.int .i64 0, .slice none 0 0] 46 (0, 0)) (by exact bk BK1061) hb); have n2_ := zq9 (zq27 (by exact b2 HB GE1060 GE1061) hb); clear BK1060; clear BK1061; clear HB; have BK1060 := n0_; have BK1061 := n1_; have HB := n2_; clear n0_ n1_ n2_; (try clear hb); (try clear hb2); (try clear hk); (try clear hi); have hcz14_0 : w13.cell? ⟨gb1060, 0, none⟩ = some (.int .i64 a0_0) := bc BK1060 0; have hcz14_1 : w13.cell? ⟨gb1060, 1, none⟩ = some (.slice A0_1 l0_1.length c0_1) := bc BK1060 1; have hfz14_0 := zq6 BK1060.out 0; have hfz14_1 := zq6 BK1060.out 1) | ((with_reducible refine zq24 (f := 77) rfl ?_); refine gl (some 20) Try.func77 #[.agg #[.int .i64 a0_0, .slice A0_1 l0_1.length c0_1], .string a1] ?_; (with_reducible refine (spec_l4Drop.calls k a0_0 _ _ l0_1 a1 t1065 t1066 _ ?side1 ?side2 A6.out).mono ?_); (case side1 => exact kc HR0_1 HB); (case side2 => exact HC0_1.out); rintro e w15 ⟨v1067, rfl, ho0, hb⟩; refine ⟨_, rfl, ?_⟩; have n0_ := zq9 (Kd.N_lower (Kd.N_mono (ok' := fun k_ => (w.heap.size ≤ k_) ∧ k_ ≠ gb1060 ∧ k_ ≠ gb1061) ho0 (fun k_ hk_ => ⟨(Nat.le_trans (zq29 (by exact b2 HB GE1060 GE1061)) hk_), (Kd.freshB (g := gb1060) (o := .cells #[.int .i64 a0_0, .slice A0_1 l0_1.length c0_1] 46 (0, 0)) (by exact bk BK1060) k_ hk_), (Kd.freshB (g := gb1061) (o := .cells #[.int .i64 0, .slice none 0 0] 46 (0, 0)) (by exact bk BK1061) k_ hk_)⟩)) (zq29 (by exact b2 HB GE1060 GE1061))); have n1_ := zq9 (zq30 (g := gb1060) (o := .cells #[.int .i64 a0_0, .slice A0_1 l0_1.length c0_1] 46 (0, 0)) (by exact bk BK1060) hb); have n2_ := zq9 (zq30 (g := gb1061) (o := .cells #[.int .i64 0, .slice none 0 0] 46 (0, 0)) (by exact bk BK1061) hb); have n3_ := zq9 (zq27 (by exact b2 HB GE1060 GE1061) hb); clear BK1060; clear BK1061; clear HB; have HO1068 := n0_; have BK1060 := n1_; have BK1061 := n2_; have HB := n3_; clear n0_ n1_ n2_ n3_; (try clear hb); (try clear hb2); (try clear hk); (try clear hi); (try clear ho0); have hcz16_0 : w15.cell? ⟨gb1061, 0, none⟩ = some (.int .i64 0) := bc BK1061 0; have hcz16_1 : w15.cell? ⟨gb1061, 1, none⟩ = some (.slice none 0 0) := bc BK1061 1; have hfz16_0 := zq6 BK1061.out 0; have hfz16_1 := zq6 BK1061.out 1; obtain ⟨Ao17, co17, eo17⟩ := Kd.N_slice HO1068.out; subst eo17))
    refine bodyPost_ret (results_ct rfl _ _ gb1061 46 #[.int .i64 t1065, .slice Ao17 t1066.length co17] (0, 0) _ rfl (by refine bp ?_; refine blk_put (cs := #[.int .i64 t1065, .slice none 0 0]) ?_ 1 _ rfl; refine bp ?_; refine blk_put (cs := #[.int .i64 0, .slice none 0 0]) ?_ 0 _ rfl; refine bp ?_; exact BK1061.out) Try.underlying46 rfl (by kernel_rfl)) rfl ?_
    exact ⟨_, by first | rfl | (simp [errW_none, errW_some] <;> rfl) | (simp [*, errW_none, errW_some] <;> rfl), by (with_reducible repeat (first | apply Kd.N_alloc | apply Kd.N_drewN | apply Kd.N_drew)); exact Kd.N_mono (Kd.N_far (p := ⟨gb1061, 1, none⟩) (Kd.N_far (p := ⟨gb1061, 0, none⟩) (Kd.N_mono HO1068.out (fun k_ hk => (⟨hk, hk.2.2⟩ : _ ∧ k_ ≠ gb1061))) (fun _ hk => hk.2) (.int .i64 t1065)) (fun _ hk => hk.2) (.slice Ao17 t1066.length co17)) (fun _ hk => hk.1.1), by exact b2 HB GE1060 GE1061⟩
  · replace c4 := Bool.eq_false_iff.mpr c4
    subst c4
    have H1 : (some (0, ([] : List (S32)), false)) = some (r1, r2, r3) := by rw [if_neg (show ¬ (false = true) by decide)] at H; exact H
    clear H; have H := H1; clear H1
    simp only [Option.some.injEq, Prod.mk.injEq] at H
    obtain ⟨rfl, rfl, rfl⟩ := H
    go_wp2_with (first | ((with_reducible refine zq25 (N := 2) rfl ?_); refine bx 2 #[.int .i64 a0_0, .slice A0_1 l0_1.length c0_1] 46 ?_; intro gb1060 hg w18 hbox hb; have n0_ := zq9 (zq27 (by exact bl HB) hb); have n1_ := zq9 (hbox); have n2_ := zq9 ((by rw [hg]; exact (zq29 (by exact bl HB)) : w.heap.size ≤ gb1060)); have n3_ := n2_; clear HB; have HB := n0_; have BK1060 := n1_; have GW1060 := n2_; have GE1060 := n3_; clear n0_ n1_ n2_ n3_; clear hb hbox hg) | ((with_reducible refine zq25 (N := 4) rfl ?_); refine bx 4 #[.int .i64 0, .slice none 0 0] 46 ?_; intro gb1061 hg w19 hbox hb; have n0_ := zq9 (zq30 (g := gb1060) (o := .cells #[.int .i64 a0_0, .slice A0_1 l0_1.length c0_1] 46 (0, 0)) (by exact bk BK1060) hb); have n1_ := zq9 (zq27 (by exact b1 HB GE1060) hb); have n2_ := zq9 (hbox); have n3_ := zq9 ((by rw [hg]; exact (zq29 (by exact b1 HB GE1060)) : w.heap.size ≤ gb1061)); have n4_ := n3_; have n5_ := zq9 ((by rw [hg]; exact Nat.ne_of_lt (blk_lt (g := gb1060) (o := .cells #[.int .i64 a0_0, .slice A0_1 l0_1.length c0_1] 46 (0, 0)) (by exact bk BK1060)) : gb1060 ≠ gb1061)); have n6_ := zq9 ((by rw [hg]; exact Nat.ne_of_gt (blk_lt (g := gb1060) (o := .cells #[.int .i64 a0_0, .slice A0_1 l0_1.length c0_1] 46 (0, 0)) (by exact bk BK1060)) : gb1061 ≠ gb1060)); clear BK1060; clear HB; have BK1060 := n0_; have HB := n1_; have BK1061 := n2_; have GW1061 := n3_; have GE1061 := n4_; have NB1060_1061 := n5_; have NB1061_1060 := n6_; clear n0_ n1_ n2_ n3_ n4_ n5_ n6_; clear hb hbox hg; have hnb20 := NB1060_1061.out; have hnc20 := NB1061_1060.out; have hcz21_0 : w19.cell? ⟨gb1060, 0, none⟩ = some (.int .i64 a0_0) := bc BK1060 0; have hcz21_1 : w19.cell? ⟨gb1060, 1, none⟩ = some (.slice A0_1 l0_1.length c0_1) := bc BK1060 1; have hfz21_0 := zq6 BK1060.out 0; have hfz21_1 := zq6 BK1060.out 1) | ((with_reducible refine zq24 (f := 17) rfl ?_); refine gl (some 9) Try.func17 #[.agg #[.int .i64 a0_0, .slice A0_1 l0_1.length c0_1]] ?_; (with_reducible refine (spec_BaseOk.calls k a0_0 _ _ l0_1 false _ ?side1 ?side2 A3.out).mono ?_); (case side1 => exact kc HR0_1 HB); (case side2 => exact HC0_1.out); rintro e w22 ⟨rfl, hb⟩; refine ⟨_, rfl, ?_⟩; have n0_ := zq9 (zq30 (g := gb1060) (o := .cells #[.int .i64 a0_0, .slice A0_1 l0_1.length c0_1] 46 (0, 0)) (by exact bk BK1060) hb); have n1_ := zq9 (zq30 (g := gb1061) (o := .cells #[.int .i64 0, .slice none 0 0] 46 (0, 0)) (by exact bk BK1061) hb); have n2_ := zq9 (zq27 (by exact b2 HB GE1060 GE1061) hb); clear BK1060; clear BK1061; clear HB; have BK1060 := n0_; have BK1061 := n1_; have HB := n2_; clear n0_ n1_ n2_; (try clear hb); (try clear hb2); (try clear hk); (try clear hi); have hcz23_0 : w22.cell? ⟨gb1061, 0, none⟩ = some (.int .i64 0) := bc BK1061 0; have hcz23_1 : w22.cell? ⟨gb1061, 1, none⟩ = some (.slice none 0 0) := bc BK1061 1; have hfz23_0 := zq6 BK1061.out 0; have hfz23_1 := zq6 BK1061.out 1))
    refine bodyPost_ret (results_ct rfl _ _ gb1061 46 #[.int .i64 0, .slice none 0 0] (0, 0) _ rfl (by refine bp ?_; refine blk_put (cs := #[.int .i64 0, .slice none 0 0]) ?_ 1 _ rfl; refine bp ?_; refine blk_put (cs := #[.int .i64 0, .slice none 0 0]) ?_ 0 _ rfl; refine bp ?_; exact BK1061.out) Try.underlying46 rfl (by kernel_rfl)) rfl ?_
    exact ⟨_, by first | rfl | (simp [errW_none, errW_some] <;> rfl) | (simp [*, errW_none, errW_some] <;> rfl), by first | exact Kd.S_nil _ _ _ _ _ | exact Kd.N_nil _ _ _ _ _ | exact Kd.V_nil _ _ _ _ _ | exact Kd.Q_nil _ _ _ _ _ | exact Kd.R_nil _ _ _ _ _, by exact b2 HB GE1060 GE1061⟩
set_option maxHeartbeats 8000000 in
set_option maxRecDepth 100000 in
theorem impl_within.calls (a0 : Int) (a1 : Int) (a2 : Int) (r : Bool) (w : World) (h : impl_within.f a0 a1 a2 = some r) :
    Calls Try.prog 49 #[.int .i64 a0, .int .i64 a1, .int .i64 a2] w fun e w' => e = .returned (.bool r) ∧ Drawn0 w w' := by
  have H : (if a0 ≥ a1 then (some (decide (a0 ≤ a2))) else (some false)) = some r := h
  clear h
  by_cases c4 : a0 ≥ a1
  · rw [if_pos c4] at H; have c4b0 : decide (a1 ≤ a0) = true := decide_eq_true c4; clear c4; obtain rfl := Option.some.inj H
    go_enter Try.func49, Try.ntmps49
    go_wp2
    go_ret
    exact ⟨by first | rfl | (simp; done) | (simp [*]; done), by repeat (first | exact Drawn0.refl _ | apply Drawn0.step)⟩
  · rw [if_neg c4] at H; have c4b0 : decide (a1 ≤ a0) = false := decide_eq_false c4; clear c4; obtain rfl := Option.some.inj H
    go_enter Try.func49, Try.ntmps49
    go_wp2
    go_ret
    exact ⟨by first | rfl | (simp; done) | (simp [*]; done), by repeat (first | exact Drawn0.refl _ | apply Drawn0.step)⟩
set_option maxHeartbeats 8000000 in
set_option maxRecDepth 100000 in
theorem impl_keyOk.calls (a0 : ByteArray) (r : Bool) (w : World) (h : impl_keyOk.f a0 = some r) :
    Calls Try.prog 48 #[.string a0] w fun e w' => e = .returned (.bool r) ∧ Drawn0 w w' := by
  have H : ((impl_within.f (a0.size : Int) 1 12).bind fun t175 => (some t175)) = some r := h
  clear h; replace H := Option.bind_eq_some_iff.mp H; obtain ⟨t175, A20, H⟩ := H
  try dsimp only at H
  have A2 := zq9 A20; clear A20; obtain rfl := Option.some.inj H
  go_enter Try.func48, Try.ntmps48
  go_wp2_with (first | ((with_reducible refine zq24 (f := 49) rfl ?_); refine gl (some 5) Try.func49 #[.int .i64 (a0.size : Int), .int .i64 1, .int .i64 12] ?_; (with_reducible refine (impl_within.calls (a0.size : Int) 1 12 t175 _ A2.out).mono ?_); rintro e w' ⟨rfl, ⟨nd, rfl⟩⟩; refine ⟨_, rfl, ?_⟩))
  go_ret
  exact ⟨by first | rfl | (simp; done) | (simp [*]; done), by repeat (first | exact Drawn0.refl _ | apply Drawn0.step)⟩
set_option maxHeartbeats 8000000 in
set_option maxRecDepth 100000 in
theorem impl_textsOk.calls (k : Nat) (A0 : Option Addr) (c0 : Nat) (l0 : List ByteArray) (a1 : Int) (r : Bool) (w : World) (hr0 : Kd.C Kd.string w A0 l0.length l0) (hc0 : l0.length ≤ c0) (h : impl_textsOk.f k l0 a1 = some r) :
  Calls Try.prog 84 #[.slice A0 l0.length c0, .int .i64 a1] w fun e w' => e = .returned (.bool r) ∧ Drawn0 w w' := by
 have HR0 := zq9 hr0; have HC0 := zq9 hc0; clear hr0 hc0
 have H : (impl_textsOk.l0 k l0 a1 l0 (l0.length : Int) 0) = some r := h
 clear h; have H' := zq9 H; clear H
 go_enter Try.func84, Try.ntmps84
 go_wp2
 go_loopg [9] k (fun kq v9 w' => ∃ (x9_1 : Int), v9 = .int .i64 x9_1 ∧ Aside0 (impl_textsOk.l0 kq l0 a1 l0 (l0.length : Int) x9_1 = some r) ∧ Aside0 (kq ≤ k) ∧ Drawn0 w w')
 case atStart => exact ⟨(0), (by first | rfl | (simp; done) | (simp [*]; done)), H', ⟨Nat.le_refl _⟩, by repeat (first | exact Drawn0.refl _ | apply Drawn0.step)⟩
 case round =>
  clear H'
  try clear p2
  obtain ⟨x9_1, rfl, HA, HK1, ⟨m1, rfl⟩⟩ := hrel
  cases gk with
  | zero => exact absurd HA.out (by simp [impl_textsOk.l0])
  | succ k1 =>
   have H := HA.out; clear HA
   simp only [impl_textsOk.l0] at H
   by_cases c3 : x9_1 < (l0.length : Int)
   ·rw [if_pos c3] at H; have c3b0 : decide (x9_1 < (l0.length : Int)) = true := decide_eq_true c3; clear c3
    by_cases c4 : 0 ≤ x9_1
    ·rw [if_pos c4] at H; have c4b0 : decide (0 ≤ x9_1) = true := decide_eq_true c4; clear c4
     by_cases c5 : x9_1 < (l0.length : Int)
     ·rw [if_pos c5] at H; have c5b0 : decide (x9_1 < (l0.length : Int)) = true := decide_eq_true c5; clear c5
      by_cases c6 : ((rdOf ByteArray.empty l0 x9_1).size : Int) > 40
      ·rw [if_pos c6] at H; have c6b0 : decide (40 < ((rdOf ByteArray.empty l0 x9_1).size : Int)) = true := decide_eq_true c6
       have c6b1 : decide (40 < (rdOf ByteArray.empty l0 x9_1).size) = true := decide_eq_true (by omega)
       clear c6; obtain rfl := Option.some.inj H
       have p176 : 0 ≤ (x9_1 : Int) := of_decide_eq_true ‹_›
       have q176 : x9_1 < (l0.length : Int) := of_decide_eq_true ‹_›
       obtain ⟨ad176, e176, hx176_0⟩ := Kd.at_string HR0.out x9_1 p176 q176
       cases e176; replace p176 := eq_true p176; replace q176 := eq_true q176
       go_wp2
       go_ret
       exact ⟨by first | rfl | (simp; done) | (simp [*]; done), by repeat (first | exact Drawn0.refl _ | apply Drawn0.step)⟩
      ·rw [if_neg c6] at H; have c6b0 : decide (40 < ((rdOf ByteArray.empty l0 x9_1).size : Int)) = false := decide_eq_false c6
       have c6b1 : decide (40 < (rdOf ByteArray.empty l0 x9_1).size) = false := decide_eq_false (by omega)
       clear c6; have H' := zq9 H; clear H
       have p176 : 0 ≤ (x9_1 : Int) := of_decide_eq_true ‹_›
       have q176 : x9_1 < (l0.length : Int) := of_decide_eq_true ‹_›
       obtain ⟨ad176, e176, hx176_0⟩ := Kd.at_string HR0.out x9_1 p176 q176
       cases e176; replace p176 := eq_true p176; replace q176 := eq_true q176
       go_wp2
       go_roundg k1
       case measure => have := HK1.out; omega
       case rel => exact ⟨(wrap64 (x9_1 + 1)), (by first | rfl | (simp; done) | (simp [*]; done)), H', ⟨by have := HK1.out; omega⟩, by repeat (first | exact Drawn0.refl _ | apply Drawn0.step)⟩
     ·rw [if_neg c5] at H
      exact absurd H (by simp)
    ·rw [if_neg c4] at H
     exact absurd H (by simp)
   ·rw [if_neg c3] at H; have c3b0 : decide (x9_1 < (l0.length : Int)) = false := decide_eq_false c3; clear c3; obtain rfl := Option.some.inj H
    go_wp2
    go_ret
    exact ⟨by first | rfl | (simp; done) | (simp [*]; done), by repeat (first | exact Drawn0.refl _ | apply Drawn0.step)⟩
set_option maxHeartbeats 8000000 in
set_option maxRecDepth 100000 in
theorem impl_listOk.calls (k : Nat) (A0 : Option Addr) (c0 : Nat) (l0 : List ByteArray) (r : Bool) (w : World) (hr0 : Kd.C Kd.string w A0 l0.length l0) (hc0 : l0.length ≤ c0) (h : impl_listOk.f k l0 = some r) :
    Calls Try.prog 50 #[.slice A0 l0.length c0] w fun e w' => e = .returned (.bool r) ∧ Drawn0 w w' := by
  have HR0 := zq9 hr0; have HC0 := zq9 hc0; clear hr0 hc0
  have H : ((impl_textsOk.f k l0 16).bind fun t177 => (some t177)) = some r := h
  clear h; replace H := Option.bind_eq_some_iff.mp H; obtain ⟨t177, A20, H⟩ := H
  try dsimp only at H
  have A2 := zq9 A20; clear A20; obtain rfl := Option.some.inj H
  go_enter Try.func50, Try.ntmps50
  go_wp2_with (first | ((with_reducible refine zq24 (f := 84) rfl ?_); refine gl (some 4) Try.func84 #[.slice A0 l0.length c0, .int .i64 16] ?_; (with_reducible refine (impl_textsOk.calls k _ _ l0 16 t177 _ ?side1 ?side2 A2.out).mono ?_); (case side1 => repeat (first | exact HR0.out | (with_reducible refine zq18 ?_ _) | (with_reducible refine zq19 ?_ _) | (with_reducible refine zq20 ?_))); (case side2 => exact HC0.out); rintro e w' ⟨rfl, ⟨nd, rfl⟩⟩; refine ⟨_, rfl, ?_⟩))
  go_ret
  exact ⟨by first | rfl | (simp; done) | (simp [*]; done), by repeat (first | exact Drawn0.refl _ | apply Drawn0.step)⟩
set_option maxHeartbeats 8000000 in
set_option maxRecDepth 100000 in
theorem impl_SetOk.calls (k : Nat) (A0 : Option Addr) (c0 : Nat) (l0 : List ByteArray) (r : Bool) (w : World) (hr0 : Kd.C Kd.string w A0 l0.length l0) (hc0 : l0.length ≤ c0) (h : impl_SetOk.f k l0 = some r) :
  Calls Try.prog 51 #[.slice A0 l0.length c0] w fun e w' => e = .returned (.bool r) ∧ Drawn0 w w' := by
 have HR0 := zq9 hr0; have HC0 := zq9 hc0; clear hr0 hc0
 have H : (impl_SetOk.l0 k l0 1) = some r := h
 clear h; have H' := zq9 H; clear H
 go_enter Try.func51, Try.ntmps51
 go_wp2
 repeat (go_quiet (fail); try go_wp2)
 go_loopg [3] k (fun kq v3 w' => ∃ (x3_1 : Int), v3 = .int .i64 x3_1 ∧ Aside0 (impl_SetOk.l0 kq l0 x3_1 = some r) ∧ Aside0 (kq ≤ k) ∧ Drawn0 w w')
 case atStart => exact ⟨(1), (by first | rfl | (simp; done) | (simp [*]; done)), H', ⟨Nat.le_refl _⟩, by repeat (first | exact Drawn0.refl _ | apply Drawn0.step)⟩
 case round =>
  clear H'
  obtain ⟨x3_1, rfl, HA, HK1, ⟨m1, rfl⟩⟩ := hrel
  cases gk with
  | zero => exact absurd HA.out (by simp [impl_SetOk.l0])
  | succ k1 =>
   have H := HA.out; clear HA
   simp only [impl_SetOk.l0] at H
   by_cases c2 : x3_1 < (l0.length : Int)
   ·rw [if_pos c2] at H; have c2b0 : decide (x3_1 < (l0.length : Int)) = true := decide_eq_true c2; clear c2
    obtain ⟨ji3, hji3⟩ : ∃ j_ : Int, (wrap64 (x3_1 - 1)) = j_ := ⟨_, rfl⟩
    replace H : (if 0 ≤ (ji3) then (if (ji3) < (l0.length : Int) then (if 0 ≤ x3_1 then (if ((Op.bytesLess ((rdOf ByteArray.empty l0 (ji3)).toList) ((rdOf ByteArray.empty l0 x3_1).toList)) = true) then (impl_SetOk.l0 k1 l0 (wrap64 (x3_1 + 1))) else (some false)) else (none)) else (none)) else (none)) = some r := by first | (rw [hji3] at H; exact H) | (simp only [hji3] at H ⊢; exact H)
    have hji3w : (IntKind.i64.wrap (x3_1 - 1)) = ji3 := (i64_w _).trans hji3
    by_cases c4 : 0 ≤ (ji3)
    ·rw [if_pos c4] at H; have c4b0 : decide (0 ≤ (ji3)) = true := decide_eq_true c4; clear c4
     by_cases c5 : (ji3) < (l0.length : Int)
     ·rw [if_pos c5] at H; have c5b0 : decide ((ji3) < (l0.length : Int)) = true := decide_eq_true c5; clear c5
      by_cases c6 : 0 ≤ x3_1
      ·rw [if_pos c6] at H; have c6b0 : decide (0 ≤ x3_1) = true := decide_eq_true c6; clear c6
       have p178 : 0 ≤ ((ji3) : Int) := of_decide_eq_true ‹_›
       have q178 : (ji3) < (l0.length : Int) := of_decide_eq_true ‹_›
       obtain ⟨ad178, e178, hx178_0⟩ := Kd.at_string HR0.out (ji3) p178 q178
       cases e178; replace p178 := eq_true p178; replace q178 := eq_true q178
       have p179 : 0 ≤ (x3_1 : Int) := of_decide_eq_true ‹_›
       have q179 : x3_1 < (l0.length : Int) := of_decide_eq_true ‹_›
       obtain ⟨ad179, e179, hx179_0⟩ := Kd.at_string HR0.out x3_1 p179 q179
       obtain rfl : ad178 = ad179 := (by injection e179)
       replace p179 := eq_true p179; replace q179 := eq_true q179
       go_wp2
       by_cases c7 : ((Op.bytesLess ((rdOf ByteArray.empty l0 (ji3)).toList) ((rdOf ByteArray.empty l0 x3_1).toList)) = true)
       ·rw [if_pos c7] at H
        have c7b0 : (Op.bytesLess ((rdOf ByteArray.empty l0 (ji3)).toList) ((rdOf ByteArray.empty l0 x3_1).toList)) = true := c7
        clear c7; have H' := zq9 H; clear H
        repeat (go_quiet (fail); try go_wp2)
        go_roundg k1
        case measure => have := HK1.out; omega
        case rel => exact ⟨(wrap64 (x3_1 + 1)), (by first | rfl | (simp; done) | (simp [*]; done)), H', ⟨by have := HK1.out; omega⟩, by repeat (first | exact Drawn0.refl _ | apply Drawn0.step)⟩
       ·rw [if_neg c7] at H
        have c7b0 : (Op.bytesLess ((rdOf ByteArray.empty l0 (ji3)).toList) ((rdOf ByteArray.empty l0 x3_1).toList)) = false := by simpa using c7
        clear c7; obtain rfl := Option.some.inj H
        repeat (go_quiet (fail); try go_wp2)
        go_ret
        exact ⟨by first | rfl | (simp; done) | (simp only [← hji3] <;> (first | rfl | simp)) | (simp [*]; done), by repeat (first | exact Drawn0.refl _ | apply Drawn0.step)⟩
      ·rw [if_neg c6] at H
       exact absurd H (by simp)
     ·rw [if_neg c5] at H
      exact absurd H (by simp)
    ·rw [if_neg c4] at H
     exact absurd H (by simp)
   ·rw [if_neg c2] at H; have c2b0 : decide (x3_1 < (l0.length : Int)) = false := decide_eq_false c2; clear c2; replace H := Option.bind_eq_some_iff.mp H; obtain ⟨t180, A80, H⟩ := H
    try dsimp only at H
    have A8 := zq9 A80; clear A80; obtain rfl := Option.some.inj H
    go_wp2_with (first | (go_at_call 50; (with_reducible refine (impl_listOk.calls k1 _ _ l0 t180 _ ?side1 ?side2 A8.out).mono ?_); (case side1 => repeat (first | exact HR0.out | (with_reducible refine zq18 ?_ _) | (with_reducible refine zq19 ?_ _) | (with_reducible refine zq20 ?_))); (case side2 => exact HC0.out); rintro e w' ⟨rfl, ⟨nd, rfl⟩⟩; (try first | exact ⟨rfl, _, zq32 _ _ _⟩ | exact ⟨rfl, _, Eq.trans (zq32 _ _ _) (congrArg (World.drewN _) (Nat.add_assoc _ _ _))⟩)))
    repeat (go_quiet (first | (go_at_call 50; (with_reducible refine (impl_listOk.calls k1 _ _ l0 t180 _ ?side1 ?side2 A8.out).mono ?_); (case side1 => repeat (first | exact HR0.out | (with_reducible refine zq18 ?_ _) | (with_reducible refine zq19 ?_ _) | (with_reducible refine zq20 ?_))); (case side2 => exact HC0.out); rintro e w' ⟨rfl, ⟨nd, rfl⟩⟩; (try first | exact ⟨rfl, _, zq32 _ _ _⟩ | exact ⟨rfl, _, Eq.trans (zq32 _ _ _) (congrArg (World.drewN _) (Nat.add_assoc _ _ _))⟩))); try go_wp2_with (first | (go_at_call 50; (with_reducible refine (impl_listOk.calls k1 _ _ l0 t180 _ ?side1 ?side2 A8.out).mono ?_); (case side1 => repeat (first | exact HR0.out | (with_reducible refine zq18 ?_ _) | (with_reducible refine zq19 ?_ _) | (with_reducible refine zq20 ?_))); (case side2 => exact HC0.out); rintro e w' ⟨rfl, ⟨nd, rfl⟩⟩; (try first | exact ⟨rfl, _, zq32 _ _ _⟩ | exact ⟨rfl, _, Eq.trans (zq32 _ _ _) (congrArg (World.drewN _) (Nat.add_assoc _ _ _))⟩))))
    go_ret
    exact ⟨by first | rfl | (simp; done) | (simp [*]; done), by repeat (first | exact Drawn0.refl _ | apply Drawn0.step)⟩
end Go.Proofs.Ytnkgmcgbbldkgaa.P
