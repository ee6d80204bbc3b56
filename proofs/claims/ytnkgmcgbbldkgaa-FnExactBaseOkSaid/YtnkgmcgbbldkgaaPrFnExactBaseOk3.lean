import Derived.Test.YtnkgmcgbbldkgaaPrFnExactBaseOk2
/- Texts of this claim, one behind the other: words on worlds and rows, printed functions and their walks, plain lemmas. -/
namespace Go.Proofs.Ytnkgmcgbbldkgaa.P
open Go.RowKit Go.Proofs.YtnkgmcgbbldkgaaW.PrintWords Go.Proofs.YtnkgmcgbbldkgaaW.PrintLast Go.Proofs.YtnkgmcgbbldkgaaW.PrintMore
attribute [local go_sem] max2_int min2_int max_two min_two max_three min_three max_four min_four   -- for this text's walks alone
set_option linter.unusedVariables false
set_option linter.unusedSimpArgs false
set_option maxHeartbeats 8000000 in
set_option maxRecDepth 100000 in
theorem spec_l3Ahead.calls (a0_0 : ByteArray) (a0_1 : Int) (a1_0 : ByteArray) (a1_1 : Int) (r : Bool) (w : World) (h : spec_l3Ahead.f a0_0 a0_1 a1_0 a1_1 = some r) :
    Calls Try.prog 81 #[.agg #[.string a0_0, .int .i64 a0_1], .agg #[.string a1_0, .int .i64 a1_1]] w fun e w' => e = .returned (.bool r) ∧ Below w.heap.size w w' := by
  have hu99 := Try.underlying99
  have HB := zq9 (Below.refl w.heap.size w)
  have H : (if a0_1 < a1_1 then (some true) else (if a0_1 = a1_1 then (some (Op.bytesLess a0_0.toList a1_0.toList)) else (some false))) = some r := h
  clear h
  go_enter Try.func81, Try.ntmps81
  by_cases c3 : a0_1 < a1_1
  · rw [if_pos c3] at H
    have c3b0 : decide (a0_1 < a1_1) = true := decide_eq_true c3
    clear c3
    obtain rfl := Option.some.inj H
    go_wp2_with (first | ((with_reducible refine zq25 (N := 2) rfl ?_); refine bx 2 #[.string a0_0, .int .i64 a0_1] 99 ?_; intro gb117 hg w4 hbox hb; have n0_ := zq9 (zq27 (by exact bl HB) hb); have n1_ := zq9 (hbox); have n2_ := zq9 ((by rw [hg]; exact (zq29 (by exact bl HB)) : w.heap.size ≤ gb117)); have n3_ := n2_; clear HB; have HB := n0_; have BK117 := n1_; have GW117 := n2_; have GE117 := n3_; clear n0_ n1_ n2_ n3_; clear hb hbox hg) | ((with_reducible refine zq25 (N := 3) rfl ?_); refine bx 3 #[.string a1_0, .int .i64 a1_1] 99 ?_; intro gb118 hg w5 hbox hb; have n0_ := zq9 (zq30 (g := gb117) (o := .cells #[.string a0_0, .int .i64 a0_1] 99 (0, 0)) (by exact bk BK117) hb); have n1_ := zq9 (zq27 (by exact b1 HB GE117) hb); have n2_ := zq9 (hbox); have n3_ := zq9 ((by rw [hg]; exact (zq29 (by exact b1 HB GE117)) : w.heap.size ≤ gb118)); have n4_ := n3_; have n5_ := zq9 ((by rw [hg]; exact Nat.ne_of_lt (blk_lt (g := gb117) (o := .cells #[.string a0_0, .int .i64 a0_1] 99 (0, 0)) (by exact bk BK117)) : gb117 ≠ gb118)); have n6_ := zq9 ((by rw [hg]; exact Nat.ne_of_gt (blk_lt (g := gb117) (o := .cells #[.string a0_0, .int .i64 a0_1] 99 (0, 0)) (by exact bk BK117)) : gb118 ≠ gb117)); clear BK117; clear HB; have BK117 := n0_; have HB := n1_; have BK118 := n2_; have GW118 := n3_; have GE118 := n4_; have NB117_118 := n5_; have NB118_117 := n6_; clear n0_ n1_ n2_ n3_ n4_ n5_ n6_; clear hb hbox hg; have hnb6 := NB117_118.out; have hnc6 := NB118_117.out; have hcz7_0 : w5.cell? ⟨gb117, 0, none⟩ = some (.string a0_0) := bc BK117 0; have hcz7_1 : w5.cell? ⟨gb117, 1, none⟩ = some (.int .i64 a0_1) := bc BK117 1; have hfz7_0 := zq6 BK117.out 0; have hfz7_1 := zq6 BK117.out 1; have hcz8_0 : w5.cell? ⟨gb118, 0, none⟩ = some (.string a1_0) := bc BK118 0; have hcz8_1 : w5.cell? ⟨gb118, 1, none⟩ = some (.int .i64 a1_1) := bc BK118 1; have hfz8_0 := zq6 BK118.out 0; have hfz8_1 := zq6 BK118.out 1))
    go_ret
    exact fz (by exact b2 HB GE117 GE118)
  · rw [if_neg c3] at H
    have c3b0 : decide (a0_1 < a1_1) = false := decide_eq_false c3
    clear c3
    by_cases c9 : a0_1 = a1_1
    · rw [if_pos c9] at H
      have c9b0 : (a0_1 == a1_1) = true := beq_iff_eq.mpr c9
      have c9b1 : (a0_1 != a1_1) = false := bne_eq_false_iff_eq.mpr c9
      clear c9
      obtain rfl := Option.some.inj H
      go_wp2_with (first | ((with_reducible refine zq25 (N := 2) rfl ?_); refine bx 2 #[.string a0_0, .int .i64 a0_1] 99 ?_; intro gb117 hg w10 hbox hb; have n0_ := zq9 (zq27 (by exact bl HB) hb); have n1_ := zq9 (hbox); have n2_ := zq9 ((by rw [hg]; exact (zq29 (by exact bl HB)) : w.heap.size ≤ gb117)); have n3_ := n2_; clear HB; have HB := n0_; have BK117 := n1_; have GW117 := n2_; have GE117 := n3_; clear n0_ n1_ n2_ n3_; clear hb hbox hg) | ((with_reducible refine zq25 (N := 3) rfl ?_); refine bx 3 #[.string a1_0, .int .i64 a1_1] 99 ?_; intro gb118 hg w11 hbox hb; have n0_ := zq9 (zq30 (g := gb117) (o := .cells #[.string a0_0, .int .i64 a0_1] 99 (0, 0)) (by exact bk BK117) hb); have n1_ := zq9 (zq27 (by exact b1 HB GE117) hb); have n2_ := zq9 (hbox); have n3_ := zq9 ((by rw [hg]; exact (zq29 (by exact b1 HB GE117)) : w.heap.size ≤ gb118)); have n4_ := n3_; have n5_ := zq9 ((by rw [hg]; exact Nat.ne_of_lt (blk_lt (g := gb117) (o := .cells #[.string a0_0, .int .i64 a0_1] 99 (0, 0)) (by exact bk BK117)) : gb117 ≠ gb118)); have n6_ := zq9 ((by rw [hg]; exact Nat.ne_of_gt (blk_lt (g := gb117) (o := .cells #[.string a0_0, .int .i64 a0_1] 99 (0, 0)) (by exact bk BK117)) : gb118 ≠ gb117)); clear BK117; clear HB; have BK117 := n0_; have HB := n1_; have BK118 := n2_; have GW118 := n3_; have GE118 := n4_; have NB117_118 := n5_; have NB118_117 := n6_; clear n0_ n1_ n2_ n3_ n4_ n5_ n6_; clear hb hbox hg; have hnb12 := NB117_118.out; have hnc12 := NB118_117.out; have hcz13_0 : w11.cell? ⟨gb117, 0, none⟩ = some (.string a0_0) := bc BK117 0; have hcz13_1 : w11.cell? ⟨gb117, 1, none⟩ = some (.int .i64 a0_1) := bc BK117 1; have hfz13_0 := zq6 BK117.out 0; have hfz13_1 := zq6 BK117.out 1; have hcz14_0 : w11.cell? ⟨gb118, 0, none⟩ = some (.string a1_0) := bc BK118 0; have hcz14_1 : w11.cell? ⟨gb118, 1, none⟩ = some (.int .i64 a1_1) := bc BK118 1; have hfz14_0 := zq6 BK118.out 0; have hfz14_1 := zq6 BK118.out 1))
      go_ret
      exact fz (by exact b2 HB GE117 GE118)
    · rw [if_neg c9] at H
      have c9b0 : (a0_1 == a1_1) = false := beq_eq_false_iff_ne.mpr c9
      have c9b1 : (a0_1 != a1_1) = true := bne_iff_ne.mpr c9
      obtain rfl := Option.some.inj H
      go_wp2_with (first | ((with_reducible refine zq25 (N := 2) rfl ?_); refine bx 2 #[.string a0_0, .int .i64 a0_1] 99 ?_; intro gb117 hg w10 hbox hb; have n0_ := zq9 (zq27 (by exact bl HB) hb); have n1_ := zq9 (hbox); have n2_ := zq9 ((by rw [hg]; exact (zq29 (by exact bl HB)) : w.heap.size ≤ gb117)); have n3_ := n2_; clear HB; have HB := n0_; have BK117 := n1_; have GW117 := n2_; have GE117 := n3_; clear n0_ n1_ n2_ n3_; clear hb hbox hg) | ((with_reducible refine zq25 (N := 3) rfl ?_); refine bx 3 #[.string a1_0, .int .i64 a1_1] 99 ?_; intro gb118 hg w11 hbox hb; have n0_ := zq9 (zq30 (g := gb117) (o := .cells #[.string a0_0, .int .i64 a0_1] 99 (0, 0)) (by exact bk BK117) hb); have n1_ := zq9 (zq27 (by exact b1 HB GE117) hb); have n2_ := zq9 (hbox); have n3_ := zq9 ((by rw [hg]; exact (zq29 (by exact b1 HB GE117)) : w.heap.size ≤ gb118)); have n4_ := n3_; have n5_ := zq9 ((by rw [hg]; exact Nat.ne_of_lt (blk_lt (g := gb117) (o := .cells #[.string a0_0, .int .i64 a0_1] 99 (0, 0)) (by exact bk BK117)) : gb117 ≠ gb118)); have n6_ := zq9 ((by rw [hg]; exact Nat.ne_of_gt (blk_lt (g := gb117) (o := .cells #[.string a0_0, .int .i64 a0_1] 99 (0, 0)) (by exact bk BK117)) : gb118 ≠ gb117)); clear BK117; clear HB; have BK117 := n0_; have HB := n1_; have BK118 := n2_; have GW118 := n3_; have GE118 := n4_; have NB117_118 := n5_; have NB118_117 := n6_; clear n0_ n1_ n2_ n3_ n4_ n5_ n6_; clear hb hbox hg; have hnb12 := NB117_118.out; have hnc12 := NB118_117.out; have hcz13_0 : w11.cell? ⟨gb117, 0, none⟩ = some (.string a0_0) := bc BK117 0; have hcz13_1 : w11.cell? ⟨gb117, 1, none⟩ = some (.int .i64 a0_1) := bc BK117 1; have hfz13_0 := zq6 BK117.out 0; have hfz13_1 := zq6 BK117.out 1; have hcz14_0 : w11.cell? ⟨gb118, 0, none⟩ = some (.string a1_0) := bc BK118 0; have hcz14_1 : w11.cell? ⟨gb118, 1, none⟩ = some (.int .i64 a1_1) := bc BK118 1; have hfz14_0 := zq6 BK118.out 0; have hfz14_1 := zq6 BK118.out 1))
      go_ret
      exact fz (by exact b2 HB GE117 GE118)
def spec_ScoresOk.T4 : Bool × List (List Nat × List Nat) := (true, [([], []), ([], []), ([0, 1], [0, 1]), ([2], [2]), ([3], [3]), ([4], [4]), ([5], [5]), ([6], [6]), ([7], [7]), ([7], [7]), ([8, 9, 7], [7, 8, 9]), ([10, 7], [7, 10]), ([11, 7], [7, 11]), ([12, 7, 7], [7, 12]), ([13, 7], [7, 13]), ([7, 14], [7, 14]), ([15, 13], [15]), ([16], [16]), ([17, 16], [16, 17]), ([18, 16, 16], [16, 18]), ([19], [19]), ([19], [19]), ([21, 19], [19, 21]), ([20, 22, 19], [19, 20, 22]), ([23, 19], [19, 23]), ([19], [19]), ([19], [19]), ([25, 26, 19], [19, 25, 26]), ([27, 19], [19, 27]), ([24, 28, 19, 19], [19, 24, 28]), ([29, 19], [19, 29]), ([19, 30, 16], [16, 19, 30]), ([16, 31], [16, 31])])
def spec_ScoresOk.B4 : List Nat := [0, 0, 3, 7, 15, 31, 63, 127, 255, 255, 1023, 2047, 4095, 8191, 16383, 32767, 65535, 131071, 262143, 524287, 1048575, 1048575, 3145727, 8388607, 16777215, 1048575, 1048575, 101711871, 235929599, 536870911, 1073741823, 2147483647, 4294967295]
theorem spec_ScoresOk.tab4 : rtab .any (opsOf Try.f43 4) = spec_ScoresOk.T4 := by kernel_rfl
theorem spec_ScoresOk.bits4 : waitsOk spec_ScoresOk.T4.2 spec_ScoresOk.B4 = true := by kernel_rfl
def spec_ScoresOk.T9 : Bool × List (List Nat × List Nat) := (true, [([], []), ([], []), ([0, 1], [0, 1]), ([2], [2]), ([3], [3]), ([], []), ([], []), ([5, 6], [5, 6]), ([7], [7]), ([8], [8]), ([4, 9], [4, 9])])
def spec_ScoresOk.B9 : List Nat := [0, 0, 3, 7, 15, 0, 0, 96, 224, 480, 1023]
theorem spec_ScoresOk.tab9 : rtab .any (opsOf Try.f43 9) = spec_ScoresOk.T9 := by kernel_rfl
theorem spec_ScoresOk.bits9 : waitsOk spec_ScoresOk.T9.2 spec_ScoresOk.B9 = true := by kernel_rfl
set_option maxHeartbeats 8000000 in
set_option maxRecDepth 100000 in
theorem spec_ScoresOk.calls (k : Nat) (A0 : Option Addr) (c0 : Nat) (l0 : List (S99)) (r : Bool) (w : World) (hr0 : Kd.C k99 w A0 l0.length l0) (hc0 : l0.length ≤ c0) (h : spec_ScoresOk.f k l0 = some r) :
  Calls Try.prog 43 #[.slice A0 l0.length c0] w fun e w' => e = .returned (.bool r) ∧ Below w.heap.size w w' := by
 have hu99 := Try.underlying99
 have HR0 := zq9 hr0
 have HC0 := zq9 hc0
 clear hr0 hc0
 have HB := zq9 (Below.refl w.heap.size w)
 have H : (spec_ScoresOk.l0 k l0 0) = some r := h
 clear h
 have H' := zq9 H
 clear H
 go_enter Try.func43, Try.ntmps43
 go_wp2
 go_loopg [3] k (fun kq v3 w' => ∃ (x3_1 : Int), v3 = .int .i64 x3_1 ∧ Aside0 (spec_ScoresOk.l0 kq l0 x3_1 = some r) ∧ Aside0 (kq ≤ k) ∧ Aside0 (Below w.heap.size w w'))
 case atStart => exact ⟨(0), (by first | rfl | (simp; done) | (simp [*]; done)), H', ⟨Nat.le_refl _⟩, ⟨by exact bl HB⟩⟩
 case round =>
  clear H'
  obtain ⟨x3_1, rfl, HA, HK1, HB⟩ := hrel
  cases gk with
  | zero => exact absurd HA.out (by simp [spec_ScoresOk.l0])
  | succ k1 =>
   have H := HA.out
   clear HA
   simp only [spec_ScoresOk.l0] at H
   by_cases c2 : x3_1 < (l0.length : Int)
   ·rw [if_pos c2] at H
    have c2b0 : decide (x3_1 < (l0.length : Int)) = true := decide_eq_true c2
    clear c2
    have HC3 := zq9 H
    clear H
    go_upto_region 4 with (fail)
    go_cut [43] (fun v43 wc => ∃ (kq : Nat) (x43_2 : Bool), v43 = .bool x43_2 ∧ Aside0 (spec_ScoresOk.j1 kq l0 x3_1 x43_2 = some r) ∧ Aside0 (kq ≤ k1) ∧ Aside0 (Below w.heap.size w wc))
    case first =>
     have H := HC3.out
     clear HC3
     by_cases c4 : 0 ≤ x3_1
     ·rw [if_pos c4] at H
      have c4b0 : decide (0 ≤ x3_1) = true := decide_eq_true c4
      clear c4
      (first | rw [c4b0] | (simp only [i64_w, i32_w]; rw [c4b0]) | skip)
      try go_wp2
      have n0_ := zq9 (zq4 HB.out)
      clear HB
      have HB := n0_
      clear n0_
      have p119 : 0 ≤ (x3_1 : Int) := of_decide_eq_true ‹_›
      have q119 : x3_1 < (l0.length : Int) := of_decide_eq_true ‹_›
      obtain ⟨ad119, e119, hx119_0, hx119_1⟩ := at_T99 HR0.out x3_1 p119 q119
      have hw119_1 := hx119_1
      have hw119_0 := hx119_0
      cases e119
      replace hx119_0 := (HB.out.cell (zq8 w _ hx119_0)).trans hx119_0
      replace hx119_1 := (HB.out.cell (zq8 w _ hx119_1)).trans hx119_1
      replace p119 := eq_true p119
      replace q119 := eq_true q119
      by_cases c5 : (((rd_T99 l0 x3_1).f0).size : Int) > 40
      ·rw [if_pos c5] at H
       have c5b0 : decide (40 < (((rd_T99 l0 x3_1).f0).size : Int)) = true := decide_eq_true c5
       have c5b1 : decide (40 < ((rd_T99 l0 x3_1).f0).size) = true := decide_eq_true (by omega)
       clear c5
       have H' := zq9 H
       clear H
       refine start_ (n := 33) (S := fun w' => w'.cell? (ad119.add ((x3_1).toNat * 2)) = some (.string ((rd_T99 l0 x3_1).f0)) ∧ w'.cell? ⟨(ad119.add ((x3_1).toNat * 2)).block, (ad119.add ((x3_1).toNat * 2)).off + 1, none⟩ = some (.int .i64 ((rd_T99 l0 x3_1).f1))) (ds := []) #[false, false, false, false, false, false, false, false, false, false, false, false, false, false, false, false, false, false, false, false, false, false, false, false, false, false, false, false, false, false, false, false, false] (by kernel_rfl) rfl rfl ⟨((HB.out.cell (zq8 w _ hw119_0)).trans hw119_0), ((HB.out.cell (zq8 w _ hw119_1)).trans hw119_1)⟩ (fun hHeld => ?_); refine with_tabW spec_ScoresOk.tab4 spec_ScoresOk.bits4 (fun HT_ HW_ => ?_)
       generalize wr.drew = w6 at HB hx119_0 hx119_1 hHeld ⊢
       refine pa HT_ 0 11 (zb 33 1) ?_
       refine pa HT_ 1 12 (zb 33 3) ?_
       refine pa HT_ 2 13 (zb 33 7) ?_
       refine pa HT_ 3 14 (zb 33 15) ?_
       refine take_ (i := 4) (N := some 15) (v := ?_) (a' := ?_) (zb 33 31) rfl rfl (take_ofW HT_.out HW_.out (by kernel_rfl)) (fun _ _ _ h => h) (Or.inl ⟨by rfl, ?_⟩) hHeld ?_ ?_
       rotate_left; ·rintro w' ⟨s0, s1⟩; go_simp; with_reducible rfl
       rotate_left; ·simp only [Act.put, zq0, zq1, zq2, i64_w, i32_w]; rfl
       refine pa HT_ 5 16 (zb 33 63) ?_
       refine pa HT_ 6 17 (zb 33 127) ?_
       refine pa HT_ 7 18 (zb 33 255) ?_
       refine pb HT_ 8 19 (zb 33 511) ?_
       refine pb HT_ 9 20 (zb 33 1023) ?_
       refine pb HT_ 10 21 (zb 33 2047) ?_
       refine pb HT_ 11 22 (zb 33 4095) ?_
       refine pb HT_ 12 23 (zb 33 8191) ?_
       refine pb HT_ 13 24 (zb 33 16383) ?_
       refine pb HT_ 14 25 (zb 33 32767) ?_
       refine pa HT_ 15 26 (zb 33 65535) ?_
       refine pa HT_ 16 27 (zb 33 131071) ?_
       refine pb HT_ 17 28 (zb 33 262143) ?_
       refine pb HT_ 18 29 (zb 33 524287) ?_
       refine pb HT_ 19 30 (zb 33 1048575) ?_
       refine pb HT_ 20 31 (zb 33 2097151) ?_
       refine pb HT_ 21 32 (zb 33 4194303) ?_
       refine pb HT_ 22 33 (zb 33 8388607) ?_
       refine pb HT_ 23 34 (zb 33 16777215) ?_
       refine pb HT_ 24 35 (zb 33 33554431) ?_
       refine pb HT_ 25 36 (zb 33 67108863) ?_
       refine pb HT_ 26 37 (zb 33 134217727) ?_
       refine pb HT_ 27 38 (zb 33 268435455) ?_
       refine pb HT_ 28 39 (zb 33 536870911) ?_
       refine pb HT_ 29 40 (zb 33 1073741823) ?_
       refine pb HT_ 30 41 (zb 33 2147483647) ?_
       refine pb HT_ 31 42 (zb 33 4294967295) ?_
       refine pa HT_ 32 43 (zb 33 8589934591) ?_
       refine done_ (done_of HT_.out (by kernel_rfl)) ?_
       try go_wp2
       go_meet
       case rel => exact ⟨_, (true), (by first | rfl | (simp; done) | (simp [*]; done)), H', ⟨by have := HK1.out; first | omega | exact Nat.le_refl _⟩, ⟨by exact bl HB⟩⟩
      ·rw [if_neg c5] at H
       have c5b0 : decide (40 < (((rd_T99 l0 x3_1).f0).size : Int)) = false := decide_eq_false c5
       have c5b1 : decide (40 < ((rd_T99 l0 x3_1).f0).size) = false := decide_eq_false (by omega)
       clear c5
       replace H := Option.bind_eq_some_iff.mp H
       obtain ⟨t121, A70, H⟩ := H
       try dsimp only at H
       have A7 := zq9 A70
       clear A70
       have p120 : 0 ≤ (x3_1 : Int) := of_decide_eq_true ‹_›
       have q120 : x3_1 < (l0.length : Int) := of_decide_eq_true ‹_›
       obtain ⟨ad120, e120, hx120_0, hx120_1⟩ := at_T99 HR0.out x3_1 p120 q120
       have hw120_1 := hx120_1
       have hw120_0 := hx120_0
       obtain rfl : ad119 = ad120 := (by injection e120)
       replace hx120_0 := (HB.out.cell (zq8 w _ hx120_0)).trans hx120_0
       replace hx120_1 := (HB.out.cell (zq8 w _ hx120_1)).trans hx120_1
       replace p120 := eq_true p120
       replace q120 := eq_true q120
       by_cases c8 : t121 = true
       ·subst c8
        have H1 : (if x3_1 > 0 then (if 0 ≤ (wrap64 (x3_1 - 1)) then (if (wrap64 (x3_1 - 1)) < (l0.length : Int) then ((spec_l3Ahead.f ((rd_T99 l0 (wrap64 (x3_1 - 1))).f0) ((rd_T99 l0 (wrap64 (x3_1 - 1))).f1) ((rd_T99 l0 x3_1).f0) ((rd_T99 l0 x3_1).f1)).bind fun t124 => (spec_ScoresOk.j1 k1 l0 x3_1 (!t124))) else (none)) else (none)) else (spec_ScoresOk.j1 k1 l0 x3_1 false)) = some r := by rw [if_pos rfl] at H; exact H
        clear H
        have H := H1
        clear H1
        by_cases c9 : x3_1 > 0
        ·rw [if_pos c9] at H
         have c9b0 : decide (0 < x3_1) = true := decide_eq_true c9
         clear c9
         obtain ⟨ji10, hji10⟩ : ∃ j_ : Int, (wrap64 (x3_1 - 1)) = j_ := ⟨_, rfl⟩
         replace H : (if 0 ≤ (ji10) then (if (ji10) < (l0.length : Int) then ((spec_l3Ahead.f ((rd_T99 l0 (ji10)).f0) ((rd_T99 l0 (ji10)).f1) ((rd_T99 l0 x3_1).f0) ((rd_T99 l0 x3_1).f1)).bind fun t124 => (spec_ScoresOk.j1 k1 l0 x3_1 (!t124))) else (none)) else (none)) = some r := by first | (rw [hji10] at H; exact H) | (simp only [hji10] at H ⊢; exact H)
         (try rw [hji10] at A7)
         have hji10w : (IntKind.i64.wrap (x3_1 - 1)) = ji10 := (i64_w _).trans hji10
         by_cases c11 : 0 ≤ (ji10)
         ·rw [if_pos c11] at H
          have c11b0 : decide (0 ≤ (ji10)) = true := decide_eq_true c11
          clear c11
          by_cases c12 : (ji10) < (l0.length : Int)
          ·rw [if_pos c12] at H
           have c12b0 : decide ((ji10) < (l0.length : Int)) = true := decide_eq_true c12
           clear c12
           replace H := Option.bind_eq_some_iff.mp H
           obtain ⟨t124, A130, H⟩ := H
           try dsimp only at H
           have A13 := zq9 A130
           clear A130
           have H' := zq9 H
           clear H
           have p122 : 0 ≤ ((ji10) : Int) := of_decide_eq_true ‹_›
           have q122 : (ji10) < (l0.length : Int) := of_decide_eq_true ‹_›
           obtain ⟨ad122, e122, hx122_0, hx122_1⟩ := at_T99 HR0.out (ji10) p122 q122
           have hw122_1 := hx122_1
           have hw122_0 := hx122_0
           obtain rfl : ad119 = ad122 := (by injection e122)
           replace hx122_0 := (HB.out.cell (zq8 w _ hx122_0)).trans hx122_0
           replace hx122_1 := (HB.out.cell (zq8 w _ hx122_1)).trans hx122_1
           replace p122 := eq_true p122
           replace q122 := eq_true q122
           have p123 : 0 ≤ (x3_1 : Int) := of_decide_eq_true ‹_›
           have q123 : x3_1 < (l0.length : Int) := of_decide_eq_true ‹_›
           obtain ⟨ad123, e123, hx123_0, hx123_1⟩ := at_T99 HR0.out x3_1 p123 q123
           have hw123_1 := hx123_1
           have hw123_0 := hx123_0
           obtain rfl : ad119 = ad123 := (by injection e123)
           replace hx123_0 := (HB.out.cell (zq8 w _ hx123_0)).trans hx123_0
           replace hx123_1 := (HB.out.cell (zq8 w _ hx123_1)).trans hx123_1
           replace p123 := eq_true p123
           replace q123 := eq_true q123
           refine start_ (n := 33) (S := fun w' => w'.cell? (ad119.add ((x3_1).toNat * 2)) = some (.string ((rd_T99 l0 x3_1).f0)) ∧ w'.cell? ⟨(ad119.add ((x3_1).toNat * 2)).block, (ad119.add ((x3_1).toNat * 2)).off + 1, none⟩ = some (.int .i64 ((rd_T99 l0 x3_1).f1)) ∧ w'.cell? (ad119.add ((x3_1).toNat * 2)) = some (.string ((rd_T99 l0 x3_1).f0)) ∧ w'.cell? ⟨(ad119.add ((x3_1).toNat * 2)).block, (ad119.add ((x3_1).toNat * 2)).off + 1, none⟩ = some (.int .i64 ((rd_T99 l0 x3_1).f1)) ∧ w'.cell? (ad119.add (((ji10)).toNat * 2)) = some (.string ((rd_T99 l0 (ji10)).f0)) ∧ w'.cell? ⟨(ad119.add (((ji10)).toNat * 2)).block, (ad119.add (((ji10)).toNat * 2)).off + 1, none⟩ = some (.int .i64 ((rd_T99 l0 (ji10)).f1)) ∧ w'.cell? (ad119.add ((x3_1).toNat * 2)) = some (.string ((rd_T99 l0 x3_1).f0)) ∧ w'.cell? ⟨(ad119.add ((x3_1).toNat * 2)).block, (ad119.add ((x3_1).toNat * 2)).off + 1, none⟩ = some (.int .i64 ((rd_T99 l0 x3_1).f1))) (ds := []) #[false, false, false, false, false, false, false, false, false, false, false, false, false, false, false, false, false, false, false, false, false, false, false, false, false, false, false, false, false, false, false, false, false] (by kernel_rfl) rfl rfl ⟨((HB.out.cell (zq8 w _ hw119_0)).trans hw119_0), ((HB.out.cell (zq8 w _ hw119_1)).trans hw119_1), ((HB.out.cell (zq8 w _ hw120_0)).trans hw120_0), ((HB.out.cell (zq8 w _ hw120_1)).trans hw120_1), ((HB.out.cell (zq8 w _ hw122_0)).trans hw122_0), ((HB.out.cell (zq8 w _ hw122_1)).trans hw122_1), ((HB.out.cell (zq8 w _ hw123_0)).trans hw123_0), ((HB.out.cell (zq8 w _ hw123_1)).trans hw123_1)⟩ (fun hHeld => ?_); refine with_tabW spec_ScoresOk.tab4 spec_ScoresOk.bits4 (fun HT_ HW_ => ?_)
           generalize wr.drew = w14 at HB hx119_0 hx119_1 hx120_0 hx120_1 hx122_0 hx122_1 hx123_0 hx123_1 hHeld ⊢
           refine pa HT_ 0 11 (zb 33 1) ?_
           refine pa HT_ 1 12 (zb 33 3) ?_
           refine pa HT_ 2 13 (zb 33 7) ?_
           refine pa HT_ 3 14 (zb 33 15) ?_
           refine take_ (i := 4) (N := some 15) (v := ?_) (a' := ?_) (zb 33 31) rfl rfl (take_ofW HT_.out HW_.out (by kernel_rfl)) (fun _ _ _ h => h) (Or.inl ⟨by rfl, ?_⟩) hHeld ?_ ?_
           rotate_left; ·rintro w' ⟨s0, s1, s2, s3, s4, s5, s6, s7⟩; go_simp; with_reducible rfl
           rotate_left; ·simp only [Act.put, zq0, zq1, zq2, i64_w, i32_w]; rfl
           refine pa HT_ 5 16 (zb 33 63) ?_
           refine pa HT_ 6 17 (zb 33 127) ?_
           refine pa HT_ 7 18 (zb 33 255) ?_
           refine pa HT_ 8 19 (zb 33 511) ?_
           refine pa HT_ 9 20 (zb 33 1023) ?_
           refine pa HT_ 10 21 (zb 33 2047) ?_
           refine pa HT_ 11 22 (zb 33 4095) ?_
           refine take_ (i := 12) (N := some 23) (v := ?_) (a' := ?_) (zb 33 8191) rfl rfl (take_ofW HT_.out HW_.out (by kernel_rfl)) (fun _ _ _ h => h) (Or.inl ⟨by rfl, ?_⟩) hHeld ?_ ?_
           rotate_left; ·rintro w' ⟨s0, s1, s2, s3, s4, s5, s6, s7⟩; go_simp; with_reducible rfl
           rotate_left; ·simp only [Act.put, zq0, zq1, zq2, i64_w, i32_w]; rfl
           refine one_ (i := 13) (N := some 24) (zb 33 16383) rfl rfl (one_of HT_.out (by kernel_rfl)) (by decide) (fun K hK => ?_)
           refine gs Try.func40 #[.int .i64 ((rd_T99 l0 x3_1).f1), .int .i64 (-1000000000), .int .i64 1000000000] ?_
           with_reducible refine (spec_l1In.calls ((rd_T99 l0 x3_1).f1) (-1000000000) 1000000000 true _ A7.out).mono ?_
           rintro e w' ⟨rfl, ⟨nd, rfl⟩⟩
           refine ⟨_, rfl, ?_⟩
           refine hK.out _ _ ⟨((HB.out.cell (zq8 w _ hw119_0)).trans hw119_0), ((HB.out.cell (zq8 w _ hw119_1)).trans hw119_1), ((HB.out.cell (zq8 w _ hw120_0)).trans hw120_0), ((HB.out.cell (zq8 w _ hw120_1)).trans hw120_1), ((HB.out.cell (zq8 w _ hw122_0)).trans hw122_0), ((HB.out.cell (zq8 w _ hw122_1)).trans hw122_1), ((HB.out.cell (zq8 w _ hw123_0)).trans hw123_0), ((HB.out.cell (zq8 w _ hw123_1)).trans hw123_1)⟩ (fun hHeld => ?_)
           clear hK K
           refine norm_ (a' := ?_) ?_ ?_
           rotate_left; ·show Act.put _ (some 24) _ = _; simp only [Act.put, zq0, zq1, zq2, i64_w, i32_w]; rfl
           refine pa HT_ 14 25 (zb 33 32767) ?_
           refine pa HT_ 15 26 (zb 33 65535) ?_
           refine pa HT_ 16 27 (zb 33 131071) ?_
           refine pa HT_ 17 28 (zb 33 262143) ?_
           refine pa HT_ 18 29 (zb 33 524287) ?_
           refine pa HT_ 19 30 (zb 33 1048575) ?_
           refine pa HT_ 20 31 (zb 33 2097151) ?_
           refine pa HT_ 21 32 (zb 33 4194303) ?_
           refine pa HT_ 22 33 (zb 33 8388607) ?_
           refine pa HT_ 23 34 (zb 33 16777215) ?_
           refine pa HT_ 25 36 (zb 33 50331647) ?_
           refine pa HT_ 26 37 (zb 33 117440511) ?_
           refine pa HT_ 27 38 (zb 33 251658239) ?_
           refine take_ (i := 24) (N := some 35) (v := ?_) (a' := ?_) (zb 33 268435455) rfl rfl (take_ofW HT_.out HW_.out (by kernel_rfl)) (fun _ _ _ h => h) (Or.inl ⟨by rfl, ?_⟩) hHeld ?_ ?_
           rotate_left; ·rintro w' ⟨s0, s1, s2, s3, s4, s5, s6, s7⟩; go_simp; with_reducible rfl
           rotate_left; ·simp only [Act.put, zq0, zq1, zq2, i64_w, i32_w]; rfl
           refine take_ (i := 28) (N := some 39) (v := ?_) (a' := ?_) (zb 33 536870911) rfl rfl (take_ofW HT_.out HW_.out (by kernel_rfl)) (fun _ _ _ h => h) (Or.inl ⟨by rfl, ?_⟩) hHeld ?_ ?_
           rotate_left; ·rintro w' ⟨s0, s1, s2, s3, s4, s5, s6, s7⟩; go_simp; with_reducible rfl
           rotate_left; ·simp only [Act.put, zq0, zq1, zq2, i64_w, i32_w]; rfl
           refine one_ (i := 29) (N := some 40) (zb 33 1073741823) rfl rfl (one_of HT_.out (by kernel_rfl)) (by decide) (fun K hK => ?_)
           refine goes_ Try.func81 (by kernel_rfl) rfl #[.agg #[.string ((rd_T99 l0 (ji10)).f0), .int .i64 ((rd_T99 l0 (ji10)).f1)], .agg #[.string ((rd_T99 l0 x3_1).f0), .int .i64 ((rd_T99 l0 x3_1).f1)]] (by rfl) rfl rfl (by (try simp only [List.map_toArray, List.map_cons, List.map_nil]); first | done | (simp only [hji10]; rfl) | rfl | (simp only [zq33, zq34]; rfl)) ?_
           with_reducible refine (spec_l3Ahead.calls ((rd_T99 l0 (ji10)).f0) ((rd_T99 l0 (ji10)).f1) ((rd_T99 l0 x3_1).f0) ((rd_T99 l0 x3_1).f1) t124 _ A13.out).mono ?_
           rintro e w15 ⟨rfl, hb⟩
           refine ⟨_, rfl, ?_⟩
           have n0_ := zq9 (zq27 (by exact bl HB) hb)
           clear HB
           have HB := n0_
           clear n0_
           (try clear hb)
           (try clear hb2)
           (try clear hk)
           (try clear hi)
           refine hK.out _ _ ⟨((HB.out.cell (zq8 w _ hw119_0)).trans hw119_0), ((HB.out.cell (zq8 w _ hw119_1)).trans hw119_1), ((HB.out.cell (zq8 w _ hw120_0)).trans hw120_0), ((HB.out.cell (zq8 w _ hw120_1)).trans hw120_1), ((HB.out.cell (zq8 w _ hw122_0)).trans hw122_0), ((HB.out.cell (zq8 w _ hw122_1)).trans hw122_1), ((HB.out.cell (zq8 w _ hw123_0)).trans hw123_0), ((HB.out.cell (zq8 w _ hw123_1)).trans hw123_1)⟩ (fun hHeld => ?_)
           clear hK K
           refine norm_ (a' := ?_) ?_ ?_
           rotate_left; ·show Act.put _ (some 40) _ = _; simp only [Act.put, zq0, zq1, zq2, i64_w, i32_w]; rfl
           refine pa HT_ 30 41 (zb 33 2147483647) ?_
           refine pa HT_ 31 42 (zb 33 4294967295) ?_
           refine pa HT_ 32 43 (zb 33 8589934591) ?_
           refine done_ (done_of HT_.out (by kernel_rfl)) ?_
           try go_wp2
           go_meet
           case rel => exact ⟨_, (!t124), (by first | rfl | (simp; done) | (simp [*]; done)), H', ⟨by have := HK1.out; first | omega | exact Nat.le_refl _⟩, ⟨by exact bl HB⟩⟩
          ·rw [if_neg c12] at H
           exact absurd H (by simp)
         ·rw [if_neg c11] at H
          exact absurd H (by simp)
        ·rw [if_neg c9] at H
         have c9b0 : decide (0 < x3_1) = false := decide_eq_false c9
         clear c9
         have H' := zq9 H
         clear H
         refine start_ (n := 33) (S := fun w' => w'.cell? (ad119.add ((x3_1).toNat * 2)) = some (.string ((rd_T99 l0 x3_1).f0)) ∧ w'.cell? ⟨(ad119.add ((x3_1).toNat * 2)).block, (ad119.add ((x3_1).toNat * 2)).off + 1, none⟩ = some (.int .i64 ((rd_T99 l0 x3_1).f1)) ∧ w'.cell? (ad119.add ((x3_1).toNat * 2)) = some (.string ((rd_T99 l0 x3_1).f0)) ∧ w'.cell? ⟨(ad119.add ((x3_1).toNat * 2)).block, (ad119.add ((x3_1).toNat * 2)).off + 1, none⟩ = some (.int .i64 ((rd_T99 l0 x3_1).f1))) (ds := []) #[false, false, false, false, false, false, false, false, false, false, false, false, false, false, false, false, false, false, false, false, false, false, false, false, false, false, false, false, false, false, false, false, false] (by kernel_rfl) rfl rfl ⟨((HB.out.cell (zq8 w _ hw119_0)).trans hw119_0), ((HB.out.cell (zq8 w _ hw119_1)).trans hw119_1), ((HB.out.cell (zq8 w _ hw120_0)).trans hw120_0), ((HB.out.cell (zq8 w _ hw120_1)).trans hw120_1)⟩ (fun hHeld => ?_); refine with_tabW spec_ScoresOk.tab4 spec_ScoresOk.bits4 (fun HT_ HW_ => ?_)
         generalize wr.drew = w16 at HB hx119_0 hx119_1 hx120_0 hx120_1 hHeld ⊢
         refine pa HT_ 0 11 (zb 33 1) ?_
         refine pa HT_ 1 12 (zb 33 3) ?_
         refine pa HT_ 2 13 (zb 33 7) ?_
         refine pa HT_ 3 14 (zb 33 15) ?_
         refine take_ (i := 4) (N := some 15) (v := ?_) (a' := ?_) (zb 33 31) rfl rfl (take_ofW HT_.out HW_.out (by kernel_rfl)) (fun _ _ _ h => h) (Or.inl ⟨by rfl, ?_⟩) hHeld ?_ ?_
         rotate_left; ·rintro w' ⟨s0, s1, s2, s3⟩; go_simp; with_reducible rfl
         rotate_left; ·simp only [Act.put, zq0, zq1, zq2, i64_w, i32_w]; rfl
         refine pa HT_ 5 16 (zb 33 63) ?_
         refine pa HT_ 6 17 (zb 33 127) ?_
         refine pa HT_ 7 18 (zb 33 255) ?_
         refine pa HT_ 8 19 (zb 33 511) ?_
         refine pa HT_ 9 20 (zb 33 1023) ?_
         refine pa HT_ 10 21 (zb 33 2047) ?_
         refine pa HT_ 11 22 (zb 33 4095) ?_
         refine take_ (i := 12) (N := some 23) (v := ?_) (a' := ?_) (zb 33 8191) rfl rfl (take_ofW HT_.out HW_.out (by kernel_rfl)) (fun _ _ _ h => h) (Or.inl ⟨by rfl, ?_⟩) hHeld ?_ ?_
         rotate_left; ·rintro w' ⟨s0, s1, s2, s3⟩; go_simp; with_reducible rfl
         rotate_left; ·simp only [Act.put, zq0, zq1, zq2, i64_w, i32_w]; rfl
         refine one_ (i := 13) (N := some 24) (zb 33 16383) rfl rfl (one_of HT_.out (by kernel_rfl)) (by decide) (fun K hK => ?_)
         refine gs Try.func40 #[.int .i64 ((rd_T99 l0 x3_1).f1), .int .i64 (-1000000000), .int .i64 1000000000] ?_
         with_reducible refine (spec_l1In.calls ((rd_T99 l0 x3_1).f1) (-1000000000) 1000000000 true _ A7.out).mono ?_
         rintro e w' ⟨rfl, ⟨nd, rfl⟩⟩
         refine ⟨_, rfl, ?_⟩
         refine hK.out _ _ ⟨((HB.out.cell (zq8 w _ hw119_0)).trans hw119_0), ((HB.out.cell (zq8 w _ hw119_1)).trans hw119_1), ((HB.out.cell (zq8 w _ hw120_0)).trans hw120_0), ((HB.out.cell (zq8 w _ hw120_1)).trans hw120_1)⟩ (fun hHeld => ?_)
         clear hK K
         refine norm_ (a' := ?_) ?_ ?_
         rotate_left; ·show Act.put _ (some 24) _ = _; simp only [Act.put, zq0, zq1, zq2, i64_w, i32_w]; rfl
         refine pa HT_ 14 25 (zb 33 32767) ?_
         refine pa HT_ 15 26 (zb 33 65535) ?_
         refine pa HT_ 16 27 (zb 33 131071) ?_
         refine pa HT_ 17 28 (zb 33 262143) ?_
         refine pa HT_ 18 29 (zb 33 524287) ?_
         refine pa HT_ 19 30 (zb 33 1048575) ?_
         refine pb HT_ 20 31 (zb 33 2097151) ?_
         refine pb HT_ 21 32 (zb 33 4194303) ?_
         refine pb HT_ 22 33 (zb 33 8388607) ?_
         refine pb HT_ 23 34 (zb 33 16777215) ?_
         refine pb HT_ 24 35 (zb 33 33554431) ?_
         refine pb HT_ 25 36 (zb 33 67108863) ?_
         refine pb HT_ 26 37 (zb 33 134217727) ?_
         refine pb HT_ 27 38 (zb 33 268435455) ?_
         refine pb HT_ 28 39 (zb 33 536870911) ?_
         refine pb HT_ 29 40 (zb 33 1073741823) ?_
         refine pb HT_ 30 41 (zb 33 2147483647) ?_
         refine pa HT_ 31 42 (zb 33 4294967295) ?_
         refine pa HT_ 32 43 (zb 33 8589934591) ?_
         refine done_ (done_of HT_.out (by kernel_rfl)) ?_
         try go_wp2
         go_meet
         case rel => exact ⟨_, (false), (by first | rfl | (simp; done) | (simp [*]; done)), H', ⟨by have := HK1.out; first | omega | exact Nat.le_refl _⟩, ⟨by exact bl HB⟩⟩
       ·replace c8 := Bool.eq_false_iff.mpr c8
        subst c8
        have H1 : (spec_ScoresOk.j1 k1 l0 x3_1 true) = some r := by rw [if_neg (show ¬ (false = true) by decide)] at H; exact H
        clear H
        have H := H1
        clear H1
        have H' := zq9 H
        clear H
        refine start_ (n := 33) (S := fun w' => w'.cell? (ad119.add ((x3_1).toNat * 2)) = some (.string ((rd_T99 l0 x3_1).f0)) ∧ w'.cell? ⟨(ad119.add ((x3_1).toNat * 2)).block, (ad119.add ((x3_1).toNat * 2)).off + 1, none⟩ = some (.int .i64 ((rd_T99 l0 x3_1).f1)) ∧ w'.cell? (ad119.add ((x3_1).toNat * 2)) = some (.string ((rd_T99 l0 x3_1).f0)) ∧ w'.cell? ⟨(ad119.add ((x3_1).toNat * 2)).block, (ad119.add ((x3_1).toNat * 2)).off + 1, none⟩ = some (.int .i64 ((rd_T99 l0 x3_1).f1))) (ds := []) #[false, false, false, false, false, false, false, false, false, false, false, false, false, false, false, false, false, false, false, false, false, false, false, false, false, false, false, false, false, false, false, false, false] (by kernel_rfl) rfl rfl ⟨((HB.out.cell (zq8 w _ hw119_0)).trans hw119_0), ((HB.out.cell (zq8 w _ hw119_1)).trans hw119_1), ((HB.out.cell (zq8 w _ hw120_0)).trans hw120_0), ((HB.out.cell (zq8 w _ hw120_1)).trans hw120_1)⟩ (fun hHeld => ?_); refine with_tabW spec_ScoresOk.tab4 spec_ScoresOk.bits4 (fun HT_ HW_ => ?_)
        generalize wr.drew = w17 at HB hx119_0 hx119_1 hx120_0 hx120_1 hHeld ⊢
        refine pa HT_ 0 11 (zb 33 1) ?_
        refine pa HT_ 1 12 (zb 33 3) ?_
        refine pa HT_ 2 13 (zb 33 7) ?_
        refine pa HT_ 3 14 (zb 33 15) ?_
        refine take_ (i := 4) (N := some 15) (v := ?_) (a' := ?_) (zb 33 31) rfl rfl (take_ofW HT_.out HW_.out (by kernel_rfl)) (fun _ _ _ h => h) (Or.inl ⟨by rfl, ?_⟩) hHeld ?_ ?_
        rotate_left; ·rintro w' ⟨s0, s1, s2, s3⟩; go_simp; with_reducible rfl
        rotate_left; ·simp only [Act.put, zq0, zq1, zq2, i64_w, i32_w]; rfl
        refine pa HT_ 5 16 (zb 33 63) ?_
        refine pa HT_ 6 17 (zb 33 127) ?_
        refine pa HT_ 7 18 (zb 33 255) ?_
        refine pa HT_ 8 19 (zb 33 511) ?_
        refine pa HT_ 9 20 (zb 33 1023) ?_
        refine pa HT_ 10 21 (zb 33 2047) ?_
        refine pa HT_ 11 22 (zb 33 4095) ?_
        refine take_ (i := 12) (N := some 23) (v := ?_) (a' := ?_) (zb 33 8191) rfl rfl (take_ofW HT_.out HW_.out (by kernel_rfl)) (fun _ _ _ h => h) (Or.inl ⟨by rfl, ?_⟩) hHeld ?_ ?_
        rotate_left; ·rintro w' ⟨s0, s1, s2, s3⟩; go_simp; with_reducible rfl
        rotate_left; ·simp only [Act.put, zq0, zq1, zq2, i64_w, i32_w]; rfl
        refine one_ (i := 13) (N := some 24) (zb 33 16383) rfl rfl (one_of HT_.out (by kernel_rfl)) (by decide) (fun K hK => ?_)
        refine gs Try.func40 #[.int .i64 ((rd_T99 l0 x3_1).f1), .int .i64 (-1000000000), .int .i64 1000000000] ?_
        with_reducible refine (spec_l1In.calls ((rd_T99 l0 x3_1).f1) (-1000000000) 1000000000 false _ A7.out).mono ?_
        rintro e w' ⟨rfl, ⟨nd, rfl⟩⟩
        refine ⟨_, rfl, ?_⟩
        refine hK.out _ _ ⟨((HB.out.cell (zq8 w _ hw119_0)).trans hw119_0), ((HB.out.cell (zq8 w _ hw119_1)).trans hw119_1), ((HB.out.cell (zq8 w _ hw120_0)).trans hw120_0), ((HB.out.cell (zq8 w _ hw120_1)).trans hw120_1)⟩ (fun hHeld => ?_)
        clear hK K
        refine norm_ (a' := ?_) ?_ ?_
        rotate_left; ·show Act.put _ (some 24) _ = _; simp only [Act.put, zq0, zq1, zq2, i64_w, i32_w]; rfl
        refine pa HT_ 14 25 (zb 33 32767) ?_
        refine pa HT_ 15 26 (zb 33 65535) ?_
        refine pa HT_ 16 27 (zb 33 131071) ?_
        refine pb HT_ 17 28 (zb 33 262143) ?_
        refine pb HT_ 18 29 (zb 33 524287) ?_
        refine pb HT_ 19 30 (zb 33 1048575) ?_
        refine pb HT_ 20 31 (zb 33 2097151) ?_
        refine pb HT_ 21 32 (zb 33 4194303) ?_
        refine pb HT_ 22 33 (zb 33 8388607) ?_
        refine pb HT_ 23 34 (zb 33 16777215) ?_
        refine pb HT_ 24 35 (zb 33 33554431) ?_
        refine pb HT_ 25 36 (zb 33 67108863) ?_
        refine pb HT_ 26 37 (zb 33 134217727) ?_
        refine pb HT_ 27 38 (zb 33 268435455) ?_
        refine pb HT_ 28 39 (zb 33 536870911) ?_
        refine pb HT_ 29 40 (zb 33 1073741823) ?_
        refine pb HT_ 30 41 (zb 33 2147483647) ?_
        refine pb HT_ 31 42 (zb 33 4294967295) ?_
        refine pa HT_ 32 43 (zb 33 8589934591) ?_
        refine done_ (done_of HT_.out (by kernel_rfl)) ?_
        try go_wp2
        go_meet
        case rel => exact ⟨_, (true), (by first | rfl | (simp; done) | (simp [*]; done)), H', ⟨by have := HK1.out; first | omega | exact Nat.le_refl _⟩, ⟨by exact bl HB⟩⟩
     ·rw [if_neg c4] at H
      exact absurd H (by simp)
    case rest =>
     clear HC3
     try clear c1
     try clear p1
     try clear q1
     try clear hx1
     try clear p2
     try clear c4
     try clear c8
     try clear c9
     try clear c9b0
     try clear c11
     try clear p11
     try clear q11
     try clear hx11
     try clear c12
     try clear p12
     try clear q12
     try clear hx12
     try clear hx119_0
     try clear hx119_1
     try clear hx120_0
     try clear hx120_1
     try clear p119
     try clear p120
     try clear q119
     try clear q120
     obtain ⟨kq, x43_2, rfl, HA, HJ2, HB⟩ := hcut
     cases kq with
     | zero => exact absurd HA.out (by simp [spec_ScoresOk.j1])
     | succ kj2 =>
      have H := HA.out
      clear HA
      simp only [spec_ScoresOk.j1] at H
      by_cases c18 : x43_2 = true
      ·subst c18
       have H1 : (some false) = some r := by rw [if_pos rfl] at H; exact H
       clear H
       have H := H1
       clear H1
       obtain rfl := Option.some.inj H
       go_wp2
       go_ret
       exact fz (by exact bl HB)
      ·replace c18 := Bool.eq_false_iff.mpr c18
       subst c18
       have H1 : (spec_ScoresOk.l1 kj2 l0 x3_1 0) = some r := by rw [if_neg (show ¬ (false = true) by decide)] at H; exact H
       clear H
       have H := H1
       clear H1
       have H' := zq9 H
       clear H
       go_wp2
       go_loopg [4] kj2 (fun kq v4 w' => ∃ (x4_3 : Int), v4 = .int .i64 x4_3 ∧ Aside0 (spec_ScoresOk.l1 kq l0 x3_1 x4_3 = some r) ∧ Aside0 (kq ≤ kj2) ∧ Aside0 (Below w.heap.size w w'))
       case atStart => exact ⟨(0), (by first | rfl | (simp; done) | (simp [*]; done)), H', ⟨Nat.le_refl _⟩, ⟨by exact bl HB⟩⟩
       case round =>
        clear H'
        try clear c1
        try clear p1
        try clear q1
        try clear hx1
        try clear p2
        try clear c4
        try clear c8
        try clear c9
        try clear c9b0
        try clear c11
        try clear p11
        try clear q11
        try clear hx11
        try clear c12
        try clear p12
        try clear q12
        try clear hx12
        try clear c18
        try clear hx119_0
        try clear hx119_1
        try clear hx120_0
        try clear hx120_1
        try clear p1
        try clear p11
        try clear p119
        try clear p12
        try clear p120
        try clear p2
        try clear q1
        try clear q11
        try clear q119
        try clear q12
        try clear q120
        obtain ⟨x4_3, rfl, HA, HK3, HB⟩ := hrel
        cases gk with
        | zero => exact absurd HA.out (by simp [spec_ScoresOk.l1])
        | succ k3 =>
         have H := HA.out
         clear HA
         simp only [spec_ScoresOk.l1] at H
         by_cases c19 : x4_3 < x3_1
         ·rw [if_pos c19] at H
          have c19b0 : decide (x4_3 < x3_1) = true := decide_eq_true c19
          clear c19
          by_cases c20 : 0 ≤ x4_3
          ·rw [if_pos c20] at H
           have c20b0 : decide (0 ≤ x4_3) = true := decide_eq_true c20
           clear c20
           by_cases c21 : x4_3 < (l0.length : Int)
           ·rw [if_pos c21] at H
            have c21b0 : decide (x4_3 < (l0.length : Int)) = true := decide_eq_true c21
            clear c21
            by_cases c22 : 0 ≤ x3_1
            ·rw [if_pos c22] at H
             have c22b0 : decide (0 ≤ x3_1) = true := decide_eq_true c22
             clear c22
             by_cases c23 : x3_1 < (l0.length : Int)
             ·rw [if_pos c23] at H
              have c23b0 : decide (x3_1 < (l0.length : Int)) = true := decide_eq_true c23
              clear c23
              try go_wp2
              have n0_ := zq9 (zq4 HB.out)
              clear HB
              have HB := n0_
              clear n0_
              have p125 : 0 ≤ (x4_3 : Int) := of_decide_eq_true ‹_›
              have q125 : x4_3 < (l0.length : Int) := of_decide_eq_true ‹_›
              obtain ⟨ad125, e125, hx125_0, hx125_1⟩ := at_T99 HR0.out x4_3 p125 q125
              have hw125_1 := hx125_1
              have hw125_0 := hx125_0
              cases e125
              replace hx125_0 := (HB.out.cell (zq8 w _ hx125_0)).trans hx125_0
              replace hx125_1 := (HB.out.cell (zq8 w _ hx125_1)).trans hx125_1
              replace p125 := eq_true p125
              replace q125 := eq_true q125
              have p126 : 0 ≤ (x3_1 : Int) := of_decide_eq_true ‹_›
              have q126 : x3_1 < (l0.length : Int) := of_decide_eq_true ‹_›
              obtain ⟨ad126, e126, hx126_0, hx126_1⟩ := at_T99 HR0.out x3_1 p126 q126
              have hw126_1 := hx126_1
              have hw126_0 := hx126_0
              obtain rfl : ad125 = ad126 := (by injection e126)
              replace hx126_0 := (HB.out.cell (zq8 w _ hx126_0)).trans hx126_0
              replace hx126_1 := (HB.out.cell (zq8 w _ hx126_1)).trans hx126_1
              replace p126 := eq_true p126
              replace q126 := eq_true q126
              refine start_ (n := 11) (S := fun w' => w'.cell? (ad125.add ((x4_3).toNat * 2)) = some (.string ((rd_T99 l0 x4_3).f0)) ∧ w'.cell? ⟨(ad125.add ((x4_3).toNat * 2)).block, (ad125.add ((x4_3).toNat * 2)).off + 1, none⟩ = some (.int .i64 ((rd_T99 l0 x4_3).f1)) ∧ w'.cell? (ad125.add ((x3_1).toNat * 2)) = some (.string ((rd_T99 l0 x3_1).f0)) ∧ w'.cell? ⟨(ad125.add ((x3_1).toNat * 2)).block, (ad125.add ((x3_1).toNat * 2)).off + 1, none⟩ = some (.int .i64 ((rd_T99 l0 x3_1).f1))) (ds := []) #[false, false, false, false, false, false, false, false, false, false, false] (by kernel_rfl) rfl rfl ⟨((HB.out.cell (zq8 w _ hw125_0)).trans hw125_0), ((HB.out.cell (zq8 w _ hw125_1)).trans hw125_1), ((HB.out.cell (zq8 w _ hw126_0)).trans hw126_0), ((HB.out.cell (zq8 w _ hw126_1)).trans hw126_1)⟩ (fun hHeld => ?_); refine with_tabW spec_ScoresOk.tab9 spec_ScoresOk.bits9 (fun HT_ HW_ => ?_)
              generalize wr.drew = w25 at HB hx125_0 hx125_1 hx126_0 hx126_1 hHeld ⊢
              refine pa HT_ 0 49 (zb 11 1) ?_
              refine pa HT_ 1 50 (zb 11 3) ?_
              refine pa HT_ 2 51 (zb 11 7) ?_
              refine pa HT_ 3 52 (zb 11 15) ?_
              refine pa HT_ 5 54 (zb 11 47) ?_
              refine pa HT_ 6 55 (zb 11 111) ?_
              refine pa HT_ 7 56 (zb 11 239) ?_
              refine pa HT_ 8 57 (zb 11 495) ?_
              refine take_ (i := 4) (N := some 53) (v := ?_) (a' := ?_) (zb 11 511) rfl rfl (take_ofW HT_.out HW_.out (by kernel_rfl)) (fun _ _ _ h => h) (Or.inl ⟨by rfl, ?_⟩) hHeld ?_ ?_
              rotate_left; ·rintro w' ⟨s0, s1, s2, s3⟩; go_simp; with_reducible rfl
              rotate_left; ·simp only [Act.put, zq0, zq1, zq2, i64_w, i32_w]; rfl
              refine take_ (i := 9) (N := some 58) (v := ?_) (a' := ?_) (zb 11 1023) rfl rfl (take_ofW HT_.out HW_.out (by kernel_rfl)) (fun _ _ _ h => h) (Or.inl ⟨by rfl, ?_⟩) hHeld ?_ ?_
              rotate_left; ·rintro w' ⟨s0, s1, s2, s3⟩; go_simp; with_reducible rfl
              rotate_left; ·simp only [Act.put, zq0, zq1, zq2, i64_w, i32_w]; rfl
              refine pa HT_ 10 59 (zb 11 2047) ?_
              refine done_ (done_of HT_.out (by kernel_rfl)) ?_
              by_cases c24 : ((rd_T99 l0 x4_3).f0).toList = ((rd_T99 l0 x3_1).f0).toList
              ·rw [if_pos c24] at H
               have c24b0 : (((rd_T99 l0 x4_3).f0).toList == ((rd_T99 l0 x3_1).f0).toList) = true := beq_iff_eq.mpr c24
               have c24b1 : (((rd_T99 l0 x4_3).f0).toList != ((rd_T99 l0 x3_1).f0).toList) = false := bne_eq_false_iff_eq.mpr c24
               clear c24
               obtain rfl := Option.some.inj H
               try rw [c24b0]; try rw [c24b1]
               try go_wp2
               go_ret
               exact fz (by exact bl HB)
              ·rw [if_neg c24] at H
               have c24b0 : (((rd_T99 l0 x4_3).f0).toList == ((rd_T99 l0 x3_1).f0).toList) = false := beq_eq_false_iff_ne.mpr c24
               have c24b1 : (((rd_T99 l0 x4_3).f0).toList != ((rd_T99 l0 x3_1).f0).toList) = true := bne_iff_ne.mpr c24
               have H' := zq9 H
               clear H
               try rw [c24b0]; try rw [c24b1]
               try go_wp2
               go_roundg k3
               case measure => have := HK1.out; have := HJ2.out; have := HK3.out; omega
               case rel => exact ⟨(wrap64 (x4_3 + 1)), (by first | rfl | (simp; done) | (simp [*]; done)), H', ⟨by have := HK1.out; have := HJ2.out; have := HK3.out; omega⟩, ⟨by exact bl HB⟩⟩
             ·rw [if_neg c23] at H
              exact absurd H (by simp)
            ·rw [if_neg c22] at H
             exact absurd H (by simp)
           ·rw [if_neg c21] at H
            exact absurd H (by simp)
          ·rw [if_neg c20] at H
           exact absurd H (by simp)
         ·rw [if_neg c19] at H
          have c19b0 : decide (x4_3 < x3_1) = false := decide_eq_false c19
          clear c19
          have H' := zq9 H
          clear H
          go_wp2
          go_roundg k3
          case measure => have := HK1.out; have := HJ2.out; have := HK3.out; omega
          case rel => exact ⟨(wrap64 (x3_1 + 1)), (by first | rfl | (simp; done) | (simp [*]; done)), H', ⟨by have := HK1.out; have := HJ2.out; have := HK3.out; omega⟩, ⟨by exact bl HB⟩⟩
   ·rw [if_neg c2] at H
    have c2b0 : decide (x3_1 < (l0.length : Int)) = false := decide_eq_false c2
    clear c2
    obtain rfl := Option.some.inj H
    go_wp2
    go_ret
    exact fz (by exact bl HB)
set_option maxHeartbeats 8000000 in
set_option maxRecDepth 100000 in
theorem spec_FieldsOk.calls (k : Nat) (A0 : Option Addr) (c0 : Nat) (l0 : List (S101)) (r : Bool) (w : World) (hr0 : Kd.C k101 w A0 l0.length l0) (hc0 : l0.length ≤ c0) (h : spec_FieldsOk.f k l0 = some r) :
  Calls Try.prog 44 #[.slice A0 l0.length c0] w fun e w' => e = .returned (.bool r) ∧ Drawn0 w w' := by
 have HR0 := zq9 hr0
 have HC0 := zq9 hc0
 clear hr0 hc0
 have H : (spec_FieldsOk.l0 k l0 0) = some r := h
 clear h
 have H' := zq9 H
 clear H
 go_enter Try.func44, Try.ntmps44
 go_wp2
 repeat (go_quiet (fail); try go_wp2)
 go_loopg [3] k (fun kq v3 w' => ∃ (x3_1 : Int), v3 = .int .i64 x3_1 ∧ Aside0 (spec_FieldsOk.l0 kq l0 x3_1 = some r) ∧ Aside0 (kq ≤ k) ∧ Drawn0 w w')
 case atStart => exact ⟨(0), (by first | rfl | (simp; done) | (simp [*]; done)), H', ⟨Nat.le_refl _⟩, by repeat (first | exact Drawn0.refl _ | apply Drawn0.step)⟩
 case round =>
  clear H'
  obtain ⟨x3_1, rfl, HA, HK1, ⟨m1, rfl⟩⟩ := hrel
  cases gk with
  | zero => exact absurd HA.out (by simp [spec_FieldsOk.l0])
  | succ k1 =>
   have H := HA.out
   clear HA
   simp only [spec_FieldsOk.l0] at H
   by_cases c2 : x3_1 < (l0.length : Int)
   ·rw [if_pos c2] at H
    have c2b0 : decide (x3_1 < (l0.length : Int)) = true := decide_eq_true c2
    clear c2
    by_cases c3 : 0 ≤ x3_1
    ·rw [if_pos c3] at H
     have c3b0 : decide (0 ≤ x3_1) = true := decide_eq_true c3
     clear c3
     have p127 : 0 ≤ (x3_1 : Int) := of_decide_eq_true ‹_›
     have q127 : x3_1 < (l0.length : Int) := of_decide_eq_true ‹_›
     obtain ⟨ad127, e127, hx127_0, hx127_1⟩ := at_T101 HR0.out x3_1 p127 q127
     cases e127
     replace p127 := eq_true p127
     replace q127 := eq_true q127
     by_cases c4 : (((rd_T101 l0 x3_1).f0).size : Int) > 40
     ·rw [if_pos c4] at H
      have c4b0 : decide (40 < (((rd_T101 l0 x3_1).f0).size : Int)) = true := decide_eq_true c4
      have c4b1 : decide (40 < ((rd_T101 l0 x3_1).f0).size) = true := decide_eq_true (by omega)
      clear c4
      obtain rfl := Option.some.inj H
      go_wp2
      repeat (go_quiet (fail); try go_wp2)
      go_ret
      exact ⟨by first | rfl | (simp; done) | (simp [*]; done), by repeat (first | exact Drawn0.refl _ | apply Drawn0.step)⟩
     ·rw [if_neg c4] at H
      have c4b0 : decide (40 < (((rd_T101 l0 x3_1).f0).size : Int)) = false := decide_eq_false c4
      have c4b1 : decide (40 < ((rd_T101 l0 x3_1).f0).size) = false := decide_eq_false (by omega)
      clear c4
      have p128 : 0 ≤ (x3_1 : Int) := of_decide_eq_true ‹_›
      have q128 : x3_1 < (l0.length : Int) := of_decide_eq_true ‹_›
      obtain ⟨ad128, e128, hx128_0, hx128_1⟩ := at_T101 HR0.out x3_1 p128 q128
      obtain rfl : ad127 = ad128 := (by injection e128)
      replace p128 := eq_true p128
      replace q128 := eq_true q128
      by_cases c5 : (((rd_T101 l0 x3_1).f1).size : Int) > 40
      ·rw [if_pos c5] at H
       have c5b0 : decide (40 < (((rd_T101 l0 x3_1).f1).size : Int)) = true := decide_eq_true c5
       have c5b1 : decide (40 < ((rd_T101 l0 x3_1).f1).size) = true := decide_eq_true (by omega)
       clear c5
       obtain rfl := Option.some.inj H
       go_wp2
       repeat (go_quiet (fail); try go_wp2)
       go_ret
       exact ⟨by first | rfl | (simp; done) | (simp [*]; done), by repeat (first | exact Drawn0.refl _ | apply Drawn0.step)⟩
      ·rw [if_neg c5] at H
       have c5b0 : decide (40 < (((rd_T101 l0 x3_1).f1).size : Int)) = false := decide_eq_false c5
       have c5b1 : decide (40 < ((rd_T101 l0 x3_1).f1).size) = false := decide_eq_false (by omega)
       clear c5
       by_cases c6 : x3_1 > 0
       ·rw [if_pos c6] at H
        have c6b0 : decide (0 < x3_1) = true := decide_eq_true c6
        clear c6
        obtain ⟨ji7, hji7⟩ : ∃ j_ : Int, (wrap64 (x3_1 - 1)) = j_ := ⟨_, rfl⟩
        replace H : (if 0 ≤ (ji7) then (if (ji7) < (l0.length : Int) then (if ((Op.bytesLess (((rd_T101 l0 (ji7)).f0).toList) (((rd_T101 l0 x3_1).f0).toList)) = true) then (spec_FieldsOk.l0 k1 l0 (wrap64 (x3_1 + 1))) else (some false)) else (none)) else (none)) = some r := by first | (rw [hji7] at H; exact H) | (simp only [hji7] at H ⊢; exact H)
        have hji7w : (IntKind.i64.wrap (x3_1 - 1)) = ji7 := (i64_w _).trans hji7
        by_cases c8 : 0 ≤ (ji7)
        ·rw [if_pos c8] at H
         have c8b0 : decide (0 ≤ (ji7)) = true := decide_eq_true c8
         clear c8
         by_cases c9 : (ji7) < (l0.length : Int)
         ·rw [if_pos c9] at H
          have c9b0 : decide ((ji7) < (l0.length : Int)) = true := decide_eq_true c9
          clear c9
          have p129 : 0 ≤ ((ji7) : Int) := of_decide_eq_true ‹_›
          have q129 : (ji7) < (l0.length : Int) := of_decide_eq_true ‹_›
          obtain ⟨ad129, e129, hx129_0, hx129_1⟩ := at_T101 HR0.out (ji7) p129 q129
          obtain rfl : ad127 = ad129 := (by injection e129)
          replace p129 := eq_true p129
          replace q129 := eq_true q129
          have p130 : 0 ≤ (x3_1 : Int) := of_decide_eq_true ‹_›
          have q130 : x3_1 < (l0.length : Int) := of_decide_eq_true ‹_›
          obtain ⟨ad130, e130, hx130_0, hx130_1⟩ := at_T101 HR0.out x3_1 p130 q130
          obtain rfl : ad127 = ad130 := (by injection e130)
          replace p130 := eq_true p130
          replace q130 := eq_true q130
          go_wp2
          by_cases c10 : ((Op.bytesLess (((rd_T101 l0 (ji7)).f0).toList) (((rd_T101 l0 x3_1).f0).toList)) = true)
          ·rw [if_pos c10] at H
           have c10b0 : (Op.bytesLess (((rd_T101 l0 (ji7)).f0).toList) (((rd_T101 l0 x3_1).f0).toList)) = true := c10
           clear c10
           have H' := zq9 H
           clear H
           repeat (go_quiet (fail); try go_wp2)
           go_roundg k1
           case measure => have := HK1.out; omega
           case rel => exact ⟨(wrap64 (x3_1 + 1)), (by first | rfl | (simp; done) | (simp [*]; done)), H', ⟨by have := HK1.out; omega⟩, by repeat (first | exact Drawn0.refl _ | apply Drawn0.step)⟩
          ·rw [if_neg c10] at H
           have c10b0 : (Op.bytesLess (((rd_T101 l0 (ji7)).f0).toList) (((rd_T101 l0 x3_1).f0).toList)) = false := by simpa using c10
           clear c10
           obtain rfl := Option.some.inj H
           repeat (go_quiet (fail); try go_wp2)
           go_ret
           exact ⟨by first | rfl | (simp; done) | (simp only [← hji7] <;> (first | rfl | simp)) | (simp [*]; done), by repeat (first | exact Drawn0.refl _ | apply Drawn0.step)⟩
         ·rw [if_neg c9] at H
          exact absurd H (by simp)
        ·rw [if_neg c8] at H
         exact absurd H (by simp)
       ·rw [if_neg c6] at H
        have c6b0 : decide (0 < x3_1) = false := decide_eq_false c6
        clear c6
        have H' := zq9 H
        clear H
        go_wp2
        repeat (go_quiet (fail); try go_wp2)
        go_roundg k1
        case measure => have := HK1.out; omega
        case rel => exact ⟨(wrap64 (x3_1 + 1)), (by first | rfl | (simp; done) | (simp [*]; done)), H', ⟨by have := HK1.out; omega⟩, by repeat (first | exact Drawn0.refl _ | apply Drawn0.step)⟩
    ·rw [if_neg c3] at H
     exact absurd H (by simp)
   ·rw [if_neg c2] at H
    have c2b0 : decide (x3_1 < (l0.length : Int)) = false := decide_eq_false c2
    clear c2
    obtain rfl := Option.some.inj H
    go_wp2
    repeat (go_quiet (fail); try go_wp2)
    go_ret
    exact ⟨by first | rfl | (simp; done) | (simp [*]; done), by repeat (first | exact Drawn0.refl _ | apply Drawn0.step)⟩
set_option maxHeartbeats 8000000 in
set_option maxRecDepth 100000 in
theorem spec_EntryOk.calls (k : Nat) (a0_0 : ByteArray) (a0_1 : Int) (a0_2 : Int) (a0_3 : ByteArray) (A0_4 : Option Addr) (c0_4 : Nat) (l0_4 : List ByteArray) (A0_5 : Option Addr) (c0_5 : Nat) (l0_5 : List (S99)) (A0_6 : Option Addr) (c0_6 : Nat) (l0_6 : List (S101)) (r : Bool) (w : World) (hr0_4 : Kd.C Kd.string w A0_4 l0_4.length l0_4) (hc0_4 : l0_4.length ≤ c0_4) (hr0_5 : Kd.C k99 w A0_5 l0_5.length l0_5) (hc0_5 : l0_5.length ≤ c0_5) (hr0_6 : Kd.C k101 w A0_6 l0_6.length l0_6) (hc0_6 : l0_6.length ≤ c0_6) (h : spec_EntryOk.f k a0_0 a0_1 a0_2 a0_3 l0_4 l0_5 l0_6 = some r) :
  Calls Try.prog 11 #[.agg #[.string a0_0, .int .i64 a0_1, .int .i64 a0_2, .string a0_3, .slice A0_4 l0_4.length c0_4, .slice A0_5 l0_5.length c0_5, .slice A0_6 l0_6.length c0_6]] w fun e w' => e = .returned (.bool r) ∧ Below w.heap.size w w' := by
 have hu32 := Try.underlying32
 have HR0_4 := zq9 hr0_4
 have HC0_4 := zq9 hc0_4
 clear hr0_4 hc0_4
 have HR0_5 := zq9 hr0_5
 have HC0_5 := zq9 hc0_5
 clear hr0_5 hc0_5
 have HR0_6 := zq9 hr0_6
 have HC0_6 := zq9 hc0_6
 clear hr0_6 hc0_6
 have HB := zq9 (Below.refl w.heap.size w)
 have H : ((spec_l4Key.f a0_0).bind fun t132 => (if t132 = true then ((spec_l1In.f a0_1 0 2000000).bind fun t133 => (spec_EntryOk.j0 k (!t133) a0_0 a0_1 a0_2 a0_3 l0_4 l0_5 l0_6)) else (spec_EntryOk.j0 k true a0_0 a0_1 a0_2 a0_3 l0_4 l0_5 l0_6))) = some r := h
 clear h
 have HC2 := zq9 H
 clear H
 go_enter Try.func11, Try.ntmps11
 go_upto_region 1 with (first | ((with_reducible refine zq25 (N := 1) rfl ?_); refine bx 1 #[.string a0_0, .int .i64 a0_1, .int .i64 a0_2, .string a0_3, .slice A0_4 l0_4.length c0_4, .slice A0_5 l0_5.length c0_5, .slice A0_6 l0_6.length c0_6] 32 ?_; intro gb131 hg w3 hbox hb; have n0_ := zq9 (zq27 (by exact bl HB) hb); have n1_ := zq9 (hbox); have n2_ := zq9 ((by rw [hg]; exact (zq29 (by exact bl HB)) : w.heap.size ≤ gb131)); have n3_ := n2_; clear HB; have HB := n0_; have BK131 := n1_; have GW131 := n2_; have GE131 := n3_; clear n0_ n1_ n2_ n3_; clear hb hbox hg))
 (try simp only [Act.put, zq0, zq1, zq2])
 go_cut [16] (fun v16 wc => ∃ (kq : Nat) (x16_1 : Bool), v16 = .bool x16_1 ∧ Aside0 (spec_EntryOk.j0 kq x16_1 a0_0 a0_1 a0_2 a0_3 l0_4 l0_5 l0_6 = some r) ∧ Aside0 (kq ≤ k) ∧ Aside0 (wc.heap[gb131]? = some (.cells #[.string a0_0, .int .i64 a0_1, .int .i64 a0_2, .string a0_3, (.slice A0_4 l0_4.length c0_4), (.slice A0_5 l0_5.length c0_5), (.slice A0_6 l0_6.length c0_6)] 32 (0, 0))) ∧ Aside0 (Below w.heap.size w wc))
 case first =>
  have H := HC2.out
  clear HC2
  replace H := Option.bind_eq_some_iff.mp H
  obtain ⟨t132, A40, H⟩ := H
  try dsimp only at H
  have A4 := zq9 A40
  clear A40
  have hcz7_0 : w3.cell? ⟨gb131, 0, none⟩ = some (.string a0_0) := bc BK131 0
  have hcz7_1 : w3.cell? ⟨gb131, 1, none⟩ = some (.int .i64 a0_1) := bc BK131 1
  have hcz7_2 : w3.cell? ⟨gb131, 2, none⟩ = some (.int .i64 a0_2) := bc BK131 2
  have hcz7_3 : w3.cell? ⟨gb131, 3, none⟩ = some (.string a0_3) := bc BK131 3
  have hcz7_4 : w3.cell? ⟨gb131, 4, none⟩ = some (.slice A0_4 l0_4.length c0_4) := bc BK131 4
  have hcz7_5 : w3.cell? ⟨gb131, 5, none⟩ = some (.slice A0_5 l0_5.length c0_5) := bc BK131 5
  have hcz7_6 : w3.cell? ⟨gb131, 6, none⟩ = some (.slice A0_6 l0_6.length c0_6) := bc BK131 6
  have hfz7_0 := zq6 BK131.out 0
  have hfz7_1 := zq6 BK131.out 1
  have hfz7_2 := zq6 BK131.out 2
  have hfz7_3 := zq6 BK131.out 3
  have hfz7_4 := zq6 BK131.out 4
  have hfz7_5 := zq6 BK131.out 5
  have hfz7_6 := zq6 BK131.out 6
  by_cases c5 : t132 = true
  ·subst c5
   have H1 : ((spec_l1In.f a0_1 0 2000000).bind fun t133 => (spec_EntryOk.j0 k (!t133) a0_0 a0_1 a0_2 a0_3 l0_4 l0_5 l0_6)) = some r := by rw [if_pos rfl] at H; exact H
   clear H
   have H := H1
   clear H1
   replace H := Option.bind_eq_some_iff.mp H
   obtain ⟨t133, A60, H⟩ := H
   try dsimp only at H
   have A6 := zq9 A60
   clear A60
   have H' := zq9 H
   clear H
   go_wp2_with (first | ((with_reducible refine zq24 (f := 39) rfl ?_); refine gl (some 9) Try.func39 #[.string a0_0] ?_; (with_reducible refine (spec_l4Key.calls a0_0 true _ A4.out).mono ?_); rintro e w' ⟨rfl, ⟨nd, rfl⟩⟩; refine ⟨_, rfl, ?_⟩) | (go_at_call 40; (with_reducible refine (spec_l1In.calls a0_1 0 2000000 t133 _ A6.out).mono ?_); rintro e w' ⟨rfl, ⟨nd, rfl⟩⟩))
   go_meet
   case rel => exact ⟨_, (!t133), (by first | rfl | (simp; done) | (simp [*]; done)), H', ⟨by first | omega | exact Nat.le_refl _⟩, ⟨by refine bp ?_; exact BK131.out⟩, ⟨by exact b1 HB GE131⟩⟩
  ·replace c5 := Bool.eq_false_iff.mpr c5
   subst c5
   have H1 : (spec_EntryOk.j0 k true a0_0 a0_1 a0_2 a0_3 l0_4 l0_5 l0_6) = some r := by rw [if_neg (show ¬ (false = true) by decide)] at H; exact H
   clear H
   have H := H1
   clear H1
   have H' := zq9 H
   clear H
   go_wp2_with (first | ((with_reducible refine zq24 (f := 39) rfl ?_); refine gl (some 9) Try.func39 #[.string a0_0] ?_; (with_reducible refine (spec_l4Key.calls a0_0 false _ A4.out).mono ?_); rintro e w' ⟨rfl, ⟨nd, rfl⟩⟩; refine ⟨_, rfl, ?_⟩))
   go_meet
   case rel => exact ⟨_, (true), (by first | rfl | (simp; done) | (simp [*]; done)), H', ⟨by first | omega | exact Nat.le_refl _⟩, ⟨by refine bp ?_; exact BK131.out⟩, ⟨by exact b1 HB GE131⟩⟩
 case rest =>
  clear HC2
  try clear c1
  try clear p2
  try clear c3
  try clear c5
  try clear hcz7_0
  try clear hcz7_1
  try clear hcz7_2
  try clear hcz7_3
  try clear hcz7_4
  try clear hcz7_5
  try clear hcz7_6
  try clear hcz8_0
  try clear hcz8_1
  try clear hcz8_2
  try clear hcz8_3
  try clear hcz8_4
  try clear hcz8_5
  try clear hcz8_6
  try clear hfz7_0
  try clear hfz7_1
  try clear hfz7_2
  try clear hfz7_3
  try clear hfz7_4
  try clear hfz7_5
  try clear hfz7_6
  try clear hfz8_0
  try clear hfz8_1
  try clear hfz8_2
  try clear hfz8_3
  try clear hfz8_4
  try clear hfz8_5
  try clear hfz8_6
  obtain ⟨kq, x16_1, rfl, HA, HJ1, BK131, HB⟩ := hcut
  cases kq with
  | zero => exact absurd HA.out (by simp [spec_EntryOk.j0])
  | succ kj1 =>
   have H := HA.out
   clear HA
   simp only [spec_EntryOk.j0] at H
   by_cases c9 : x16_1 = true
   ·subst c9
    have H1 : (some false) = some r := by rw [if_pos rfl] at H; exact H
    clear H
    have H := H1
    clear H1
    obtain rfl := Option.some.inj H
    go_wp2
    go_ret
    exact fz (by exact b1 HB GE131)
   ·replace c9 := Bool.eq_false_iff.mpr c9
    subst c9
    have H1 : (if a0_2 = 1 then (if (a0_3.size : Int) ≤ 40 then (if (l0_4.length : Int) = 0 then (if (l0_5.length : Int) = 0 then (some ((l0_6.length : Int) == 0)) else (some false)) else (some false)) else (some false)) else (if a0_2 = 2 then (if a0_3.toList = ([] : List UInt8) then (if ((l0_4.length : Int) = 0) then (some false) else ((spec_l2Texts.f kj1 l0_4).bind fun t134 => (if t134 = true then (if (l0_5.length : Int) = 0 then (some ((l0_6.length : Int) == 0)) else (some false)) else (some false)))) else (some false)) else (if a0_2 = 3 then (if a0_3.toList = ([] : List UInt8) then (if ((l0_4.length : Int) = 0) then (some false) else ((spec_SetOk.f kj1 l0_4).bind fun t135 => (if t135 = true then (if (l0_5.length : Int) = 0 then (some ((l0_6.length : Int) == 0)) else (some false)) else (some false)))) else (some false)) else (if a0_2 = 4 then (if a0_3.toList = ([] : List UInt8) then (if (l0_4.length : Int) = 0 then (if ((l0_5.length : Int) = 0) then (some false) else ((spec_ScoresOk.f kj1 l0_5).bind fun t136 => (if t136 = true then (some ((l0_6.length : Int) == 0)) else (some false)))) else (some false)) else (some false)) else (if a0_2 = 5 then (if a0_3.toList = ([] : List UInt8) then (if (l0_4.length : Int) = 0 then (if (l0_5.length : Int) = 0 then (if ((l0_6.length : Int) = 0) then (some false) else ((spec_FieldsOk.f kj1 l0_6).bind fun t137 => (some t137))) else (some false)) else (some false)) else (some false)) else (some false)))))) = some r := by rw [if_neg (show ¬ (false = true) by decide)] at H; exact H
    clear H
    have H := H1
    clear H1
    have hcz14_0 : wc.cell? ⟨gb131, 0, none⟩ = some (.string a0_0) := bc BK131 0
    have hcz14_1 : wc.cell? ⟨gb131, 1, none⟩ = some (.int .i64 a0_1) := bc BK131 1
    have hcz14_2 : wc.cell? ⟨gb131, 2, none⟩ = some (.int .i64 a0_2) := bc BK131 2
    have hcz14_3 : wc.cell? ⟨gb131, 3, none⟩ = some (.string a0_3) := bc BK131 3
    have hcz14_4 : wc.cell? ⟨gb131, 4, none⟩ = some (.slice A0_4 l0_4.length c0_4) := bc BK131 4
    have hcz14_5 : wc.cell? ⟨gb131, 5, none⟩ = some (.slice A0_5 l0_5.length c0_5) := bc BK131 5
    have hcz14_6 : wc.cell? ⟨gb131, 6, none⟩ = some (.slice A0_6 l0_6.length c0_6) := bc BK131 6
    have hfz14_0 := zq6 BK131.out 0
    have hfz14_1 := zq6 BK131.out 1
    have hfz14_2 := zq6 BK131.out 2
    have hfz14_3 := zq6 BK131.out 3
    have hfz14_4 := zq6 BK131.out 4
    have hfz14_5 := zq6 BK131.out 5
    have hfz14_6 := zq6 BK131.out 6
    by_cases c10 : a0_2 = 1
    ·rw [if_pos c10] at H
     have c10b0 : (a0_2 == 1) = true := beq_iff_eq.mpr c10
     have c10b1 : (a0_2 != 1) = false := bne_eq_false_iff_eq.mpr c10
     clear c10
     by_cases c11 : (a0_3.size : Int) ≤ 40
     ·rw [if_pos c11] at H
      have c11b0 : decide ((a0_3.size : Int) ≤ 40) = true := decide_eq_true c11
      have c11b1 : decide (a0_3.size ≤ 40) = true := decide_eq_true (by omega)
      clear c11
      by_cases c12 : (l0_4.length : Int) = 0
      ·rw [if_pos c12] at H
       have c12b0 : ((l0_4.length : Int) == 0) = true := beq_iff_eq.mpr c12
       have c12b1 : ((l0_4.length : Int) != 0) = false := bne_eq_false_iff_eq.mpr c12
       clear c12
       by_cases c13 : (l0_5.length : Int) = 0
       ·rw [if_pos c13] at H
        have c13b0 : ((l0_5.length : Int) == 0) = true := beq_iff_eq.mpr c13
        have c13b1 : ((l0_5.length : Int) != 0) = false := bne_eq_false_iff_eq.mpr c13
        clear c13
        obtain rfl := Option.some.inj H
        go_wp2
        go_ret
        exact fz (by exact b1 HB GE131)
       ·rw [if_neg c13] at H
        have c13b0 : ((l0_5.length : Int) == 0) = false := beq_eq_false_iff_ne.mpr c13
        have c13b1 : ((l0_5.length : Int) != 0) = true := bne_iff_ne.mpr c13
        have c13b2 : ¬ (l0_5 = []) := fun h_ => c13 (by rw [h_]; rfl)
        obtain rfl := Option.some.inj H
        go_wp2
        go_ret
        exact fz (by exact b1 HB GE131)
      ·rw [if_neg c12] at H
       have c12b0 : ((l0_4.length : Int) == 0) = false := beq_eq_false_iff_ne.mpr c12
       have c12b1 : ((l0_4.length : Int) != 0) = true := bne_iff_ne.mpr c12
       have c12b2 : ¬ (l0_4 = []) := fun h_ => c12 (by rw [h_]; rfl)
       obtain rfl := Option.some.inj H
       go_wp2
       go_ret
       exact fz (by exact b1 HB GE131)
     ·rw [if_neg c11] at H
      have c11b0 : decide ((a0_3.size : Int) ≤ 40) = false := decide_eq_false c11
      have c11b1 : decide (a0_3.size ≤ 40) = false := decide_eq_false (by omega)
      clear c11
      obtain rfl := Option.some.inj H
      go_wp2
      go_ret
      exact fz (by exact b1 HB GE131)
    ·rw [if_neg c10] at H
     have c10b0 : (a0_2 == 1) = false := beq_eq_false_iff_ne.mpr c10
     have c10b1 : (a0_2 != 1) = true := bne_iff_ne.mpr c10
     by_cases c18 : a0_2 = 2
     ·rw [if_pos c18] at H
      have c18b0 : (a0_2 == 2) = true := beq_iff_eq.mpr c18
      have c18b1 : (a0_2 != 2) = false := bne_eq_false_iff_eq.mpr c18
      clear c18
      by_cases c19 : a0_3.toList = ([] : List UInt8)
      ·rw [if_pos c19] at H
       have c19b0 : (a0_3.toList == ([] : List UInt8)) = true := beq_iff_eq.mpr c19
       have c19b1 : (a0_3.toList != ([] : List UInt8)) = false := bne_eq_false_iff_eq.mpr c19
       clear c19
       by_cases c20 : ((l0_4.length : Int) = 0)
       ·rw [if_pos c20] at H
        have c20b0 : ((l0_4.length : Int) == 0) = true := beq_iff_eq.mpr c20
        have c20b1 : ((l0_4.length : Int) != 0) = false := bne_eq_false_iff_eq.mpr c20
        clear c20
        obtain rfl := Option.some.inj H
        go_wp2
        go_ret
        exact fz (by exact b1 HB GE131)
       ·rw [if_neg c20] at H
        have c20b0 : ((l0_4.length : Int) == 0) = false := beq_eq_false_iff_ne.mpr c20
        have c20b1 : ((l0_4.length : Int) != 0) = true := bne_iff_ne.mpr c20
        have c20b2 : ¬ (l0_4 = []) := fun h_ => c20 (by rw [h_]; rfl)
        replace H := Option.bind_eq_some_iff.mp H
        obtain ⟨t134, A220, H⟩ := H
        try dsimp only at H
        have A22 := zq9 A220
        clear A220
        by_cases c23 : t134 = true
        ·subst c23
         have H1 : (if (l0_5.length : Int) = 0 then (some ((l0_6.length : Int) == 0)) else (some false)) = some r := by rw [if_pos rfl] at H; exact H
         clear H
         have H := H1
         clear H1
         by_cases c24 : (l0_5.length : Int) = 0
         ·rw [if_pos c24] at H
          have c24b0 : ((l0_5.length : Int) == 0) = true := beq_iff_eq.mpr c24
          have c24b1 : ((l0_5.length : Int) != 0) = false := bne_eq_false_iff_eq.mpr c24
          clear c24
          obtain rfl := Option.some.inj H
          go_wp2_with (first | (go_at_call 41; (with_reducible refine (spec_l2Texts.calls kj1 _ _ l0_4 true _ ?side1 ?side2 A22.out).mono ?_); (case side1 => exact kc HR0_4 HB); (case side2 => exact HC0_4.out); rintro e w' ⟨rfl, ⟨nd, rfl⟩⟩))
          go_ret
          exact fz (by exact b1 HB GE131)
         ·rw [if_neg c24] at H
          have c24b0 : ((l0_5.length : Int) == 0) = false := beq_eq_false_iff_ne.mpr c24
          have c24b1 : ((l0_5.length : Int) != 0) = true := bne_iff_ne.mpr c24
          have c24b2 : ¬ (l0_5 = []) := fun h_ => c24 (by rw [h_]; rfl)
          obtain rfl := Option.some.inj H
          go_wp2_with (first | (go_at_call 41; (with_reducible refine (spec_l2Texts.calls kj1 _ _ l0_4 true _ ?side1 ?side2 A22.out).mono ?_); (case side1 => exact kc HR0_4 HB); (case side2 => exact HC0_4.out); rintro e w' ⟨rfl, ⟨nd, rfl⟩⟩))
          go_ret
          exact fz (by exact b1 HB GE131)
        ·replace c23 := Bool.eq_false_iff.mpr c23
         subst c23
         have H1 : (some false) = some r := by rw [if_neg (show ¬ (false = true) by decide)] at H; exact H
         clear H
         have H := H1
         clear H1
         obtain rfl := Option.some.inj H
         go_wp2_with (first | (go_at_call 41; (with_reducible refine (spec_l2Texts.calls kj1 _ _ l0_4 false _ ?side1 ?side2 A22.out).mono ?_); (case side1 => exact kc HR0_4 HB); (case side2 => exact HC0_4.out); rintro e w' ⟨rfl, ⟨nd, rfl⟩⟩))
         go_ret
         exact fz (by exact b1 HB GE131)
      ·rw [if_neg c19] at H
       have c19b0 : (a0_3.toList == ([] : List UInt8)) = false := beq_eq_false_iff_ne.mpr c19
       have c19b1 : (a0_3.toList != ([] : List UInt8)) = true := bne_iff_ne.mpr c19
       obtain rfl := Option.some.inj H
       go_wp2
       go_ret
       exact fz (by exact b1 HB GE131)
     ·rw [if_neg c18] at H
      have c18b0 : (a0_2 == 2) = false := beq_eq_false_iff_ne.mpr c18
      have c18b1 : (a0_2 != 2) = true := bne_iff_ne.mpr c18
      by_cases c29 : a0_2 = 3
      ·rw [if_pos c29] at H
       have c29b0 : (a0_2 == 3) = true := beq_iff_eq.mpr c29
       have c29b1 : (a0_2 != 3) = false := bne_eq_false_iff_eq.mpr c29
       clear c29
       by_cases c30 : a0_3.toList = ([] : List UInt8)
       ·rw [if_pos c30] at H
        have c30b0 : (a0_3.toList == ([] : List UInt8)) = true := beq_iff_eq.mpr c30
        have c30b1 : (a0_3.toList != ([] : List UInt8)) = false := bne_eq_false_iff_eq.mpr c30
        clear c30
        by_cases c31 : ((l0_4.length : Int) = 0)
        ·rw [if_pos c31] at H
         have c31b0 : ((l0_4.length : Int) == 0) = true := beq_iff_eq.mpr c31
         have c31b1 : ((l0_4.length : Int) != 0) = false := bne_eq_false_iff_eq.mpr c31
         clear c31
         obtain rfl := Option.some.inj H
         go_wp2
         go_ret
         exact fz (by exact b1 HB GE131)
        ·rw [if_neg c31] at H
         have c31b0 : ((l0_4.length : Int) == 0) = false := beq_eq_false_iff_ne.mpr c31
         have c31b1 : ((l0_4.length : Int) != 0) = true := bne_iff_ne.mpr c31
         have c31b2 : ¬ (l0_4 = []) := fun h_ => c31 (by rw [h_]; rfl)
         replace H := Option.bind_eq_some_iff.mp H
         obtain ⟨t135, A330, H⟩ := H
         try dsimp only at H
         have A33 := zq9 A330
         clear A330
         by_cases c34 : t135 = true
         ·subst c34
          have H1 : (if (l0_5.length : Int) = 0 then (some ((l0_6.length : Int) == 0)) else (some false)) = some r := by rw [if_pos rfl] at H; exact H
          clear H
          have H := H1
          clear H1
          by_cases c35 : (l0_5.length : Int) = 0
          ·rw [if_pos c35] at H
           have c35b0 : ((l0_5.length : Int) == 0) = true := beq_iff_eq.mpr c35
           have c35b1 : ((l0_5.length : Int) != 0) = false := bne_eq_false_iff_eq.mpr c35
           clear c35
           obtain rfl := Option.some.inj H
           go_wp2_with (first | (go_at_call 42; (with_reducible refine (spec_SetOk.calls kj1 _ _ l0_4 true _ ?side1 ?side2 A33.out).mono ?_); (case side1 => exact kc HR0_4 HB); (case side2 => exact HC0_4.out); rintro e w' ⟨rfl, ⟨nd, rfl⟩⟩))
           go_ret
           exact fz (by exact b1 HB GE131)
          ·rw [if_neg c35] at H
           have c35b0 : ((l0_5.length : Int) == 0) = false := beq_eq_false_iff_ne.mpr c35
           have c35b1 : ((l0_5.length : Int) != 0) = true := bne_iff_ne.mpr c35
           have c35b2 : ¬ (l0_5 = []) := fun h_ => c35 (by rw [h_]; rfl)
           obtain rfl := Option.some.inj H
           go_wp2_with (first | (go_at_call 42; (with_reducible refine (spec_SetOk.calls kj1 _ _ l0_4 true _ ?side1 ?side2 A33.out).mono ?_); (case side1 => exact kc HR0_4 HB); (case side2 => exact HC0_4.out); rintro e w' ⟨rfl, ⟨nd, rfl⟩⟩))
           go_ret
           exact fz (by exact b1 HB GE131)
         ·replace c34 := Bool.eq_false_iff.mpr c34
          subst c34
          have H1 : (some false) = some r := by rw [if_neg (show ¬ (false = true) by decide)] at H; exact H
          clear H
          have H := H1
          clear H1
          obtain rfl := Option.some.inj H
          go_wp2_with (first | (go_at_call 42; (with_reducible refine (spec_SetOk.calls kj1 _ _ l0_4 false _ ?side1 ?side2 A33.out).mono ?_); (case side1 => exact kc HR0_4 HB); (case side2 => exact HC0_4.out); rintro e w' ⟨rfl, ⟨nd, rfl⟩⟩))
          go_ret
          exact fz (by exact b1 HB GE131)
       ·rw [if_neg c30] at H
        have c30b0 : (a0_3.toList == ([] : List UInt8)) = false := beq_eq_false_iff_ne.mpr c30
        have c30b1 : (a0_3.toList != ([] : List UInt8)) = true := bne_iff_ne.mpr c30
        obtain rfl := Option.some.inj H
        go_wp2
        go_ret
        exact fz (by exact b1 HB GE131)
      ·rw [if_neg c29] at H
       have c29b0 : (a0_2 == 3) = false := beq_eq_false_iff_ne.mpr c29
       have c29b1 : (a0_2 != 3) = true := bne_iff_ne.mpr c29
       by_cases c40 : a0_2 = 4
       ·rw [if_pos c40] at H
        have c40b0 : (a0_2 == 4) = true := beq_iff_eq.mpr c40
        have c40b1 : (a0_2 != 4) = false := bne_eq_false_iff_eq.mpr c40
        clear c40
        by_cases c41 : a0_3.toList = ([] : List UInt8)
        ·rw [if_pos c41] at H
         have c41b0 : (a0_3.toList == ([] : List UInt8)) = true := beq_iff_eq.mpr c41
         have c41b1 : (a0_3.toList != ([] : List UInt8)) = false := bne_eq_false_iff_eq.mpr c41
         clear c41
         by_cases c42 : (l0_4.length : Int) = 0
         ·rw [if_pos c42] at H
          have c42b0 : ((l0_4.length : Int) == 0) = true := beq_iff_eq.mpr c42
          have c42b1 : ((l0_4.length : Int) != 0) = false := bne_eq_false_iff_eq.mpr c42
          clear c42
          by_cases c43 : ((l0_5.length : Int) = 0)
          ·rw [if_pos c43] at H
           have c43b0 : ((l0_5.length : Int) == 0) = true := beq_iff_eq.mpr c43
           have c43b1 : ((l0_5.length : Int) != 0) = false := bne_eq_false_iff_eq.mpr c43
           clear c43
           obtain rfl := Option.some.inj H
           go_wp2
           go_ret
           exact fz (by exact b1 HB GE131)
          ·rw [if_neg c43] at H
           have c43b0 : ((l0_5.length : Int) == 0) = false := beq_eq_false_iff_ne.mpr c43
           have c43b1 : ((l0_5.length : Int) != 0) = true := bne_iff_ne.mpr c43
           have c43b2 : ¬ (l0_5 = []) := fun h_ => c43 (by rw [h_]; rfl)
           replace H := Option.bind_eq_some_iff.mp H
           obtain ⟨t136, A450, H⟩ := H
           try dsimp only at H
           have A45 := zq9 A450
           clear A450
           by_cases c46 : t136 = true
           ·subst c46
            have H1 : (some ((l0_6.length : Int) == 0)) = some r := by rw [if_pos rfl] at H; exact H
            clear H
            have H := H1
            clear H1
            obtain rfl := Option.some.inj H
            go_wp2_with (first | (go_at_call 43; (with_reducible refine (spec_ScoresOk.calls kj1 _ _ l0_5 true _ ?side1 ?side2 A45.out).mono ?_); (case side1 => exact kc HR0_5 HB); (case side2 => exact HC0_5.out); rintro e w48 ⟨rfl, hb⟩; have n0_ := zq9 (zq30 (g := gb131) (o := .cells #[.string a0_0, .int .i64 a0_1, .int .i64 a0_2, .string a0_3, .slice A0_4 l0_4.length c0_4, .slice A0_5 l0_5.length c0_5, .slice A0_6 l0_6.length c0_6] 32 (0, 0)) (by exact bk BK131) hb); have n1_ := zq9 (zq27 (by exact b1 HB GE131) hb); clear BK131; clear HB; have BK131 := n0_; have HB := n1_; clear n0_ n1_; (try clear hb); (try clear hb2); (try clear hk); (try clear hi)))
            go_ret
            exact fz (by exact b1 HB GE131)
           ·replace c46 := Bool.eq_false_iff.mpr c46
            subst c46
            have H1 : (some false) = some r := by rw [if_neg (show ¬ (false = true) by decide)] at H; exact H
            clear H
            have H := H1
            clear H1
            obtain rfl := Option.some.inj H
            go_wp2_with (first | (go_at_call 43; (with_reducible refine (spec_ScoresOk.calls kj1 _ _ l0_5 false _ ?side1 ?side2 A45.out).mono ?_); (case side1 => exact kc HR0_5 HB); (case side2 => exact HC0_5.out); rintro e w48 ⟨rfl, hb⟩; have n0_ := zq9 (zq30 (g := gb131) (o := .cells #[.string a0_0, .int .i64 a0_1, .int .i64 a0_2, .string a0_3, .slice A0_4 l0_4.length c0_4, .slice A0_5 l0_5.length c0_5, .slice A0_6 l0_6.length c0_6] 32 (0, 0)) (by exact bk BK131) hb); have n1_ := zq9 (zq27 (by exact b1 HB GE131) hb); clear BK131; clear HB; have BK131 := n0_; have HB := n1_; clear n0_ n1_; (try clear hb); (try clear hb2); (try clear hk); (try clear hi)))
            go_ret
            exact fz (by exact b1 HB GE131)
         ·rw [if_neg c42] at H
          have c42b0 : ((l0_4.length : Int) == 0) = false := beq_eq_false_iff_ne.mpr c42
          have c42b1 : ((l0_4.length : Int) != 0) = true := bne_iff_ne.mpr c42
          have c42b2 : ¬ (l0_4 = []) := fun h_ => c42 (by rw [h_]; rfl)
          obtain rfl := Option.some.inj H
          go_wp2
          go_ret
          exact fz (by exact b1 HB GE131)
        ·rw [if_neg c41] at H
         have c41b0 : (a0_3.toList == ([] : List UInt8)) = false := beq_eq_false_iff_ne.mpr c41
         have c41b1 : (a0_3.toList != ([] : List UInt8)) = true := bne_iff_ne.mpr c41
         obtain rfl := Option.some.inj H
         go_wp2
         go_ret
         exact fz (by exact b1 HB GE131)
       ·rw [if_neg c40] at H
        have c40b0 : (a0_2 == 4) = false := beq_eq_false_iff_ne.mpr c40
        have c40b1 : (a0_2 != 4) = true := bne_iff_ne.mpr c40
        by_cases c53 : a0_2 = 5
        ·rw [if_pos c53] at H
         have c53b0 : (a0_2 == 5) = true := beq_iff_eq.mpr c53
         have c53b1 : (a0_2 != 5) = false := bne_eq_false_iff_eq.mpr c53
         clear c53
         by_cases c54 : a0_3.toList = ([] : List UInt8)
         ·rw [if_pos c54] at H
          have c54b0 : (a0_3.toList == ([] : List UInt8)) = true := beq_iff_eq.mpr c54
          have c54b1 : (a0_3.toList != ([] : List UInt8)) = false := bne_eq_false_iff_eq.mpr c54
          clear c54
          by_cases c55 : (l0_4.length : Int) = 0
          ·rw [if_pos c55] at H
           have c55b0 : ((l0_4.length : Int) == 0) = true := beq_iff_eq.mpr c55
           have c55b1 : ((l0_4.length : Int) != 0) = false := bne_eq_false_iff_eq.mpr c55
           clear c55
           by_cases c56 : (l0_5.length : Int) = 0
           ·rw [if_pos c56] at H
            have c56b0 : ((l0_5.length : Int) == 0) = true := beq_iff_eq.mpr c56
            have c56b1 : ((l0_5.length : Int) != 0) = false := bne_eq_false_iff_eq.mpr c56
            clear c56
            by_cases c57 : ((l0_6.length : Int) = 0)
            ·rw [if_pos c57] at H
             have c57b0 : ((l0_6.length : Int) == 0) = true := beq_iff_eq.mpr c57
             have c57b1 : ((l0_6.length : Int) != 0) = false := bne_eq_false_iff_eq.mpr c57
             clear c57
             obtain rfl := Option.some.inj H
             go_wp2
             go_ret
             exact fz (by exact b1 HB GE131)
            ·rw [if_neg c57] at H
             have c57b0 : ((l0_6.length : Int) == 0) = false := beq_eq_false_iff_ne.mpr c57
             have c57b1 : ((l0_6.length : Int) != 0) = true := bne_iff_ne.mpr c57
             have c57b2 : ¬ (l0_6 = []) := fun h_ => c57 (by rw [h_]; rfl)
             replace H := Option.bind_eq_some_iff.mp H
             obtain ⟨t137, A590, H⟩ := H
             try dsimp only at H
             have A59 := zq9 A590
             clear A590
             obtain rfl := Option.some.inj H
             go_wp2_with (first | (go_at_call 44; (with_reducible refine (spec_FieldsOk.calls kj1 _ _ l0_6 t137 _ ?side1 ?side2 A59.out).mono ?_); (case side1 => exact kc HR0_6 HB); (case side2 => exact HC0_6.out); rintro e w' ⟨rfl, ⟨nd, rfl⟩⟩))
             go_ret
             exact fz (by exact b1 HB GE131)
           ·rw [if_neg c56] at H
            have c56b0 : ((l0_5.length : Int) == 0) = false := beq_eq_false_iff_ne.mpr c56
            have c56b1 : ((l0_5.length : Int) != 0) = true := bne_iff_ne.mpr c56
            have c56b2 : ¬ (l0_5 = []) := fun h_ => c56 (by rw [h_]; rfl)
            obtain rfl := Option.some.inj H
            go_wp2
            go_ret
            exact fz (by exact b1 HB GE131)
          ·rw [if_neg c55] at H
           have c55b0 : ((l0_4.length : Int) == 0) = false := beq_eq_false_iff_ne.mpr c55
           have c55b1 : ((l0_4.length : Int) != 0) = true := bne_iff_ne.mpr c55
           have c55b2 : ¬ (l0_4 = []) := fun h_ => c55 (by rw [h_]; rfl)
           obtain rfl := Option.some.inj H
           go_wp2
           go_ret
           exact fz (by exact b1 HB GE131)
         ·rw [if_neg c54] at H
          have c54b0 : (a0_3.toList == ([] : List UInt8)) = false := beq_eq_false_iff_ne.mpr c54
          have c54b1 : (a0_3.toList != ([] : List UInt8)) = true := bne_iff_ne.mpr c54
          obtain rfl := Option.some.inj H
          go_wp2
          go_ret
          exact fz (by exact b1 HB GE131)
        ·rw [if_neg c53] at H
         have c53b0 : (a0_2 == 5) = false := beq_eq_false_iff_ne.mpr c53
         have c53b1 : (a0_2 != 5) = true := bne_iff_ne.mpr c53
         obtain rfl := Option.some.inj H
         go_wp2
         go_ret
         exact fz (by exact b1 HB GE131)
def spec_BaseOk.T5 : Bool × List (List Nat × List Nat) := (true, [([], []), ([0], [0]), ([1], [1]), ([2, 1], [2]), ([3], [3]), ([4, 3], [3, 4]), ([5, 3], [3, 5]), ([6, 3, 3], [3, 6]), ([7], [7]), ([8, 7], [7, 8]), ([7], [7]), ([10, 7], [7, 10]), ([9, 11, 7], [7, 9, 11]), ([7, 12, 3], [3, 7, 12]), ([3, 13], [3, 13]), ([14, 7], [14]), ([15], [15]), ([16, 15], [15, 16]), ([17, 15, 15], [15, 17]), ([18], [18]), ([19, 18], [18, 19]), ([18], [18]), ([21, 18], [18, 21]), ([20, 22, 18], [18, 20, 22]), ([23, 18], [18, 23]), ([24, 18], [18, 24]), ([18], [18]), ([26, 18], [18, 26]), ([25, 27, 18], [18, 25, 27]), ([18, 28, 15], [15, 18, 28]), ([15, 29], [15, 29])])
def spec_BaseOk.B5 : List Nat := [0, 1, 3, 7, 15, 31, 63, 127, 255, 511, 255, 1279, 4095, 8191, 16383, 32767, 65535, 131071, 262143, 524287, 1048575, 524287, 2621439, 8388607, 16777215, 33554431, 524287, 67633151, 268435455, 536870911, 1073741823]
theorem spec_BaseOk.tab5 : rtab .any (opsOf Try.f17 5) = spec_BaseOk.T5 := by kernel_rfl
theorem spec_BaseOk.bits5 : waitsOk spec_BaseOk.T5.2 spec_BaseOk.B5 = true := by kernel_rfl
set_option maxHeartbeats 8000000 in
set_option maxRecDepth 100000 in
theorem spec_BaseOk.calls (k : Nat) (a0_0 : Int) (A0_1 : Option Addr) (c0_1 : Nat) (l0_1 : List (S32)) (r : Bool) (w : World) (hr0_1 : Kd.C k32 w A0_1 l0_1.length l0_1) (hc0_1 : l0_1.length ≤ c0_1) (h : spec_BaseOk.f k a0_0 l0_1 = some r) :
  Calls Try.prog 17 #[.agg #[.int .i64 a0_0, .slice A0_1 l0_1.length c0_1]] w fun e w' => e = .returned (.bool r) ∧ Below w.heap.size w w' := by
 have hu46 := Try.underlying46
 have hu32 := Try.underlying32
 have HR0_1 := zq9 hr0_1
 have HC0_1 := zq9 hc0_1
 clear hr0_1 hc0_1
 have HB := zq9 (Below.refl w.heap.size w)
 have H : (spec_BaseOk.l0 k 0 a0_0 l0_1) = some r := h
 clear h
 have H' := zq9 H
 clear H
 go_enter Try.func17, Try.ntmps17
 go_wp2_with (first | ((with_reducible refine zq25 (N := 1) rfl ?_); (try (refine gate_guard (by rfl) ?_; dsimp only)); refine bx 1 #[.int .i64 a0_0, .slice A0_1 l0_1.length c0_1] 46 ?_; intro gb645 hg w2 hbox hb; have n0_ := zq9 (zq27 (by exact bl HB) hb); have n1_ := zq9 (hbox); have n2_ := zq9 ((by rw [hg]; exact (zq29 (by exact bl HB)) : w.heap.size ≤ gb645)); have n3_ := n2_; clear HB; have HB := n0_; have BK645 := n1_; have GW645 := n2_; have GE645 := n3_; clear n0_ n1_ n2_ n3_; clear hb hbox hg))
 go_loopg [3] k (fun kq v3 w' => ∃ (x3_1 : Int), v3 = .int .i64 x3_1 ∧ Aside0 (spec_BaseOk.l0 kq x3_1 a0_0 l0_1 = some r) ∧ Aside0 (kq ≤ k) ∧ Aside0 (w'.heap[gb645]? = some (.cells #[.int .i64 a0_0, (.slice A0_1 l0_1.length c0_1)] 46 (0, 0))) ∧ Aside0 (Below w.heap.size w w'))
 case atStart => exact ⟨(0), (by first | rfl | (simp; done) | (simp [*]; done)), H', ⟨Nat.le_refl _⟩, ⟨by refine bp ?_; exact BK645.out⟩, ⟨by exact b1 HB GE645⟩⟩
 case round =>
  clear H'
  try clear c1
  try clear p2
  obtain ⟨x3_1, rfl, HA, HK1, BK645, HB⟩ := hrel
  cases gk with
  | zero => exact absurd HA.out (by simp [spec_BaseOk.l0])
  | succ k1 =>
   have H := HA.out
   clear HA
   simp only [spec_BaseOk.l0] at H
   by_cases c3 : x3_1 < (l0_1.length : Int)
   ·rw [if_pos c3] at H
    have c3b0 : decide (x3_1 < (l0_1.length : Int)) = true := decide_eq_true c3
    clear c3
    by_cases c4 : 0 ≤ x3_1
    ·rw [if_pos c4] at H
     have c4b0 : decide (0 ≤ x3_1) = true := decide_eq_true c4
     clear c4
     have HC5 := zq9 H
     clear H
     have hcz6_0 : wr.cell? ⟨gb645, 0, none⟩ = some (.int .i64 a0_0) := bc BK645 0
     have hcz6_1 : wr.cell? ⟨gb645, 1, none⟩ = some (.slice A0_1 l0_1.length c0_1) := bc BK645 1
     have hfz6_0 := zq6 BK645.out 0
     have hfz6_1 := zq6 BK645.out 1
     have p647 : 0 ≤ (x3_1 : Int) := of_decide_eq_true ‹_›
     have q647 : x3_1 < (l0_1.length : Int) := of_decide_eq_true ‹_›
     obtain ⟨ad647, A647_4, c647_4, A647_5, c647_5, A647_6, c647_6, e647, hx647_0, hx647_1, hx647_2, hx647_3, hx647_4, hx647_5, hx647_6, hl647_4, hi647_4, hl647_5, hi647_5, hl647_6, hi647_6⟩ := at_T32 HR0_1.out x3_1 p647 q647
     cases e647
     replace hx647_0 := (HB.out.cell (zq8 w _ hx647_0)).trans hx647_0
     replace hx647_1 := (HB.out.cell (zq8 w _ hx647_1)).trans hx647_1
     replace hx647_2 := (HB.out.cell (zq8 w _ hx647_2)).trans hx647_2
     replace hx647_3 := (HB.out.cell (zq8 w _ hx647_3)).trans hx647_3
     replace hx647_4 := (HB.out.cell (zq8 w _ hx647_4)).trans hx647_4
     replace hx647_5 := (HB.out.cell (zq8 w _ hx647_5)).trans hx647_5
     replace hx647_6 := (HB.out.cell (zq8 w _ hx647_6)).trans hx647_6
     have HR647_4 := zq9 hi647_4
     have HC647_4 := zq9 hl647_4
     clear hi647_4 hl647_4
     have HR647_5 := zq9 hi647_5
     have HC647_5 := zq9 hl647_5
     clear hi647_5 hl647_5
     have HR647_6 := zq9 hi647_6
     have HC647_6 := zq9 hl647_6
     clear hi647_6 hl647_6
     replace p647 := eq_true p647
     replace q647 := eq_true q647
     go_upto_region 5 with (first | ((with_reducible refine zq25 (N := 4) rfl ?_); (try (refine gate_guard (by rfl) ?_; dsimp only)); refine bx 4 #[.string (⟨#[]⟩ : ByteArray), .int .i64 0, .int .i64 0, .string (⟨#[]⟩ : ByteArray), .slice none 0 0, .slice none 0 0, .slice none 0 0] 32 ?_; intro gb648 hg w7 hbox hb; have n0_ := zq9 (zq30 (g := gb645) (o := .cells #[.int .i64 a0_0, .slice (some ad647) l0_1.length c0_1] 46 (0, 0)) (by exact bk BK645) hb); have n1_ := zq9 (zq27 (by exact b1 HB GE645) hb); have n2_ := zq9 (hbox); have n3_ := zq9 ((by rw [hg]; exact (zq29 (by exact b1 HB GE645)) : w.heap.size ≤ gb648)); have n4_ := n3_; have n5_ := zq9 ((by rw [hg]; exact Nat.ne_of_lt (blk_lt (g := gb645) (o := .cells #[.int .i64 a0_0, .slice (some ad647) l0_1.length c0_1] 46 (0, 0)) (by exact bk BK645)) : gb645 ≠ gb648)); have n6_ := zq9 ((by rw [hg]; exact Nat.ne_of_gt (blk_lt (g := gb645) (o := .cells #[.int .i64 a0_0, .slice (some ad647) l0_1.length c0_1] 46 (0, 0)) (by exact bk BK645)) : gb648 ≠ gb645)); clear BK645; clear HB; have BK645 := n0_; have HB := n1_; have BK648 := n2_; have GW648 := n3_; have GE648 := n4_; have NB645_648 := n5_; have NB648_645 := n6_; clear n0_ n1_ n2_ n3_ n4_ n5_ n6_; clear hb hbox hg; have hnb8 := NB648_645.out; have hnc8 := NB645_648.out; have hcz9_0 : w7.cell? ⟨gb648, 0, none⟩ = some (.string (⟨#[]⟩ : ByteArray)) := bc BK648 0; have hcz9_1 : w7.cell? ⟨gb648, 1, none⟩ = some (.int .i64 0) := bc BK648 1; have hcz9_2 : w7.cell? ⟨gb648, 2, none⟩ = some (.int .i64 0) := bc BK648 2; have hcz9_3 : w7.cell? ⟨gb648, 3, none⟩ = some (.string (⟨#[]⟩ : ByteArray)) := bc BK648 3; have hcz9_4 : w7.cell? ⟨gb648, 4, none⟩ = some (.slice none 0 0) := bc BK648 4; have hcz9_5 : w7.cell? ⟨gb648, 5, none⟩ = some (.slice none 0 0) := bc BK648 5; have hcz9_6 : w7.cell? ⟨gb648, 6, none⟩ = some (.slice none 0 0) := bc BK648 6; have hfz9_0 := zq6 BK648.out 0; have hfz9_1 := zq6 BK648.out 1; have hfz9_2 := zq6 BK648.out 2; have hfz9_3 := zq6 BK648.out 3; have hfz9_4 := zq6 BK648.out 4; have hfz9_5 := zq6 BK648.out 5; have hfz9_6 := zq6 BK648.out 6))
     (try simp only [Act.put, zq0, zq1, zq2])
     go_cut [47] (fun v47 wc => ∃ (kq : Nat) (x47_4 : Bool), v47 = .bool x47_4 ∧ Aside0 (spec_BaseOk.j1 kq x3_1 x47_4 a0_0 l0_1 = some r) ∧ Aside0 (kq ≤ k1) ∧ Aside0 (wc.heap[gb645]? = some (.cells #[.int .i64 a0_0, (.slice (some ad647) l0_1.length c0_1)] 46 (0, 0))) ∧ Aside0 (wc.heap[gb648]? = some (.cells #[.string ((rd_T32 l0_1 x3_1).f0), .int .i64 ((rd_T32 l0_1 x3_1).f1), .int .i64 ((rd_T32 l0_1 x3_1).f2), .string ((rd_T32 l0_1 x3_1).f3), (.slice A647_4 ((rd_T32 l0_1 x3_1).f4).length c647_4), (.slice A647_5 ((rd_T32 l0_1 x3_1).f5).length c647_5), (.slice A647_6 ((rd_T32 l0_1 x3_1).f6).length c647_6)] 32 (0, 0))) ∧ Aside0 (Below w.heap.size w wc))
     case first =>
      have H := HC5.out
      clear HC5
      replace H := Option.bind_eq_some_iff.mp H
      obtain ⟨t649, A100, H⟩ := H
      try dsimp only at H
      have A10 := zq9 A100
      clear A100
      by_cases c11 : t649 = true
      ·subst c11
       have H1 : (if ((rd_T32 l0_1 x3_1).f1) = 0 then (if x3_1 > 0 then (if 0 ≤ (wrap64 (x3_1 - 1)) then (if (wrap64 (x3_1 - 1)) < (l0_1.length : Int) then (spec_BaseOk.j1 k1 x3_1 (!(Op.bytesLess (((rd_T32 l0_1 (wrap64 (x3_1 - 1))).f0).toList) (((rd_T32 l0_1 x3_1).f0).toList))) a0_0 l0_1) else (none)) else (none)) else (spec_BaseOk.j1 k1 x3_1 false a0_0 l0_1)) else (if ((rd_T32 l0_1 x3_1).f1) ≤ a0_0 then (spec_BaseOk.j1 k1 x3_1 true a0_0 l0_1) else (if x3_1 > 0 then (if 0 ≤ (wrap64 (x3_1 - 1)) then (if (wrap64 (x3_1 - 1)) < (l0_1.length : Int) then (spec_BaseOk.j1 k1 x3_1 (!(Op.bytesLess (((rd_T32 l0_1 (wrap64 (x3_1 - 1))).f0).toList) (((rd_T32 l0_1 x3_1).f0).toList))) a0_0 l0_1) else (none)) else (none)) else (spec_BaseOk.j1 k1 x3_1 false a0_0 l0_1)))) = some r := by rw [if_pos rfl] at H; exact H
       clear H
       have H := H1
       clear H1
       by_cases c12 : ((rd_T32 l0_1 x3_1).f1) = 0
       ·rw [if_pos c12] at H
        have c12b0 : (((rd_T32 l0_1 x3_1).f1) == 0) = true := beq_iff_eq.mpr c12
        have c12b1 : (((rd_T32 l0_1 x3_1).f1) != 0) = false := bne_eq_false_iff_eq.mpr c12
        clear c12
        (first | rw [c12b0] | (simp only [i64_w, i32_w]; rw [c12b0]) | skip)
        try go_wp2
        have n0_ : Aside0 ((((((((w7.setCell ⟨gb648, 0, none⟩ (.string ((rd_T32 l0_1 x3_1).f0))).setCell ⟨gb648, 1, none⟩ (.int .i64 ((rd_T32 l0_1 x3_1).f1))).setCell ⟨gb648, 2, none⟩ (.int .i64 ((rd_T32 l0_1 x3_1).f2))).setCell ⟨gb648, 3, none⟩ (.string ((rd_T32 l0_1 x3_1).f3))).setCell ⟨gb648, 4, none⟩ (.slice A647_4 ((rd_T32 l0_1 x3_1).f4).length c647_4)).setCell ⟨gb648, 5, none⟩ (.slice A647_5 ((rd_T32 l0_1 x3_1).f5).length c647_5)).setCell ⟨gb648, 6, none⟩ (.slice A647_6 ((rd_T32 l0_1 x3_1).f6).length c647_6)).heap[gb645]? = some (.cells #[.int .i64 a0_0, .slice (some ad647) l0_1.length c0_1] 46 (0, 0))) := ⟨by refine bp ?_; refine blk_far ?_ NB645_648.out _; refine bp ?_; refine blk_far ?_ NB645_648.out _; refine bp ?_; refine blk_far ?_ NB645_648.out _; refine bp ?_; refine blk_far ?_ NB645_648.out _; refine bp ?_; refine blk_far ?_ NB645_648.out _; refine bp ?_; refine blk_far ?_ NB645_648.out _; refine bp ?_; refine blk_far ?_ NB645_648.out _; refine bp ?_; exact BK645.out⟩
        have n1_ : Aside0 ((((((((w7.setCell ⟨gb648, 0, none⟩ (.string ((rd_T32 l0_1 x3_1).f0))).setCell ⟨gb648, 1, none⟩ (.int .i64 ((rd_T32 l0_1 x3_1).f1))).setCell ⟨gb648, 2, none⟩ (.int .i64 ((rd_T32 l0_1 x3_1).f2))).setCell ⟨gb648, 3, none⟩ (.string ((rd_T32 l0_1 x3_1).f3))).setCell ⟨gb648, 4, none⟩ (.slice A647_4 ((rd_T32 l0_1 x3_1).f4).length c647_4)).setCell ⟨gb648, 5, none⟩ (.slice A647_5 ((rd_T32 l0_1 x3_1).f5).length c647_5)).setCell ⟨gb648, 6, none⟩ (.slice A647_6 ((rd_T32 l0_1 x3_1).f6).length c647_6)).heap[gb648]? = some (.cells #[.string ((rd_T32 l0_1 x3_1).f0), .int .i64 ((rd_T32 l0_1 x3_1).f1), .int .i64 ((rd_T32 l0_1 x3_1).f2), .string ((rd_T32 l0_1 x3_1).f3), .slice A647_4 ((rd_T32 l0_1 x3_1).f4).length c647_4, .slice A647_5 ((rd_T32 l0_1 x3_1).f5).length c647_5, .slice A647_6 ((rd_T32 l0_1 x3_1).f6).length c647_6] 32 (0, 0))) := ⟨by refine bp ?_; refine blk_put (cs := #[.string ((rd_T32 l0_1 x3_1).f0), .int .i64 ((rd_T32 l0_1 x3_1).f1), .int .i64 ((rd_T32 l0_1 x3_1).f2), .string ((rd_T32 l0_1 x3_1).f3), .slice A647_4 ((rd_T32 l0_1 x3_1).f4).length c647_4, .slice A647_5 ((rd_T32 l0_1 x3_1).f5).length c647_5, .slice none 0 0]) ?_ 6 _ rfl; refine bp ?_; refine blk_put (cs := #[.string ((rd_T32 l0_1 x3_1).f0), .int .i64 ((rd_T32 l0_1 x3_1).f1), .int .i64 ((rd_T32 l0_1 x3_1).f2), .string ((rd_T32 l0_1 x3_1).f3), .slice A647_4 ((rd_T32 l0_1 x3_1).f4).length c647_4, .slice none 0 0, .slice none 0 0]) ?_ 5 _ rfl; refine bp ?_; refine blk_put (cs := #[.string ((rd_T32 l0_1 x3_1).f0), .int .i64 ((rd_T32 l0_1 x3_1).f1), .int .i64 ((rd_T32 l0_1 x3_1).f2), .string ((rd_T32 l0_1 x3_1).f3), .slice none 0 0, .slice none 0 0, .slice none 0 0]) ?_ 4 _ rfl; refine bp ?_; refine blk_put (cs := #[.string ((rd_T32 l0_1 x3_1).f0), .int .i64 ((rd_T32 l0_1 x3_1).f1), .int .i64 ((rd_T32 l0_1 x3_1).f2), .string (⟨#[]⟩ : ByteArray), .slice none 0 0, .slice none 0 0, .slice none 0 0]) ?_ 3 _ rfl; refine bp ?_; refine blk_put (cs := #[.string ((rd_T32 l0_1 x3_1).f0), .int .i64 ((rd_T32 l0_1 x3_1).f1), .int .i64 0, .string (⟨#[]⟩ : ByteArray), .slice none 0 0, .slice none 0 0, .slice none 0 0]) ?_ 2 _ rfl; refine bp ?_; refine blk_put (cs := #[.string ((rd_T32 l0_1 x3_1).f0), .int .i64 0, .int .i64 0, .string (⟨#[]⟩ : ByteArray), .slice none 0 0, .slice none 0 0, .slice none 0 0]) ?_ 1 _ rfl; refine bp ?_; refine blk_put (cs := #[.string (⟨#[]⟩ : ByteArray), .int .i64 0, .int .i64 0, .string (⟨#[]⟩ : ByteArray), .slice none 0 0, .slice none 0 0, .slice none 0 0]) ?_ 0 _ rfl; refine bp ?_; exact BK648.out⟩
        have n2_ : Aside0 (Below w.heap.size w (((((((w7.setCell ⟨gb648, 0, none⟩ (.string ((rd_T32 l0_1 x3_1).f0))).setCell ⟨gb648, 1, none⟩ (.int .i64 ((rd_T32 l0_1 x3_1).f1))).setCell ⟨gb648, 2, none⟩ (.int .i64 ((rd_T32 l0_1 x3_1).f2))).setCell ⟨gb648, 3, none⟩ (.string ((rd_T32 l0_1 x3_1).f3))).setCell ⟨gb648, 4, none⟩ (.slice A647_4 ((rd_T32 l0_1 x3_1).f4).length c647_4)).setCell ⟨gb648, 5, none⟩ (.slice A647_5 ((rd_T32 l0_1 x3_1).f5).length c647_5)).setCell ⟨gb648, 6, none⟩ (.slice A647_6 ((rd_T32 l0_1 x3_1).f6).length c647_6))) := ⟨by exact b2 HB GE645 GE648⟩
        (try clear BK645)
        (try clear BK648)
        (try clear HB)
        generalize (((((((w7.setCell ⟨gb648, 0, none⟩ (.string ((rd_T32 l0_1 x3_1).f0))).setCell ⟨gb648, 1, none⟩ (.int .i64 ((rd_T32 l0_1 x3_1).f1))).setCell ⟨gb648, 2, none⟩ (.int .i64 ((rd_T32 l0_1 x3_1).f2))).setCell ⟨gb648, 3, none⟩ (.string ((rd_T32 l0_1 x3_1).f3))).setCell ⟨gb648, 4, none⟩ (.slice A647_4 ((rd_T32 l0_1 x3_1).f4).length c647_4)).setCell ⟨gb648, 5, none⟩ (.slice A647_5 ((rd_T32 l0_1 x3_1).f5).length c647_5)).setCell ⟨gb648, 6, none⟩ (.slice A647_6 ((rd_T32 l0_1 x3_1).f6).length c647_6)) = w17 at n0_ n1_ n2_ ⊢
        have BK645 := n0_
        have BK648 := n1_
        have HB := n2_
        clear n0_ n1_ n2_
        have n0_ := zq9 (blk_drew BK645.out)
        have n1_ := zq9 (blk_drew BK648.out)
        have n2_ := zq9 (zq4 HB.out)
        clear BK645
        clear BK648
        clear HB
        have BK645 := n0_
        have BK648 := n1_
        have HB := n2_
        clear n0_ n1_ n2_
        by_cases c13 : x3_1 > 0
        ·rw [if_pos c13] at H
         have c13b0 : decide (0 < x3_1) = true := decide_eq_true c13
         clear c13
         obtain ⟨ji14, hji14⟩ : ∃ j_ : Int, (wrap64 (x3_1 - 1)) = j_ := ⟨_, rfl⟩
         replace H : (if 0 ≤ (ji14) then (if (ji14) < (l0_1.length : Int) then (spec_BaseOk.j1 k1 x3_1 (!(Op.bytesLess (((rd_T32 l0_1 (ji14)).f0).toList) (((rd_T32 l0_1 x3_1).f0).toList))) a0_0 l0_1) else (none)) else (none)) = some r := by first | (rw [hji14] at H; exact H) | (simp only [hji14] at H ⊢; exact H)
         (try rw [hji14] at A10)
         have hji14w : (IntKind.i64.wrap (x3_1 - 1)) = ji14 := (i64_w _).trans hji14
         by_cases c15 : 0 ≤ (ji14)
         ·rw [if_pos c15] at H
          have c15b0 : decide (0 ≤ (ji14)) = true := decide_eq_true c15
          clear c15
          by_cases c16 : (ji14) < (l0_1.length : Int)
          ·rw [if_pos c16] at H
           have c16b0 : decide ((ji14) < (l0_1.length : Int)) = true := decide_eq_true c16
           clear c16
           have H' := zq9 H
           clear H
           have p650 : 0 ≤ ((ji14) : Int) := of_decide_eq_true ‹_›
           have q650 : (ji14) < (l0_1.length : Int) := of_decide_eq_true ‹_›
           obtain ⟨ad650, A650_4, c650_4, A650_5, c650_5, A650_6, c650_6, e650, hx650_0, hx650_1, hx650_2, hx650_3, hx650_4, hx650_5, hx650_6, hl650_4, hi650_4, hl650_5, hi650_5, hl650_6, hi650_6⟩ := at_T32 HR0_1.out (ji14) p650 q650
           have hw650_6 := hx650_6
           have hw650_5 := hx650_5
           have hw650_4 := hx650_4
           have hw650_3 := hx650_3
           have hw650_2 := hx650_2
           have hw650_1 := hx650_1
           have hw650_0 := hx650_0
           obtain rfl : ad647 = ad650 := (by injection e650)
           replace hx650_0 := (HB.out.cell (zq8 w _ hx650_0)).trans hx650_0
           replace hx650_1 := (HB.out.cell (zq8 w _ hx650_1)).trans hx650_1
           replace hx650_2 := (HB.out.cell (zq8 w _ hx650_2)).trans hx650_2
           replace hx650_3 := (HB.out.cell (zq8 w _ hx650_3)).trans hx650_3
           replace hx650_4 := (HB.out.cell (zq8 w _ hx650_4)).trans hx650_4
           replace hx650_5 := (HB.out.cell (zq8 w _ hx650_5)).trans hx650_5
           replace hx650_6 := (HB.out.cell (zq8 w _ hx650_6)).trans hx650_6
           have HR650_4 := zq9 hi650_4
           have HC650_4 := zq9 hl650_4
           clear hi650_4 hl650_4
           have HR650_5 := zq9 hi650_5
           have HC650_5 := zq9 hl650_5
           clear hi650_5 hl650_5
           have HR650_6 := zq9 hi650_6
           have HC650_6 := zq9 hl650_6
           clear hi650_6 hl650_6
           replace p650 := eq_true p650
           replace q650 := eq_true q650
           refine start_ (n := 31) (S := fun w' => w'.cell? ⟨gb648, 0, none⟩ = some (.string ((rd_T32 l0_1 x3_1).f0)) ∧ w'.cell? ⟨gb648, 1, none⟩ = some (.int .i64 ((rd_T32 l0_1 x3_1).f1)) ∧ w'.cell? ⟨gb648, 2, none⟩ = some (.int .i64 ((rd_T32 l0_1 x3_1).f2)) ∧ w'.cell? ⟨gb648, 3, none⟩ = some (.string ((rd_T32 l0_1 x3_1).f3)) ∧ w'.cell? ⟨gb648, 4, none⟩ = some (.slice A647_4 ((rd_T32 l0_1 x3_1).f4).length c647_4) ∧ w'.cell? ⟨gb648, 5, none⟩ = some (.slice A647_5 ((rd_T32 l0_1 x3_1).f5).length c647_5) ∧ w'.cell? ⟨gb648, 6, none⟩ = some (.slice A647_6 ((rd_T32 l0_1 x3_1).f6).length c647_6) ∧ w'.cell? ⟨gb645, 0, none⟩ = some (.int .i64 a0_0) ∧ w'.cell? ⟨gb645, 1, none⟩ = some (.slice (some ad647) l0_1.length c0_1) ∧ w'.cell? (ad647.add (((ji14)).toNat * 7)) = some (.string ((rd_T32 l0_1 (ji14)).f0)) ∧ w'.cell? ⟨(ad647.add (((ji14)).toNat * 7)).block, (ad647.add (((ji14)).toNat * 7)).off + 1, none⟩ = some (.int .i64 ((rd_T32 l0_1 (ji14)).f1)) ∧ w'.cell? ⟨(ad647.add (((ji14)).toNat * 7)).block, (ad647.add (((ji14)).toNat * 7)).off + 2, none⟩ = some (.int .i64 ((rd_T32 l0_1 (ji14)).f2)) ∧ w'.cell? ⟨(ad647.add (((ji14)).toNat * 7)).block, (ad647.add (((ji14)).toNat * 7)).off + 3, none⟩ = some (.string ((rd_T32 l0_1 (ji14)).f3)) ∧ w'.cell? ⟨(ad647.add (((ji14)).toNat * 7)).block, (ad647.add (((ji14)).toNat * 7)).off + 4, none⟩ = some (.slice A650_4 ((rd_T32 l0_1 (ji14)).f4).length c650_4) ∧ w'.cell? ⟨(ad647.add (((ji14)).toNat * 7)).block, (ad647.add (((ji14)).toNat * 7)).off + 5, none⟩ = some (.slice A650_5 ((rd_T32 l0_1 (ji14)).f5).length c650_5) ∧ w'.cell? ⟨(ad647.add (((ji14)).toNat * 7)).block, (ad647.add (((ji14)).toNat * 7)).off + 6, none⟩ = some (.slice A650_6 ((rd_T32 l0_1 (ji14)).f6).length c650_6)) (ds := []) #[false, false, false, false, false, false, false, false, false, false, false, false, false, false, false, false, false, false, false, false, false, false, false, false, false, false, false, false, false, false, false] (by kernel_rfl) rfl rfl ⟨bc BK648 0, bc BK648 1, bc BK648 2, bc BK648 3, bc BK648 4, bc BK648 5, bc BK648 6, bc BK645 0, bc BK645 1, ((HB.out.cell (zq8 w _ hw650_0)).trans hw650_0), ((HB.out.cell (zq8 w _ hw650_1)).trans hw650_1), ((HB.out.cell (zq8 w _ hw650_2)).trans hw650_2), ((HB.out.cell (zq8 w _ hw650_3)).trans hw650_3), ((HB.out.cell (zq8 w _ hw650_4)).trans hw650_4), ((HB.out.cell (zq8 w _ hw650_5)).trans hw650_5), ((HB.out.cell (zq8 w _ hw650_6)).trans hw650_6)⟩ (fun hHeld => ?_); refine with_tabW spec_BaseOk.tab5 spec_BaseOk.bits5 (fun HT_ HW_ => ?_)
           generalize w17.drew = w18 at BK645 BK648 HB HR650_4 HR650_5 HR650_6 hx650_0 hx650_1 hx650_2 hx650_3 hx650_4 hx650_5 hx650_6 hHeld ⊢
           refine take_ (i := 0) (N := some 17) (v := ?_) (a' := ?_) (zb 31 1) rfl rfl (take_ofW HT_.out HW_.out (by kernel_rfl)) (fun _ _ _ h => h) (Or.inl ⟨by rfl, ?_⟩) hHeld ?_ ?_
           rotate_left; ·rintro w' ⟨s0, s1, s2, s3, s4, s5, s6, s7, s8, s9, s10, s11, s12, s13, s14, s15⟩; go_simp; with_reducible rfl
           rotate_left; ·simp only [Act.put, zq0, zq1, zq2, i64_w, i32_w]; rfl
           refine one_ (i := 1) (N := some 18) (zb 31 3) rfl rfl (one_of HT_.out (by kernel_rfl)) (by decide) (fun K hK => ?_)
           refine gs Try.func11 #[.agg #[.string ((rd_T32 l0_1 x3_1).f0), .int .i64 ((rd_T32 l0_1 x3_1).f1), .int .i64 ((rd_T32 l0_1 x3_1).f2), .string ((rd_T32 l0_1 x3_1).f3), .slice A647_4 ((rd_T32 l0_1 x3_1).f4).length c647_4, .slice A647_5 ((rd_T32 l0_1 x3_1).f5).length c647_5, .slice A647_6 ((rd_T32 l0_1 x3_1).f6).length c647_6]] ?_
           with_reducible refine (spec_EntryOk.calls k1 ((rd_T32 l0_1 x3_1).f0) ((rd_T32 l0_1 x3_1).f1) ((rd_T32 l0_1 x3_1).f2) ((rd_T32 l0_1 x3_1).f3) _ _ ((rd_T32 l0_1 x3_1).f4) _ _ ((rd_T32 l0_1 x3_1).f5) _ _ ((rd_T32 l0_1 x3_1).f6) true _ ?side1 ?side2 ?side3 ?side4 ?side5 ?side6 A10.out).mono ?_
           (case side1 => exact kc HR647_4 HB)
           (case side2 => exact HC647_4.out)
           (case side3 => exact kc HR647_5 HB)
           (case side4 => exact HC647_5.out)
           (case side5 => exact kc HR647_6 HB)
           (case side6 => exact HC647_6.out)
           rintro e w19 ⟨rfl, hb⟩
           refine ⟨_, rfl, ?_⟩
           have n0_ := zq9 (zq30 (g := gb645) (o := .cells #[.int .i64 a0_0, .slice (some ad647) l0_1.length c0_1] 46 (0, 0)) (by exact bk BK645) hb)
           have n1_ := zq9 (zq30 (g := gb648) (o := .cells #[.string ((rd_T32 l0_1 x3_1).f0), .int .i64 ((rd_T32 l0_1 x3_1).f1), .int .i64 ((rd_T32 l0_1 x3_1).f2), .string ((rd_T32 l0_1 x3_1).f3), .slice A647_4 ((rd_T32 l0_1 x3_1).f4).length c647_4, .slice A647_5 ((rd_T32 l0_1 x3_1).f5).length c647_5, .slice A647_6 ((rd_T32 l0_1 x3_1).f6).length c647_6] 32 (0, 0)) (by exact bk BK648) hb)
           have n2_ := zq9 (zq27 (by exact b2 HB GE645 GE648) hb)
           clear BK645
           clear BK648
           clear HB
           have BK645 := n0_
           have BK648 := n1_
           have HB := n2_
           clear n0_ n1_ n2_
           (try clear hb)
           (try clear hb2)
           (try clear hk)
           (try clear hi)
           refine hK.out _ _ ⟨bc BK648 0, bc BK648 1, bc BK648 2, bc BK648 3, bc BK648 4, bc BK648 5, bc BK648 6, bc BK645 0, bc BK645 1, ((HB.out.cell (zq8 w _ hw650_0)).trans hw650_0), ((HB.out.cell (zq8 w _ hw650_1)).trans hw650_1), ((HB.out.cell (zq8 w _ hw650_2)).trans hw650_2), ((HB.out.cell (zq8 w _ hw650_3)).trans hw650_3), ((HB.out.cell (zq8 w _ hw650_4)).trans hw650_4), ((HB.out.cell (zq8 w _ hw650_5)).trans hw650_5), ((HB.out.cell (zq8 w _ hw650_6)).trans hw650_6)⟩ (fun hHeld => ?_)
           clear hK K
           refine norm_ (a' := ?_) ?_ ?_
           rotate_left; ·show Act.put _ (some 18) _ = _; simp only [Act.put, zq0, zq1, zq2, i64_w, i32_w]; rfl
           refine pa HT_ 2 19 (zb 31 7) ?_
           refine pa HT_ 3 20 (zb 31 15) ?_
           refine pa HT_ 4 21 (zb 31 31) ?_
           refine take_ (i := 5) (N := some 22) (v := ?_) (a' := ?_) (zb 31 63) rfl rfl (take_ofW HT_.out HW_.out (by kernel_rfl)) (fun _ _ _ h => h) (Or.inl ⟨by rfl, ?_⟩) hHeld ?_ ?_
           rotate_left; ·rintro w' ⟨s0, s1, s2, s3, s4, s5, s6, s7, s8, s9, s10, s11, s12, s13, s14, s15⟩; go_simp; with_reducible rfl
           rotate_left; ·simp only [Act.put, zq0, zq1, zq2, i64_w, i32_w]; rfl
           refine pa HT_ 6 23 (zb 31 127) ?_
           refine pa HT_ 7 24 (zb 31 255) ?_
           refine pb HT_ 8 25 (zb 31 511) ?_
           refine pb HT_ 9 26 (zb 31 1023) ?_
           refine pb HT_ 10 27 (zb 31 2047) ?_
           refine pb HT_ 11 28 (zb 31 4095) ?_
           refine pb HT_ 12 29 (zb 31 8191) ?_
           refine pa HT_ 13 30 (zb 31 16383) ?_
           refine pa HT_ 14 31 (zb 31 32767) ?_
           refine pa HT_ 15 32 (zb 31 65535) ?_
           refine pa HT_ 16 33 (zb 31 131071) ?_
           refine pa HT_ 17 34 (zb 31 262143) ?_
           refine pa HT_ 18 35 (zb 31 524287) ?_
           refine pa HT_ 19 36 (zb 31 1048575) ?_
           refine pa HT_ 21 38 (zb 31 3145727) ?_
           refine pa HT_ 22 39 (zb 31 7340031) ?_
           refine pa HT_ 26 43 (zb 31 74448895) ?_
           refine take_ (i := 20) (N := some 37) (v := ?_) (a' := ?_) (zb 31 75497471) rfl rfl (take_ofW HT_.out HW_.out (by kernel_rfl)) (fun _ _ _ h => h) (Or.inl ⟨by rfl, ?_⟩) hHeld ?_ ?_
           rotate_left; ·rintro w' ⟨s0, s1, s2, s3, s4, s5, s6, s7, s8, s9, s10, s11, s12, s13, s14, s15⟩; go_simp; with_reducible rfl
           rotate_left; ·simp only [Act.put, zq0, zq1, zq2, i64_w, i32_w]; rfl
           refine pa HT_ 23 40 (zb 31 83886079) ?_
           refine pa HT_ 24 41 (zb 31 100663295) ?_
           refine take_ (i := 25) (N := some 42) (v := ?_) (a' := ?_) (zb 31 134217727) rfl rfl (take_ofW HT_.out HW_.out (by kernel_rfl)) (fun _ _ _ h => h) (Or.inl ⟨by rfl, ?_⟩) hHeld ?_ ?_
           rotate_left; ·rintro w' ⟨s0, s1, s2, s3, s4, s5, s6, s7, s8, s9, s10, s11, s12, s13, s14, s15⟩; go_simp; with_reducible rfl
           rotate_left; ·simp only [Act.put, zq0, zq1, zq2, i64_w, i32_w]; rfl
           refine take_ (i := 27) (N := some 44) (v := ?_) (a' := ?_) (zb 31 268435455) rfl rfl (take_ofW HT_.out HW_.out (by kernel_rfl)) (fun _ _ _ h => h) (Or.inl ⟨by rfl, ?_⟩) hHeld ?_ ?_
           rotate_left; ·rintro w' ⟨s0, s1, s2, s3, s4, s5, s6, s7, s8, s9, s10, s11, s12, s13, s14, s15⟩; go_simp; with_reducible rfl
           rotate_left; ·simp only [Act.put, zq0, zq1, zq2, i64_w, i32_w]; rfl
           refine pa HT_ 28 45 (zb 31 536870911) ?_
           refine pa HT_ 29 46 (zb 31 1073741823) ?_
           refine pa HT_ 30 47 (zb 31 2147483647) ?_
           refine done_ (done_of HT_.out (by kernel_rfl)) ?_
           try go_wp2
           go_meet
           case rel => exact ⟨_, (!(Op.bytesLess (((rd_T32 l0_1 (ji14)).f0).toList) (((rd_T32 l0_1 x3_1).f0).toList))), (by first | rfl | (simp; done) | (simp only [← hji14] <;> (first | rfl | simp)) | (simp [*]; done)), H', ⟨by have := HK1.out; first | omega | exact Nat.le_refl _⟩, ⟨by refine bp ?_; exact BK645.out⟩, ⟨by refine bp ?_; exact BK648.out⟩, ⟨by exact b2 HB GE645 GE648⟩⟩
          ·rw [if_neg c16] at H
           exact absurd H (by simp)
         ·rw [if_neg c15] at H
          exact absurd H (by simp)
        ·rw [if_neg c13] at H
         have c13b0 : decide (0 < x3_1) = false := decide_eq_false c13
         clear c13
         have H' := zq9 H
         clear H
         refine start_ (n := 31) (S := fun w' => w'.cell? ⟨gb648, 0, none⟩ = some (.string ((rd_T32 l0_1 x3_1).f0)) ∧ w'.cell? ⟨gb648, 1, none⟩ = some (.int .i64 ((rd_T32 l0_1 x3_1).f1)) ∧ w'.cell? ⟨gb648, 2, none⟩ = some (.int .i64 ((rd_T32 l0_1 x3_1).f2)) ∧ w'.cell? ⟨gb648, 3, none⟩ = some (.string ((rd_T32 l0_1 x3_1).f3)) ∧ w'.cell? ⟨gb648, 4, none⟩ = some (.slice A647_4 ((rd_T32 l0_1 x3_1).f4).length c647_4) ∧ w'.cell? ⟨gb648, 5, none⟩ = some (.slice A647_5 ((rd_T32 l0_1 x3_1).f5).length c647_5) ∧ w'.cell? ⟨gb648, 6, none⟩ = some (.slice A647_6 ((rd_T32 l0_1 x3_1).f6).length c647_6)) (ds := []) #[false, false, false, false, false, false, false, false, false, false, false, false, false, false, false, false, false, false, false, false, false, false, false, false, false, false, false, false, false, false, false] (by kernel_rfl) rfl rfl ⟨bc BK648 0, bc BK648 1, bc BK648 2, bc BK648 3, bc BK648 4, bc BK648 5, bc BK648 6⟩ (fun hHeld => ?_); refine with_tabW spec_BaseOk.tab5 spec_BaseOk.bits5 (fun HT_ HW_ => ?_)
         generalize w17.drew = w21 at BK645 BK648 HB hHeld ⊢
         refine take_ (i := 0) (N := some 17) (v := ?_) (a' := ?_) (zb 31 1) rfl rfl (take_ofW HT_.out HW_.out (by kernel_rfl)) (fun _ _ _ h => h) (Or.inl ⟨by rfl, ?_⟩) hHeld ?_ ?_
         rotate_left; ·rintro w' ⟨s0, s1, s2, s3, s4, s5, s6⟩; go_simp; with_reducible rfl
         rotate_left; ·simp only [Act.put, zq0, zq1, zq2, i64_w, i32_w]; rfl
         refine one_ (i := 1) (N := some 18) (zb 31 3) rfl rfl (one_of HT_.out (by kernel_rfl)) (by decide) (fun K hK => ?_)
         refine gs Try.func11 #[.agg #[.string ((rd_T32 l0_1 x3_1).f0), .int .i64 ((rd_T32 l0_1 x3_1).f1), .int .i64 ((rd_T32 l0_1 x3_1).f2), .string ((rd_T32 l0_1 x3_1).f3), .slice A647_4 ((rd_T32 l0_1 x3_1).f4).length c647_4, .slice A647_5 ((rd_T32 l0_1 x3_1).f5).length c647_5, .slice A647_6 ((rd_T32 l0_1 x3_1).f6).length c647_6]] ?_
         with_reducible refine (spec_EntryOk.calls k1 ((rd_T32 l0_1 x3_1).f0) ((rd_T32 l0_1 x3_1).f1) ((rd_T32 l0_1 x3_1).f2) ((rd_T32 l0_1 x3_1).f3) _ _ ((rd_T32 l0_1 x3_1).f4) _ _ ((rd_T32 l0_1 x3_1).f5) _ _ ((rd_T32 l0_1 x3_1).f6) true _ ?side1 ?side2 ?side3 ?side4 ?side5 ?side6 A10.out).mono ?_
         (case side1 => exact kc HR647_4 HB)
         (case side2 => exact HC647_4.out)
         (case side3 => exact kc HR647_5 HB)
         (case side4 => exact HC647_5.out)
         (case side5 => exact kc HR647_6 HB)
         (case side6 => exact HC647_6.out)
         rintro e w22 ⟨rfl, hb⟩
         refine ⟨_, rfl, ?_⟩
         have n0_ := zq9 (zq30 (g := gb645) (o := .cells #[.int .i64 a0_0, .slice (some ad647) l0_1.length c0_1] 46 (0, 0)) (by exact bk BK645) hb)
         have n1_ := zq9 (zq30 (g := gb648) (o := .cells #[.string ((rd_T32 l0_1 x3_1).f0), .int .i64 ((rd_T32 l0_1 x3_1).f1), .int .i64 ((rd_T32 l0_1 x3_1).f2), .string ((rd_T32 l0_1 x3_1).f3), .slice A647_4 ((rd_T32 l0_1 x3_1).f4).length c647_4, .slice A647_5 ((rd_T32 l0_1 x3_1).f5).length c647_5, .slice A647_6 ((rd_T32 l0_1 x3_1).f6).length c647_6] 32 (0, 0)) (by exact bk BK648) hb)
         have n2_ := zq9 (zq27 (by exact b2 HB GE645 GE648) hb)
         clear BK645
         clear BK648
         clear HB
         have BK645 := n0_
         have BK648 := n1_
         have HB := n2_
         clear n0_ n1_ n2_
         (try clear hb)
         (try clear hb2)
         (try clear hk)
         (try clear hi)
         refine hK.out _ _ ⟨bc BK648 0, bc BK648 1, bc BK648 2, bc BK648 3, bc BK648 4, bc BK648 5, bc BK648 6⟩ (fun hHeld => ?_)
         clear hK K
         refine norm_ (a' := ?_) ?_ ?_
         rotate_left; ·show Act.put _ (some 18) _ = _; simp only [Act.put, zq0, zq1, zq2, i64_w, i32_w]; rfl
         refine pa HT_ 2 19 (zb 31 7) ?_
         refine pa HT_ 3 20 (zb 31 15) ?_
         refine pa HT_ 4 21 (zb 31 31) ?_
         refine take_ (i := 5) (N := some 22) (v := ?_) (a' := ?_) (zb 31 63) rfl rfl (take_ofW HT_.out HW_.out (by kernel_rfl)) (fun _ _ _ h => h) (Or.inl ⟨by rfl, ?_⟩) hHeld ?_ ?_
         rotate_left; ·rintro w' ⟨s0, s1, s2, s3, s4, s5, s6⟩; go_simp; with_reducible rfl
         rotate_left; ·simp only [Act.put, zq0, zq1, zq2, i64_w, i32_w]; rfl
         refine pa HT_ 6 23 (zb 31 127) ?_
         refine pa HT_ 7 24 (zb 31 255) ?_
         refine pb HT_ 8 25 (zb 31 511) ?_
         refine pb HT_ 9 26 (zb 31 1023) ?_
         refine pb HT_ 10 27 (zb 31 2047) ?_
         refine pb HT_ 11 28 (zb 31 4095) ?_
         refine pb HT_ 12 29 (zb 31 8191) ?_
         refine pa HT_ 13 30 (zb 31 16383) ?_
         refine pa HT_ 14 31 (zb 31 32767) ?_
         refine pa HT_ 15 32 (zb 31 65535) ?_
         refine pa HT_ 16 33 (zb 31 131071) ?_
         refine pa HT_ 17 34 (zb 31 262143) ?_
         refine pa HT_ 18 35 (zb 31 524287) ?_
         refine pb HT_ 19 36 (zb 31 1048575) ?_
         refine pb HT_ 20 37 (zb 31 2097151) ?_
         refine pb HT_ 21 38 (zb 31 4194303) ?_
         refine pb HT_ 22 39 (zb 31 8388607) ?_
         refine pb HT_ 23 40 (zb 31 16777215) ?_
         refine pb HT_ 24 41 (zb 31 33554431) ?_
         refine pb HT_ 25 42 (zb 31 67108863) ?_
         refine pb HT_ 26 43 (zb 31 134217727) ?_
         refine pb HT_ 27 44 (zb 31 268435455) ?_
         refine pb HT_ 28 45 (zb 31 536870911) ?_
         refine pa HT_ 29 46 (zb 31 1073741823) ?_
         refine pa HT_ 30 47 (zb 31 2147483647) ?_
         refine done_ (done_of HT_.out (by kernel_rfl)) ?_
         try go_wp2
         go_meet
         case rel => exact ⟨_, (false), (by first | rfl | (simp; done) | (simp [*]; done)), H', ⟨by have := HK1.out; first | omega | exact Nat.le_refl _⟩, ⟨by refine bp ?_; exact BK645.out⟩, ⟨by refine bp ?_; exact BK648.out⟩, ⟨by exact b2 HB GE645 GE648⟩⟩
       ·rw [if_neg c12] at H
        have c12b0 : (((rd_T32 l0_1 x3_1).f1) == 0) = false := beq_eq_false_iff_ne.mpr c12
        have c12b1 : (((rd_T32 l0_1 x3_1).f1) != 0) = true := bne_iff_ne.mpr c12
        (first | rw [c12b0] | (simp only [i64_w, i32_w]; rw [c12b0]) | skip)
        try go_wp2
        have n0_ : Aside0 ((((((((w7.setCell ⟨gb648, 0, none⟩ (.string ((rd_T32 l0_1 x3_1).f0))).setCell ⟨gb648, 1, none⟩ (.int .i64 ((rd_T32 l0_1 x3_1).f1))).setCell ⟨gb648, 2, none⟩ (.int .i64 ((rd_T32 l0_1 x3_1).f2))).setCell ⟨gb648, 3, none⟩ (.string ((rd_T32 l0_1 x3_1).f3))).setCell ⟨gb648, 4, none⟩ (.slice A647_4 ((rd_T32 l0_1 x3_1).f4).length c647_4)).setCell ⟨gb648, 5, none⟩ (.slice A647_5 ((rd_T32 l0_1 x3_1).f5).length c647_5)).setCell ⟨gb648, 6, none⟩ (.slice A647_6 ((rd_T32 l0_1 x3_1).f6).length c647_6)).heap[gb645]? = some (.cells #[.int .i64 a0_0, .slice (some ad647) l0_1.length c0_1] 46 (0, 0))) := ⟨by refine bp ?_; refine blk_far ?_ NB645_648.out _; refine bp ?_; refine blk_far ?_ NB645_648.out _; refine bp ?_; refine blk_far ?_ NB645_648.out _; refine bp ?_; refine blk_far ?_ NB645_648.out _; refine bp ?_; refine blk_far ?_ NB645_648.out _; refine bp ?_; refine blk_far ?_ NB645_648.out _; refine bp ?_; refine blk_far ?_ NB645_648.out _; refine bp ?_; exact BK645.out⟩
        have n1_ : Aside0 ((((((((w7.setCell ⟨gb648, 0, none⟩ (.string ((rd_T32 l0_1 x3_1).f0))).setCell ⟨gb648, 1, none⟩ (.int .i64 ((rd_T32 l0_1 x3_1).f1))).setCell ⟨gb648, 2, none⟩ (.int .i64 ((rd_T32 l0_1 x3_1).f2))).setCell ⟨gb648, 3, none⟩ (.string ((rd_T32 l0_1 x3_1).f3))).setCell ⟨gb648, 4, none⟩ (.slice A647_4 ((rd_T32 l0_1 x3_1).f4).length c647_4)).setCell ⟨gb648, 5, none⟩ (.slice A647_5 ((rd_T32 l0_1 x3_1).f5).length c647_5)).setCell ⟨gb648, 6, none⟩ (.slice A647_6 ((rd_T32 l0_1 x3_1).f6).length c647_6)).heap[gb648]? = some (.cells #[.string ((rd_T32 l0_1 x3_1).f0), .int .i64 ((rd_T32 l0_1 x3_1).f1), .int .i64 ((rd_T32 l0_1 x3_1).f2), .string ((rd_T32 l0_1 x3_1).f3), .slice A647_4 ((rd_T32 l0_1 x3_1).f4).length c647_4, .slice A647_5 ((rd_T32 l0_1 x3_1).f5).length c647_5, .slice A647_6 ((rd_T32 l0_1 x3_1).f6).length c647_6] 32 (0, 0))) := ⟨by refine bp ?_; refine blk_put (cs := #[.string ((rd_T32 l0_1 x3_1).f0), .int .i64 ((rd_T32 l0_1 x3_1).f1), .int .i64 ((rd_T32 l0_1 x3_1).f2), .string ((rd_T32 l0_1 x3_1).f3), .slice A647_4 ((rd_T32 l0_1 x3_1).f4).length c647_4, .slice A647_5 ((rd_T32 l0_1 x3_1).f5).length c647_5, .slice none 0 0]) ?_ 6 _ rfl; refine bp ?_; refine blk_put (cs := #[.string ((rd_T32 l0_1 x3_1).f0), .int .i64 ((rd_T32 l0_1 x3_1).f1), .int .i64 ((rd_T32 l0_1 x3_1).f2), .string ((rd_T32 l0_1 x3_1).f3), .slice A647_4 ((rd_T32 l0_1 x3_1).f4).length c647_4, .slice none 0 0, .slice none 0 0]) ?_ 5 _ rfl; refine bp ?_; refine blk_put (cs := #[.string ((rd_T32 l0_1 x3_1).f0), .int .i64 ((rd_T32 l0_1 x3_1).f1), .int .i64 ((rd_T32 l0_1 x3_1).f2), .string ((rd_T32 l0_1 x3_1).f3), .slice none 0 0, .slice none 0 0, .slice none 0 0]) ?_ 4 _ rfl; refine bp ?_; refine blk_put (cs := #[.string ((rd_T32 l0_1 x3_1).f0), .int .i64 ((rd_T32 l0_1 x3_1).f1), .int .i64 ((rd_T32 l0_1 x3_1).f2), .string (⟨#[]⟩ : ByteArray), .slice none 0 0, .slice none 0 0, .slice none 0 0]) ?_ 3 _ rfl; refine bp ?_; refine blk_put (cs := #[.string ((rd_T32 l0_1 x3_1).f0), .int .i64 ((rd_T32 l0_1 x3_1).f1), .int .i64 0, .string (⟨#[]⟩ : ByteArray), .slice none 0 0, .slice none 0 0, .slice none 0 0]) ?_ 2 _ rfl; refine bp ?_; refine blk_put (cs := #[.string ((rd_T32 l0_1 x3_1).f0), .int .i64 0, .int .i64 0, .string (⟨#[]⟩ : ByteArray), .slice none 0 0, .slice none 0 0, .slice none 0 0]) ?_ 1 _ rfl; refine bp ?_; refine blk_put (cs := #[.string (⟨#[]⟩ : ByteArray), .int .i64 0, .int .i64 0, .string (⟨#[]⟩ : ByteArray), .slice none 0 0, .slice none 0 0, .slice none 0 0]) ?_ 0 _ rfl; refine bp ?_; exact BK648.out⟩
        have n2_ : Aside0 (Below w.heap.size w (((((((w7.setCell ⟨gb648, 0, none⟩ (.string ((rd_T32 l0_1 x3_1).f0))).setCell ⟨gb648, 1, none⟩ (.int .i64 ((rd_T32 l0_1 x3_1).f1))).setCell ⟨gb648, 2, none⟩ (.int .i64 ((rd_T32 l0_1 x3_1).f2))).setCell ⟨gb648, 3, none⟩ (.string ((rd_T32 l0_1 x3_1).f3))).setCell ⟨gb648, 4, none⟩ (.slice A647_4 ((rd_T32 l0_1 x3_1).f4).length c647_4)).setCell ⟨gb648, 5, none⟩ (.slice A647_5 ((rd_T32 l0_1 x3_1).f5).length c647_5)).setCell ⟨gb648, 6, none⟩ (.slice A647_6 ((rd_T32 l0_1 x3_1).f6).length c647_6))) := ⟨by exact b2 HB GE645 GE648⟩
        (try clear BK645)
        (try clear BK648)
        (try clear HB)
        generalize (((((((w7.setCell ⟨gb648, 0, none⟩ (.string ((rd_T32 l0_1 x3_1).f0))).setCell ⟨gb648, 1, none⟩ (.int .i64 ((rd_T32 l0_1 x3_1).f1))).setCell ⟨gb648, 2, none⟩ (.int .i64 ((rd_T32 l0_1 x3_1).f2))).setCell ⟨gb648, 3, none⟩ (.string ((rd_T32 l0_1 x3_1).f3))).setCell ⟨gb648, 4, none⟩ (.slice A647_4 ((rd_T32 l0_1 x3_1).f4).length c647_4)).setCell ⟨gb648, 5, none⟩ (.slice A647_5 ((rd_T32 l0_1 x3_1).f5).length c647_5)).setCell ⟨gb648, 6, none⟩ (.slice A647_6 ((rd_T32 l0_1 x3_1).f6).length c647_6)) = w24 at n0_ n1_ n2_ ⊢
        have BK645 := n0_
        have BK648 := n1_
        have HB := n2_
        clear n0_ n1_ n2_
        have n0_ := zq9 (blk_drew BK645.out)
        have n1_ := zq9 (blk_drew BK648.out)
        have n2_ := zq9 (zq4 HB.out)
        clear BK645
        clear BK648
        clear HB
        have BK645 := n0_
        have BK648 := n1_
        have HB := n2_
        clear n0_ n1_ n2_
        by_cases c23 : ((rd_T32 l0_1 x3_1).f1) ≤ a0_0
        ·rw [if_pos c23] at H
         have c23b0 : decide (((rd_T32 l0_1 x3_1).f1) ≤ a0_0) = true := decide_eq_true c23
         clear c23
         have H' := zq9 H
         clear H
         refine start_ (n := 31) (S := fun w' => w'.cell? ⟨gb648, 0, none⟩ = some (.string ((rd_T32 l0_1 x3_1).f0)) ∧ w'.cell? ⟨gb648, 1, none⟩ = some (.int .i64 ((rd_T32 l0_1 x3_1).f1)) ∧ w'.cell? ⟨gb648, 2, none⟩ = some (.int .i64 ((rd_T32 l0_1 x3_1).f2)) ∧ w'.cell? ⟨gb648, 3, none⟩ = some (.string ((rd_T32 l0_1 x3_1).f3)) ∧ w'.cell? ⟨gb648, 4, none⟩ = some (.slice A647_4 ((rd_T32 l0_1 x3_1).f4).length c647_4) ∧ w'.cell? ⟨gb648, 5, none⟩ = some (.slice A647_5 ((rd_T32 l0_1 x3_1).f5).length c647_5) ∧ w'.cell? ⟨gb648, 6, none⟩ = some (.slice A647_6 ((rd_T32 l0_1 x3_1).f6).length c647_6) ∧ w'.cell? ⟨gb645, 0, none⟩ = some (.int .i64 a0_0) ∧ w'.cell? ⟨gb645, 1, none⟩ = some (.slice (some ad647) l0_1.length c0_1)) (ds := []) #[false, false, false, false, false, false, false, false, false, false, false, false, false, false, false, false, false, false, false, false, false, false, false, false, false, false, false, false, false, false, false] (by kernel_rfl) rfl rfl ⟨bc BK648 0, bc BK648 1, bc BK648 2, bc BK648 3, bc BK648 4, bc BK648 5, bc BK648 6, bc BK645 0, bc BK645 1⟩ (fun hHeld => ?_); refine with_tabW spec_BaseOk.tab5 spec_BaseOk.bits5 (fun HT_ HW_ => ?_)
         generalize w24.drew = w25 at BK645 BK648 HB hHeld ⊢
         refine take_ (i := 0) (N := some 17) (v := ?_) (a' := ?_) (zb 31 1) rfl rfl (take_ofW HT_.out HW_.out (by kernel_rfl)) (fun _ _ _ h => h) (Or.inl ⟨by rfl, ?_⟩) hHeld ?_ ?_
         rotate_left; ·rintro w' ⟨s0, s1, s2, s3, s4, s5, s6, s7, s8⟩; go_simp; with_reducible rfl
         rotate_left; ·simp only [Act.put, zq0, zq1, zq2, i64_w, i32_w]; rfl
         refine one_ (i := 1) (N := some 18) (zb 31 3) rfl rfl (one_of HT_.out (by kernel_rfl)) (by decide) (fun K hK => ?_)
         refine gs Try.func11 #[.agg #[.string ((rd_T32 l0_1 x3_1).f0), .int .i64 ((rd_T32 l0_1 x3_1).f1), .int .i64 ((rd_T32 l0_1 x3_1).f2), .string ((rd_T32 l0_1 x3_1).f3), .slice A647_4 ((rd_T32 l0_1 x3_1).f4).length c647_4, .slice A647_5 ((rd_T32 l0_1 x3_1).f5).length c647_5, .slice A647_6 ((rd_T32 l0_1 x3_1).f6).length c647_6]] ?_
         with_reducible refine (spec_EntryOk.calls k1 ((rd_T32 l0_1 x3_1).f0) ((rd_T32 l0_1 x3_1).f1) ((rd_T32 l0_1 x3_1).f2) ((rd_T32 l0_1 x3_1).f3) _ _ ((rd_T32 l0_1 x3_1).f4) _ _ ((rd_T32 l0_1 x3_1).f5) _ _ ((rd_T32 l0_1 x3_1).f6) true _ ?side1 ?side2 ?side3 ?side4 ?side5 ?side6 A10.out).mono ?_
         (case side1 => exact kc HR647_4 HB)
         (case side2 => exact HC647_4.out)
         (case side3 => exact kc HR647_5 HB)
         (case side4 => exact HC647_5.out)
         (case side5 => exact kc HR647_6 HB)
         (case side6 => exact HC647_6.out)
         rintro e w26 ⟨rfl, hb⟩
         refine ⟨_, rfl, ?_⟩
         have n0_ := zq9 (zq30 (g := gb645) (o := .cells #[.int .i64 a0_0, .slice (some ad647) l0_1.length c0_1] 46 (0, 0)) (by exact bk BK645) hb)
         have n1_ := zq9 (zq30 (g := gb648) (o := .cells #[.string ((rd_T32 l0_1 x3_1).f0), .int .i64 ((rd_T32 l0_1 x3_1).f1), .int .i64 ((rd_T32 l0_1 x3_1).f2), .string ((rd_T32 l0_1 x3_1).f3), .slice A647_4 ((rd_T32 l0_1 x3_1).f4).length c647_4, .slice A647_5 ((rd_T32 l0_1 x3_1).f5).length c647_5, .slice A647_6 ((rd_T32 l0_1 x3_1).f6).length c647_6] 32 (0, 0)) (by exact bk BK648) hb)
         have n2_ := zq9 (zq27 (by exact b2 HB GE645 GE648) hb)
         clear BK645
         clear BK648
         clear HB
         have BK645 := n0_
         have BK648 := n1_
         have HB := n2_
         clear n0_ n1_ n2_
         (try clear hb)
         (try clear hb2)
         (try clear hk)
         (try clear hi)
         refine hK.out _ _ ⟨bc BK648 0, bc BK648 1, bc BK648 2, bc BK648 3, bc BK648 4, bc BK648 5, bc BK648 6, bc BK645 0, bc BK645 1⟩ (fun hHeld => ?_)
         clear hK K
         refine norm_ (a' := ?_) ?_ ?_
         rotate_left; ·show Act.put _ (some 18) _ = _; simp only [Act.put, zq0, zq1, zq2, i64_w, i32_w]; rfl
         refine pa HT_ 2 19 (zb 31 7) ?_
         refine pa HT_ 3 20 (zb 31 15) ?_
         refine pa HT_ 4 21 (zb 31 31) ?_
         refine take_ (i := 5) (N := some 22) (v := ?_) (a' := ?_) (zb 31 63) rfl rfl (take_ofW HT_.out HW_.out (by kernel_rfl)) (fun _ _ _ h => h) (Or.inl ⟨by rfl, ?_⟩) hHeld ?_ ?_
         rotate_left; ·rintro w' ⟨s0, s1, s2, s3, s4, s5, s6, s7, s8⟩; go_simp; with_reducible rfl
         rotate_left; ·simp only [Act.put, zq0, zq1, zq2, i64_w, i32_w]; rfl
         refine pa HT_ 6 23 (zb 31 127) ?_
         refine pa HT_ 7 24 (zb 31 255) ?_
         refine pa HT_ 8 25 (zb 31 511) ?_
         refine pa HT_ 10 27 (zb 31 1535) ?_
         refine take_ (i := 9) (N := some 26) (v := ?_) (a' := ?_) (zb 31 2047) rfl rfl (take_ofW HT_.out HW_.out (by kernel_rfl)) (fun _ _ _ h => h) (Or.inl ⟨by rfl, ?_⟩) hHeld ?_ ?_
         rotate_left; ·rintro w' ⟨s0, s1, s2, s3, s4, s5, s6, s7, s8⟩; go_simp; with_reducible rfl
         rotate_left; ·simp only [Act.put, zq0, zq1, zq2, i64_w, i32_w]; rfl
         refine take_ (i := 11) (N := some 28) (v := ?_) (a' := ?_) (zb 31 4095) rfl rfl (take_ofW HT_.out HW_.out (by kernel_rfl)) (fun _ _ _ h => h) (Or.inl ⟨by rfl, ?_⟩) hHeld ?_ ?_
         rotate_left; ·rintro w' ⟨s0, s1, s2, s3, s4, s5, s6, s7, s8⟩; go_simp; with_reducible rfl
         rotate_left; ·simp only [Act.put, zq0, zq1, zq2, i64_w, i32_w]; rfl
         refine pa HT_ 12 29 (zb 31 8191) ?_
         refine pa HT_ 13 30 (zb 31 16383) ?_
         refine pa HT_ 14 31 (zb 31 32767) ?_
         refine pa HT_ 15 32 (zb 31 65535) ?_
         refine pb HT_ 16 33 (zb 31 131071) ?_
         refine pb HT_ 17 34 (zb 31 262143) ?_
         refine pb HT_ 18 35 (zb 31 524287) ?_
         refine pb HT_ 19 36 (zb 31 1048575) ?_
         refine pb HT_ 20 37 (zb 31 2097151) ?_
         refine pb HT_ 21 38 (zb 31 4194303) ?_
         refine pb HT_ 22 39 (zb 31 8388607) ?_
         refine pb HT_ 23 40 (zb 31 16777215) ?_
         refine pb HT_ 24 41 (zb 31 33554431) ?_
         refine pb HT_ 25 42 (zb 31 67108863) ?_
         refine pb HT_ 26 43 (zb 31 134217727) ?_
         refine pb HT_ 27 44 (zb 31 268435455) ?_
         refine pb HT_ 28 45 (zb 31 536870911) ?_
         refine pb HT_ 29 46 (zb 31 1073741823) ?_
         refine pa HT_ 30 47 (zb 31 2147483647) ?_
         refine done_ (done_of HT_.out (by kernel_rfl)) ?_
         try go_wp2
         go_meet
         case rel => exact ⟨_, (true), (by first | rfl | (simp; done) | (simp [*]; done)), H', ⟨by have := HK1.out; first | omega | exact Nat.le_refl _⟩, ⟨by refine bp ?_; exact BK645.out⟩, ⟨by refine bp ?_; exact BK648.out⟩, ⟨by exact b2 HB GE645 GE648⟩⟩
        ·rw [if_neg c23] at H
         have c23b0 : decide (((rd_T32 l0_1 x3_1).f1) ≤ a0_0) = false := decide_eq_false c23
         clear c23
         by_cases c27 : x3_1 > 0
         ·rw [if_pos c27] at H
          have c27b0 : decide (0 < x3_1) = true := decide_eq_true c27
          clear c27
          obtain ⟨ji28, hji28⟩ : ∃ j_ : Int, (wrap64 (x3_1 - 1)) = j_ := ⟨_, rfl⟩
          replace H : (if 0 ≤ (ji28) then (if (ji28) < (l0_1.length : Int) then (spec_BaseOk.j1 k1 x3_1 (!(Op.bytesLess (((rd_T32 l0_1 (ji28)).f0).toList) (((rd_T32 l0_1 x3_1).f0).toList))) a0_0 l0_1) else (none)) else (none)) = some r := by first | (rw [hji28] at H; exact H) | (simp only [hji28] at H ⊢; exact H)
          (try rw [hji28] at A10)
          have hji28w : (IntKind.i64.wrap (x3_1 - 1)) = ji28 := (i64_w _).trans hji28
          by_cases c29 : 0 ≤ (ji28)
          ·rw [if_pos c29] at H
           have c29b0 : decide (0 ≤ (ji28)) = true := decide_eq_true c29
           clear c29
           by_cases c30 : (ji28) < (l0_1.length : Int)
           ·rw [if_pos c30] at H
            have c30b0 : decide ((ji28) < (l0_1.length : Int)) = true := decide_eq_true c30
            clear c30
            have H' := zq9 H
            clear H
            have p651 : 0 ≤ ((ji28) : Int) := of_decide_eq_true ‹_›
            have q651 : (ji28) < (l0_1.length : Int) := of_decide_eq_true ‹_›
            obtain ⟨ad651, A651_4, c651_4, A651_5, c651_5, A651_6, c651_6, e651, hx651_0, hx651_1, hx651_2, hx651_3, hx651_4, hx651_5, hx651_6, hl651_4, hi651_4, hl651_5, hi651_5, hl651_6, hi651_6⟩ := at_T32 HR0_1.out (ji28) p651 q651
            have hw651_6 := hx651_6
            have hw651_5 := hx651_5
            have hw651_4 := hx651_4
            have hw651_3 := hx651_3
            have hw651_2 := hx651_2
            have hw651_1 := hx651_1
            have hw651_0 := hx651_0
            obtain rfl : ad647 = ad651 := (by injection e651)
            replace hx651_0 := (HB.out.cell (zq8 w _ hx651_0)).trans hx651_0
            replace hx651_1 := (HB.out.cell (zq8 w _ hx651_1)).trans hx651_1
            replace hx651_2 := (HB.out.cell (zq8 w _ hx651_2)).trans hx651_2
            replace hx651_3 := (HB.out.cell (zq8 w _ hx651_3)).trans hx651_3
            replace hx651_4 := (HB.out.cell (zq8 w _ hx651_4)).trans hx651_4
            replace hx651_5 := (HB.out.cell (zq8 w _ hx651_5)).trans hx651_5
            replace hx651_6 := (HB.out.cell (zq8 w _ hx651_6)).trans hx651_6
            have HR651_4 := zq9 hi651_4
            have HC651_4 := zq9 hl651_4
            clear hi651_4 hl651_4
            have HR651_5 := zq9 hi651_5
            have HC651_5 := zq9 hl651_5
            clear hi651_5 hl651_5
            have HR651_6 := zq9 hi651_6
            have HC651_6 := zq9 hl651_6
            clear hi651_6 hl651_6
            replace p651 := eq_true p651
            replace q651 := eq_true q651
            refine start_ (n := 31) (S := fun w' => w'.cell? ⟨gb648, 0, none⟩ = some (.string ((rd_T32 l0_1 x3_1).f0)) ∧ w'.cell? ⟨gb648, 1, none⟩ = some (.int .i64 ((rd_T32 l0_1 x3_1).f1)) ∧ w'.cell? ⟨gb648, 2, none⟩ = some (.int .i64 ((rd_T32 l0_1 x3_1).f2)) ∧ w'.cell? ⟨gb648, 3, none⟩ = some (.string ((rd_T32 l0_1 x3_1).f3)) ∧ w'.cell? ⟨gb648, 4, none⟩ = some (.slice A647_4 ((rd_T32 l0_1 x3_1).f4).length c647_4) ∧ w'.cell? ⟨gb648, 5, none⟩ = some (.slice A647_5 ((rd_T32 l0_1 x3_1).f5).length c647_5) ∧ w'.cell? ⟨gb648, 6, none⟩ = some (.slice A647_6 ((rd_T32 l0_1 x3_1).f6).length c647_6) ∧ w'.cell? ⟨gb645, 0, none⟩ = some (.int .i64 a0_0) ∧ w'.cell? ⟨gb645, 1, none⟩ = some (.slice (some ad647) l0_1.length c0_1) ∧ w'.cell? (ad647.add (((ji28)).toNat * 7)) = some (.string ((rd_T32 l0_1 (ji28)).f0)) ∧ w'.cell? ⟨(ad647.add (((ji28)).toNat * 7)).block, (ad647.add (((ji28)).toNat * 7)).off + 1, none⟩ = some (.int .i64 ((rd_T32 l0_1 (ji28)).f1)) ∧ w'.cell? ⟨(ad647.add (((ji28)).toNat * 7)).block, (ad647.add (((ji28)).toNat * 7)).off + 2, none⟩ = some (.int .i64 ((rd_T32 l0_1 (ji28)).f2)) ∧ w'.cell? ⟨(ad647.add (((ji28)).toNat * 7)).block, (ad647.add (((ji28)).toNat * 7)).off + 3, none⟩ = some (.string ((rd_T32 l0_1 (ji28)).f3)) ∧ w'.cell? ⟨(ad647.add (((ji28)).toNat * 7)).block, (ad647.add (((ji28)).toNat * 7)).off + 4, none⟩ = some (.slice A651_4 ((rd_T32 l0_1 (ji28)).f4).length c651_4) ∧ w'.cell? ⟨(ad647.add (((ji28)).toNat * 7)).block, (ad647.add (((ji28)).toNat * 7)).off + 5, none⟩ = some (.slice A651_5 ((rd_T32 l0_1 (ji28)).f5).length c651_5) ∧ w'.cell? ⟨(ad647.add (((ji28)).toNat * 7)).block, (ad647.add (((ji28)).toNat * 7)).off + 6, none⟩ = some (.slice A651_6 ((rd_T32 l0_1 (ji28)).f6).length c651_6)) (ds := []) #[false, false, false, false, false, false, false, false, false, false, false, false, false, false, false, false, false, false, false, false, false, false, false, false, false, false, false, false, false, false, false] (by kernel_rfl) rfl rfl ⟨bc BK648 0, bc BK648 1, bc BK648 2, bc BK648 3, bc BK648 4, bc BK648 5, bc BK648 6, bc BK645 0, bc BK645 1, ((HB.out.cell (zq8 w _ hw651_0)).trans hw651_0), ((HB.out.cell (zq8 w _ hw651_1)).trans hw651_1), ((HB.out.cell (zq8 w _ hw651_2)).trans hw651_2), ((HB.out.cell (zq8 w _ hw651_3)).trans hw651_3), ((HB.out.cell (zq8 w _ hw651_4)).trans hw651_4), ((HB.out.cell (zq8 w _ hw651_5)).trans hw651_5), ((HB.out.cell (zq8 w _ hw651_6)).trans hw651_6)⟩ (fun hHeld => ?_); refine with_tabW spec_BaseOk.tab5 spec_BaseOk.bits5 (fun HT_ HW_ => ?_)
            generalize w24.drew = w32 at BK645 BK648 HB HR651_4 HR651_5 HR651_6 hx651_0 hx651_1 hx651_2 hx651_3 hx651_4 hx651_5 hx651_6 hHeld ⊢
            refine take_ (i := 0) (N := some 17) (v := ?_) (a' := ?_) (zb 31 1) rfl rfl (take_ofW HT_.out HW_.out (by kernel_rfl)) (fun _ _ _ h => h) (Or.inl ⟨by rfl, ?_⟩) hHeld ?_ ?_
            rotate_left; ·rintro w' ⟨s0, s1, s2, s3, s4, s5, s6, s7, s8, s9, s10, s11, s12, s13, s14, s15⟩; go_simp; with_reducible rfl
            rotate_left; ·simp only [Act.put, zq0, zq1, zq2, i64_w, i32_w]; rfl
            refine one_ (i := 1) (N := some 18) (zb 31 3) rfl rfl (one_of HT_.out (by kernel_rfl)) (by decide) (fun K hK => ?_)
            refine gs Try.func11 #[.agg #[.string ((rd_T32 l0_1 x3_1).f0), .int .i64 ((rd_T32 l0_1 x3_1).f1), .int .i64 ((rd_T32 l0_1 x3_1).f2), .string ((rd_T32 l0_1 x3_1).f3), .slice A647_4 ((rd_T32 l0_1 x3_1).f4).length c647_4, .slice A647_5 ((rd_T32 l0_1 x3_1).f5).length c647_5, .slice A647_6 ((rd_T32 l0_1 x3_1).f6).length c647_6]] ?_
            with_reducible refine (spec_EntryOk.calls k1 ((rd_T32 l0_1 x3_1).f0) ((rd_T32 l0_1 x3_1).f1) ((rd_T32 l0_1 x3_1).f2) ((rd_T32 l0_1 x3_1).f3) _ _ ((rd_T32 l0_1 x3_1).f4) _ _ ((rd_T32 l0_1 x3_1).f5) _ _ ((rd_T32 l0_1 x3_1).f6) true _ ?side1 ?side2 ?side3 ?side4 ?side5 ?side6 A10.out).mono ?_
            (case side1 => exact kc HR647_4 HB)
            (case side2 => exact HC647_4.out)
            (case side3 => exact kc HR647_5 HB)
            (case side4 => exact HC647_5.out)
            (case side5 => exact kc HR647_6 HB)
            (case side6 => exact HC647_6.out)
            rintro e w33 ⟨rfl, hb⟩
            refine ⟨_, rfl, ?_⟩
            have n0_ := zq9 (zq30 (g := gb645) (o := .cells #[.int .i64 a0_0, .slice (some ad647) l0_1.length c0_1] 46 (0, 0)) (by exact bk BK645) hb)
            have n1_ := zq9 (zq30 (g := gb648) (o := .cells #[.string ((rd_T32 l0_1 x3_1).f0), .int .i64 ((rd_T32 l0_1 x3_1).f1), .int .i64 ((rd_T32 l0_1 x3_1).f2), .string ((rd_T32 l0_1 x3_1).f3), .slice A647_4 ((rd_T32 l0_1 x3_1).f4).length c647_4, .slice A647_5 ((rd_T32 l0_1 x3_1).f5).length c647_5, .slice A647_6 ((rd_T32 l0_1 x3_1).f6).length c647_6] 32 (0, 0)) (by exact bk BK648) hb)
            have n2_ := zq9 (zq27 (by exact b2 HB GE645 GE648) hb)
            clear BK645
            clear BK648
            clear HB
            have BK645 := n0_
            have BK648 := n1_
            have HB := n2_
            clear n0_ n1_ n2_
            (try clear hb)
            (try clear hb2)
            (try clear hk)
            (try clear hi)
            refine hK.out _ _ ⟨bc BK648 0, bc BK648 1, bc BK648 2, bc BK648 3, bc BK648 4, bc BK648 5, bc BK648 6, bc BK645 0, bc BK645 1, ((HB.out.cell (zq8 w _ hw651_0)).trans hw651_0), ((HB.out.cell (zq8 w _ hw651_1)).trans hw651_1), ((HB.out.cell (zq8 w _ hw651_2)).trans hw651_2), ((HB.out.cell (zq8 w _ hw651_3)).trans hw651_3), ((HB.out.cell (zq8 w _ hw651_4)).trans hw651_4), ((HB.out.cell (zq8 w _ hw651_5)).trans hw651_5), ((HB.out.cell (zq8 w _ hw651_6)).trans hw651_6)⟩ (fun hHeld => ?_)
            clear hK K
            refine norm_ (a' := ?_) ?_ ?_
            rotate_left; ·show Act.put _ (some 18) _ = _; simp only [Act.put, zq0, zq1, zq2, i64_w, i32_w]; rfl
            refine pa HT_ 2 19 (zb 31 7) ?_
            refine pa HT_ 3 20 (zb 31 15) ?_
            refine pa HT_ 4 21 (zb 31 31) ?_
            refine take_ (i := 5) (N := some 22) (v := ?_) (a' := ?_) (zb 31 63) rfl rfl (take_ofW HT_.out HW_.out (by kernel_rfl)) (fun _ _ _ h => h) (Or.inl ⟨by rfl, ?_⟩) hHeld ?_ ?_
            rotate_left; ·rintro w' ⟨s0, s1, s2, s3, s4, s5, s6, s7, s8, s9, s10, s11, s12, s13, s14, s15⟩; go_simp; with_reducible rfl
            rotate_left; ·simp only [Act.put, zq0, zq1, zq2, i64_w, i32_w]; rfl
            refine pa HT_ 6 23 (zb 31 127) ?_
            refine pa HT_ 7 24 (zb 31 255) ?_
            refine pa HT_ 8 25 (zb 31 511) ?_
            refine pa HT_ 10 27 (zb 31 1535) ?_
            refine take_ (i := 9) (N := some 26) (v := ?_) (a' := ?_) (zb 31 2047) rfl rfl (take_ofW HT_.out HW_.out (by kernel_rfl)) (fun _ _ _ h => h) (Or.inl ⟨by rfl, ?_⟩) hHeld ?_ ?_
            rotate_left; ·rintro w' ⟨s0, s1, s2, s3, s4, s5, s6, s7, s8, s9, s10, s11, s12, s13, s14, s15⟩; go_simp; with_reducible rfl
            rotate_left; ·simp only [Act.put, zq0, zq1, zq2, i64_w, i32_w]; rfl
            refine take_ (i := 11) (N := some 28) (v := ?_) (a' := ?_) (zb 31 4095) rfl rfl (take_ofW HT_.out HW_.out (by kernel_rfl)) (fun _ _ _ h => h) (Or.inl ⟨by rfl, ?_⟩) hHeld ?_ ?_
            rotate_left; ·rintro w' ⟨s0, s1, s2, s3, s4, s5, s6, s7, s8, s9, s10, s11, s12, s13, s14, s15⟩; go_simp; with_reducible rfl
            rotate_left; ·simp only [Act.put, zq0, zq1, zq2, i64_w, i32_w]; rfl
            refine pa HT_ 12 29 (zb 31 8191) ?_
            refine pa HT_ 13 30 (zb 31 16383) ?_
            refine pa HT_ 14 31 (zb 31 32767) ?_
            refine pa HT_ 15 32 (zb 31 65535) ?_
            refine pa HT_ 16 33 (zb 31 131071) ?_
            refine pa HT_ 17 34 (zb 31 262143) ?_
            refine pa HT_ 18 35 (zb 31 524287) ?_
            refine pa HT_ 19 36 (zb 31 1048575) ?_
            refine pa HT_ 21 38 (zb 31 3145727) ?_
            refine pa HT_ 22 39 (zb 31 7340031) ?_
            refine pa HT_ 26 43 (zb 31 74448895) ?_
            refine take_ (i := 20) (N := some 37) (v := ?_) (a' := ?_) (zb 31 75497471) rfl rfl (take_ofW HT_.out HW_.out (by kernel_rfl)) (fun _ _ _ h => h) (Or.inl ⟨by rfl, ?_⟩) hHeld ?_ ?_
            rotate_left; ·rintro w' ⟨s0, s1, s2, s3, s4, s5, s6, s7, s8, s9, s10, s11, s12, s13, s14, s15⟩; go_simp; with_reducible rfl
            rotate_left; ·simp only [Act.put, zq0, zq1, zq2, i64_w, i32_w]; rfl
            refine pa HT_ 23 40 (zb 31 83886079) ?_
            refine pa HT_ 24 41 (zb 31 100663295) ?_
            refine take_ (i := 25) (N := some 42) (v := ?_) (a' := ?_) (zb 31 134217727) rfl rfl (take_ofW HT_.out HW_.out (by kernel_rfl)) (fun _ _ _ h => h) (Or.inl ⟨by rfl, ?_⟩) hHeld ?_ ?_
            rotate_left; ·rintro w' ⟨s0, s1, s2, s3, s4, s5, s6, s7, s8, s9, s10, s11, s12, s13, s14, s15⟩; go_simp; with_reducible rfl
            rotate_left; ·simp only [Act.put, zq0, zq1, zq2, i64_w, i32_w]; rfl
            refine take_ (i := 27) (N := some 44) (v := ?_) (a' := ?_) (zb 31 268435455) rfl rfl (take_ofW HT_.out HW_.out (by kernel_rfl)) (fun _ _ _ h => h) (Or.inl ⟨by rfl, ?_⟩) hHeld ?_ ?_
            rotate_left; ·rintro w' ⟨s0, s1, s2, s3, s4, s5, s6, s7, s8, s9, s10, s11, s12, s13, s14, s15⟩; go_simp; with_reducible rfl
            rotate_left; ·simp only [Act.put, zq0, zq1, zq2, i64_w, i32_w]; rfl
            refine pa HT_ 28 45 (zb 31 536870911) ?_
            refine pa HT_ 29 46 (zb 31 1073741823) ?_
            refine pa HT_ 30 47 (zb 31 2147483647) ?_
            refine done_ (done_of HT_.out (by kernel_rfl)) ?_
            try go_wp2
            go_meet
            case rel => exact ⟨_, (!(Op.bytesLess (((rd_T32 l0_1 (ji28)).f0).toList) (((rd_T32 l0_1 x3_1).f0).toList))), (by first | rfl | (simp; done) | (simp only [← hji28] <;> (first | rfl | simp)) | (simp [*]; done)), H', ⟨by have := HK1.out; first | omega | exact Nat.le_refl _⟩, ⟨by refine bp ?_; exact BK645.out⟩, ⟨by refine bp ?_; exact BK648.out⟩, ⟨by exact b2 HB GE645 GE648⟩⟩
           ·rw [if_neg c30] at H
            exact absurd H (by simp)
          ·rw [if_neg c29] at H
           exact absurd H (by simp)
         ·rw [if_neg c27] at H
          have c27b0 : decide (0 < x3_1) = false := decide_eq_false c27
          clear c27
          have H' := zq9 H
          clear H
          refine start_ (n := 31) (S := fun w' => w'.cell? ⟨gb648, 0, none⟩ = some (.string ((rd_T32 l0_1 x3_1).f0)) ∧ w'.cell? ⟨gb648, 1, none⟩ = some (.int .i64 ((rd_T32 l0_1 x3_1).f1)) ∧ w'.cell? ⟨gb648, 2, none⟩ = some (.int .i64 ((rd_T32 l0_1 x3_1).f2)) ∧ w'.cell? ⟨gb648, 3, none⟩ = some (.string ((rd_T32 l0_1 x3_1).f3)) ∧ w'.cell? ⟨gb648, 4, none⟩ = some (.slice A647_4 ((rd_T32 l0_1 x3_1).f4).length c647_4) ∧ w'.cell? ⟨gb648, 5, none⟩ = some (.slice A647_5 ((rd_T32 l0_1 x3_1).f5).length c647_5) ∧ w'.cell? ⟨gb648, 6, none⟩ = some (.slice A647_6 ((rd_T32 l0_1 x3_1).f6).length c647_6) ∧ w'.cell? ⟨gb645, 0, none⟩ = some (.int .i64 a0_0) ∧ w'.cell? ⟨gb645, 1, none⟩ = some (.slice (some ad647) l0_1.length c0_1)) (ds := []) #[false, false, false, false, false, false, false, false, false, false, false, false, false, false, false, false, false, false, false, false, false, false, false, false, false, false, false, false, false, false, false] (by kernel_rfl) rfl rfl ⟨bc BK648 0, bc BK648 1, bc BK648 2, bc BK648 3, bc BK648 4, bc BK648 5, bc BK648 6, bc BK645 0, bc BK645 1⟩ (fun hHeld => ?_); refine with_tabW spec_BaseOk.tab5 spec_BaseOk.bits5 (fun HT_ HW_ => ?_)
          generalize w24.drew = w35 at BK645 BK648 HB hHeld ⊢
          refine take_ (i := 0) (N := some 17) (v := ?_) (a' := ?_) (zb 31 1) rfl rfl (take_ofW HT_.out HW_.out (by kernel_rfl)) (fun _ _ _ h => h) (Or.inl ⟨by rfl, ?_⟩) hHeld ?_ ?_
          rotate_left; ·rintro w' ⟨s0, s1, s2, s3, s4, s5, s6, s7, s8⟩; go_simp; with_reducible rfl
          rotate_left; ·simp only [Act.put, zq0, zq1, zq2, i64_w, i32_w]; rfl
          refine one_ (i := 1) (N := some 18) (zb 31 3) rfl rfl (one_of HT_.out (by kernel_rfl)) (by decide) (fun K hK => ?_)
          refine gs Try.func11 #[.agg #[.string ((rd_T32 l0_1 x3_1).f0), .int .i64 ((rd_T32 l0_1 x3_1).f1), .int .i64 ((rd_T32 l0_1 x3_1).f2), .string ((rd_T32 l0_1 x3_1).f3), .slice A647_4 ((rd_T32 l0_1 x3_1).f4).length c647_4, .slice A647_5 ((rd_T32 l0_1 x3_1).f5).length c647_5, .slice A647_6 ((rd_T32 l0_1 x3_1).f6).length c647_6]] ?_
          with_reducible refine (spec_EntryOk.calls k1 ((rd_T32 l0_1 x3_1).f0) ((rd_T32 l0_1 x3_1).f1) ((rd_T32 l0_1 x3_1).f2) ((rd_T32 l0_1 x3_1).f3) _ _ ((rd_T32 l0_1 x3_1).f4) _ _ ((rd_T32 l0_1 x3_1).f5) _ _ ((rd_T32 l0_1 x3_1).f6) true _ ?side1 ?side2 ?side3 ?side4 ?side5 ?side6 A10.out).mono ?_
          (case side1 => exact kc HR647_4 HB)
          (case side2 => exact HC647_4.out)
          (case side3 => exact kc HR647_5 HB)
          (case side4 => exact HC647_5.out)
          (case side5 => exact kc HR647_6 HB)
          (case side6 => exact HC647_6.out)
          rintro e w36 ⟨rfl, hb⟩
          refine ⟨_, rfl, ?_⟩
          have n0_ := zq9 (zq30 (g := gb645) (o := .cells #[.int .i64 a0_0, .slice (some ad647) l0_1.length c0_1] 46 (0, 0)) (by exact bk BK645) hb)
          have n1_ := zq9 (zq30 (g := gb648) (o := .cells #[.string ((rd_T32 l0_1 x3_1).f0), .int .i64 ((rd_T32 l0_1 x3_1).f1), .int .i64 ((rd_T32 l0_1 x3_1).f2), .string ((rd_T32 l0_1 x3_1).f3), .slice A647_4 ((rd_T32 l0_1 x3_1).f4).length c647_4, .slice A647_5 ((rd_T32 l0_1 x3_1).f5).length c647_5, .slice A647_6 ((rd_T32 l0_1 x3_1).f6).length c647_6] 32 (0, 0)) (by exact bk BK648) hb)
          have n2_ := zq9 (zq27 (by exact b2 HB GE645 GE648) hb)
          clear BK645
          clear BK648
          clear HB
          have BK645 := n0_
          have BK648 := n1_
          have HB := n2_
          clear n0_ n1_ n2_
          (try clear hb)
          (try clear hb2)
          (try clear hk)
          (try clear hi)
          refine hK.out _ _ ⟨bc BK648 0, bc BK648 1, bc BK648 2, bc BK648 3, bc BK648 4, bc BK648 5, bc BK648 6, bc BK645 0, bc BK645 1⟩ (fun hHeld => ?_)
          clear hK K
          refine norm_ (a' := ?_) ?_ ?_
          rotate_left; ·show Act.put _ (some 18) _ = _; simp only [Act.put, zq0, zq1, zq2, i64_w, i32_w]; rfl
          refine pa HT_ 2 19 (zb 31 7) ?_
          refine pa HT_ 3 20 (zb 31 15) ?_
          refine pa HT_ 4 21 (zb 31 31) ?_
          refine take_ (i := 5) (N := some 22) (v := ?_) (a' := ?_) (zb 31 63) rfl rfl (take_ofW HT_.out HW_.out (by kernel_rfl)) (fun _ _ _ h => h) (Or.inl ⟨by rfl, ?_⟩) hHeld ?_ ?_
          rotate_left; ·rintro w' ⟨s0, s1, s2, s3, s4, s5, s6, s7, s8⟩; go_simp; with_reducible rfl
          rotate_left; ·simp only [Act.put, zq0, zq1, zq2, i64_w, i32_w]; rfl
          refine pa HT_ 6 23 (zb 31 127) ?_
          refine pa HT_ 7 24 (zb 31 255) ?_
          refine pa HT_ 8 25 (zb 31 511) ?_
          refine pa HT_ 10 27 (zb 31 1535) ?_
          refine take_ (i := 9) (N := some 26) (v := ?_) (a' := ?_) (zb 31 2047) rfl rfl (take_ofW HT_.out HW_.out (by kernel_rfl)) (fun _ _ _ h => h) (Or.inl ⟨by rfl, ?_⟩) hHeld ?_ ?_
          rotate_left; ·rintro w' ⟨s0, s1, s2, s3, s4, s5, s6, s7, s8⟩; go_simp; with_reducible rfl
          rotate_left; ·simp only [Act.put, zq0, zq1, zq2, i64_w, i32_w]; rfl
          refine take_ (i := 11) (N := some 28) (v := ?_) (a' := ?_) (zb 31 4095) rfl rfl (take_ofW HT_.out HW_.out (by kernel_rfl)) (fun _ _ _ h => h) (Or.inl ⟨by rfl, ?_⟩) hHeld ?_ ?_
          rotate_left; ·rintro w' ⟨s0, s1, s2, s3, s4, s5, s6, s7, s8⟩; go_simp; with_reducible rfl
          rotate_left; ·simp only [Act.put, zq0, zq1, zq2, i64_w, i32_w]; rfl
          refine pa HT_ 12 29 (zb 31 8191) ?_
          refine pa HT_ 13 30 (zb 31 16383) ?_
          refine pa HT_ 14 31 (zb 31 32767) ?_
          refine pa HT_ 15 32 (zb 31 65535) ?_
          refine pa HT_ 16 33 (zb 31 131071) ?_
          refine pa HT_ 17 34 (zb 31 262143) ?_
          refine pa HT_ 18 35 (zb 31 524287) ?_
          refine pb HT_ 19 36 (zb 31 1048575) ?_
          refine pb HT_ 20 37 (zb 31 2097151) ?_
          refine pb HT_ 21 38 (zb 31 4194303) ?_
          refine pb HT_ 22 39 (zb 31 8388607) ?_
          refine pb HT_ 23 40 (zb 31 16777215) ?_
          refine pb HT_ 24 41 (zb 31 33554431) ?_
          refine pb HT_ 25 42 (zb 31 67108863) ?_
          refine pb HT_ 26 43 (zb 31 134217727) ?_
          refine pb HT_ 27 44 (zb 31 268435455) ?_
          refine pb HT_ 28 45 (zb 31 536870911) ?_
          refine pa HT_ 29 46 (zb 31 1073741823) ?_
          refine pa HT_ 30 47 (zb 31 2147483647) ?_
          refine done_ (done_of HT_.out (by kernel_rfl)) ?_
          try go_wp2
          go_meet
          case rel => exact ⟨_, (false), (by first | rfl | (simp; done) | (simp [*]; done)), H', ⟨by have := HK1.out; first | omega | exact Nat.le_refl _⟩, ⟨by refine bp ?_; exact BK645.out⟩, ⟨by refine bp ?_; exact BK648.out⟩, ⟨by exact b2 HB GE645 GE648⟩⟩
      ·replace c11 := Bool.eq_false_iff.mpr c11
       subst c11
       have H1 : (spec_BaseOk.j1 k1 x3_1 true a0_0 l0_1) = some r := by rw [if_neg (show ¬ (false = true) by decide)] at H; exact H
       clear H
       have H := H1
       clear H1
       have H' := zq9 H
       clear H
       try go_wp2
       have n0_ : Aside0 ((((((((w7.setCell ⟨gb648, 0, none⟩ (.string ((rd_T32 l0_1 x3_1).f0))).setCell ⟨gb648, 1, none⟩ (.int .i64 ((rd_T32 l0_1 x3_1).f1))).setCell ⟨gb648, 2, none⟩ (.int .i64 ((rd_T32 l0_1 x3_1).f2))).setCell ⟨gb648, 3, none⟩ (.string ((rd_T32 l0_1 x3_1).f3))).setCell ⟨gb648, 4, none⟩ (.slice A647_4 ((rd_T32 l0_1 x3_1).f4).length c647_4)).setCell ⟨gb648, 5, none⟩ (.slice A647_5 ((rd_T32 l0_1 x3_1).f5).length c647_5)).setCell ⟨gb648, 6, none⟩ (.slice A647_6 ((rd_T32 l0_1 x3_1).f6).length c647_6)).heap[gb645]? = some (.cells #[.int .i64 a0_0, .slice (some ad647) l0_1.length c0_1] 46 (0, 0))) := ⟨by refine bp ?_; refine blk_far ?_ NB645_648.out _; refine bp ?_; refine blk_far ?_ NB645_648.out _; refine bp ?_; refine blk_far ?_ NB645_648.out _; refine bp ?_; refine blk_far ?_ NB645_648.out _; refine bp ?_; refine blk_far ?_ NB645_648.out _; refine bp ?_; refine blk_far ?_ NB645_648.out _; refine bp ?_; refine blk_far ?_ NB645_648.out _; refine bp ?_; exact BK645.out⟩
       have n1_ : Aside0 ((((((((w7.setCell ⟨gb648, 0, none⟩ (.string ((rd_T32 l0_1 x3_1).f0))).setCell ⟨gb648, 1, none⟩ (.int .i64 ((rd_T32 l0_1 x3_1).f1))).setCell ⟨gb648, 2, none⟩ (.int .i64 ((rd_T32 l0_1 x3_1).f2))).setCell ⟨gb648, 3, none⟩ (.string ((rd_T32 l0_1 x3_1).f3))).setCell ⟨gb648, 4, none⟩ (.slice A647_4 ((rd_T32 l0_1 x3_1).f4).length c647_4)).setCell ⟨gb648, 5, none⟩ (.slice A647_5 ((rd_T32 l0_1 x3_1).f5).length c647_5)).setCell ⟨gb648, 6, none⟩ (.slice A647_6 ((rd_T32 l0_1 x3_1).f6).length c647_6)).heap[gb648]? = some (.cells #[.string ((rd_T32 l0_1 x3_1).f0), .int .i64 ((rd_T32 l0_1 x3_1).f1), .int .i64 ((rd_T32 l0_1 x3_1).f2), .string ((rd_T32 l0_1 x3_1).f3), .slice A647_4 ((rd_T32 l0_1 x3_1).f4).length c647_4, .slice A647_5 ((rd_T32 l0_1 x3_1).f5).length c647_5, .slice A647_6 ((rd_T32 l0_1 x3_1).f6).length c647_6] 32 (0, 0))) := ⟨by refine bp ?_; refine blk_put (cs := #[.string ((rd_T32 l0_1 x3_1).f0), .int .i64 ((rd_T32 l0_1 x3_1).f1), .int .i64 ((rd_T32 l0_1 x3_1).f2), .string ((rd_T32 l0_1 x3_1).f3), .slice A647_4 ((rd_T32 l0_1 x3_1).f4).length c647_4, .slice A647_5 ((rd_T32 l0_1 x3_1).f5).length c647_5, .slice none 0 0]) ?_ 6 _ rfl; refine bp ?_; refine blk_put (cs := #[.string ((rd_T32 l0_1 x3_1).f0), .int .i64 ((rd_T32 l0_1 x3_1).f1), .int .i64 ((rd_T32 l0_1 x3_1).f2), .string ((rd_T32 l0_1 x3_1).f3), .slice A647_4 ((rd_T32 l0_1 x3_1).f4).length c647_4, .slice none 0 0, .slice none 0 0]) ?_ 5 _ rfl; refine bp ?_; refine blk_put (cs := #[.string ((rd_T32 l0_1 x3_1).f0), .int .i64 ((rd_T32 l0_1 x3_1).f1), .int .i64 ((rd_T32 l0_1 x3_1).f2), .string ((rd_T32 l0_1 x3_1).f3), .slice none 0 0, .slice none 0 0, .slice none 0 0]) ?_ 4 _ rfl; refine bp ?_; refine blk_put (cs := #[.string ((rd_T32 l0_1 x3_1).f0), .int .i64 ((rd_T32 l0_1 x3_1).f1), .int .i64 ((rd_T32 l0_1 x3_1).f2), .string (⟨#[]⟩ : ByteArray), .slice none 0 0, .slice none 0 0, .slice none 0 0]) ?_ 3 _ rfl; refine bp ?_; refine blk_put (cs := #[.string ((rd_T32 l0_1 x3_1).f0), .int .i64 ((rd_T32 l0_1 x3_1).f1), .int .i64 0, .string (⟨#[]⟩ : ByteArray), .slice none 0 0, .slice none 0 0, .slice none 0 0]) ?_ 2 _ rfl; refine bp ?_; refine blk_put (cs := #[.string ((rd_T32 l0_1 x3_1).f0), .int .i64 0, .int .i64 0, .string (⟨#[]⟩ : ByteArray), .slice none 0 0, .slice none 0 0, .slice none 0 0]) ?_ 1 _ rfl; refine bp ?_; refine blk_put (cs := #[.string (⟨#[]⟩ : ByteArray), .int .i64 0, .int .i64 0, .string (⟨#[]⟩ : ByteArray), .slice none 0 0, .slice none 0 0, .slice none 0 0]) ?_ 0 _ rfl; refine bp ?_; exact BK648.out⟩
       have n2_ : Aside0 (Below w.heap.size w (((((((w7.setCell ⟨gb648, 0, none⟩ (.string ((rd_T32 l0_1 x3_1).f0))).setCell ⟨gb648, 1, none⟩ (.int .i64 ((rd_T32 l0_1 x3_1).f1))).setCell ⟨gb648, 2, none⟩ (.int .i64 ((rd_T32 l0_1 x3_1).f2))).setCell ⟨gb648, 3, none⟩ (.string ((rd_T32 l0_1 x3_1).f3))).setCell ⟨gb648, 4, none⟩ (.slice A647_4 ((rd_T32 l0_1 x3_1).f4).length c647_4)).setCell ⟨gb648, 5, none⟩ (.slice A647_5 ((rd_T32 l0_1 x3_1).f5).length c647_5)).setCell ⟨gb648, 6, none⟩ (.slice A647_6 ((rd_T32 l0_1 x3_1).f6).length c647_6))) := ⟨by exact b2 HB GE645 GE648⟩
       (try clear BK645)
       (try clear BK648)
       (try clear HB)
       generalize (((((((w7.setCell ⟨gb648, 0, none⟩ (.string ((rd_T32 l0_1 x3_1).f0))).setCell ⟨gb648, 1, none⟩ (.int .i64 ((rd_T32 l0_1 x3_1).f1))).setCell ⟨gb648, 2, none⟩ (.int .i64 ((rd_T32 l0_1 x3_1).f2))).setCell ⟨gb648, 3, none⟩ (.string ((rd_T32 l0_1 x3_1).f3))).setCell ⟨gb648, 4, none⟩ (.slice A647_4 ((rd_T32 l0_1 x3_1).f4).length c647_4)).setCell ⟨gb648, 5, none⟩ (.slice A647_5 ((rd_T32 l0_1 x3_1).f5).length c647_5)).setCell ⟨gb648, 6, none⟩ (.slice A647_6 ((rd_T32 l0_1 x3_1).f6).length c647_6)) = w37 at n0_ n1_ n2_ ⊢
       have BK645 := n0_
       have BK648 := n1_
       have HB := n2_
       clear n0_ n1_ n2_
       have n0_ := zq9 (blk_drew BK645.out)
       have n1_ := zq9 (blk_drew BK648.out)
       have n2_ := zq9 (zq4 HB.out)
       clear BK645
       clear BK648
       clear HB
       have BK645 := n0_
       have BK648 := n1_
       have HB := n2_
       clear n0_ n1_ n2_
       refine start_ (n := 31) (S := fun w' => w'.cell? ⟨gb648, 0, none⟩ = some (.string ((rd_T32 l0_1 x3_1).f0)) ∧ w'.cell? ⟨gb648, 1, none⟩ = some (.int .i64 ((rd_T32 l0_1 x3_1).f1)) ∧ w'.cell? ⟨gb648, 2, none⟩ = some (.int .i64 ((rd_T32 l0_1 x3_1).f2)) ∧ w'.cell? ⟨gb648, 3, none⟩ = some (.string ((rd_T32 l0_1 x3_1).f3)) ∧ w'.cell? ⟨gb648, 4, none⟩ = some (.slice A647_4 ((rd_T32 l0_1 x3_1).f4).length c647_4) ∧ w'.cell? ⟨gb648, 5, none⟩ = some (.slice A647_5 ((rd_T32 l0_1 x3_1).f5).length c647_5) ∧ w'.cell? ⟨gb648, 6, none⟩ = some (.slice A647_6 ((rd_T32 l0_1 x3_1).f6).length c647_6)) (ds := []) #[false, false, false, false, false, false, false, false, false, false, false, false, false, false, false, false, false, false, false, false, false, false, false, false, false, false, false, false, false, false, false] (by kernel_rfl) rfl rfl ⟨bc BK648 0, bc BK648 1, bc BK648 2, bc BK648 3, bc BK648 4, bc BK648 5, bc BK648 6⟩ (fun hHeld => ?_); refine with_tabW spec_BaseOk.tab5 spec_BaseOk.bits5 (fun HT_ HW_ => ?_)
       generalize w37.drew = w38 at BK645 BK648 HB hHeld ⊢
       refine take_ (i := 0) (N := some 17) (v := ?_) (a' := ?_) (zb 31 1) rfl rfl (take_ofW HT_.out HW_.out (by kernel_rfl)) (fun _ _ _ h => h) (Or.inl ⟨by rfl, ?_⟩) hHeld ?_ ?_
       rotate_left; ·rintro w' ⟨s0, s1, s2, s3, s4, s5, s6⟩; go_simp; with_reducible rfl
       rotate_left; ·simp only [Act.put, zq0, zq1, zq2, i64_w, i32_w]; rfl
       refine one_ (i := 1) (N := some 18) (zb 31 3) rfl rfl (one_of HT_.out (by kernel_rfl)) (by decide) (fun K hK => ?_)
       refine gs Try.func11 #[.agg #[.string ((rd_T32 l0_1 x3_1).f0), .int .i64 ((rd_T32 l0_1 x3_1).f1), .int .i64 ((rd_T32 l0_1 x3_1).f2), .string ((rd_T32 l0_1 x3_1).f3), .slice A647_4 ((rd_T32 l0_1 x3_1).f4).length c647_4, .slice A647_5 ((rd_T32 l0_1 x3_1).f5).length c647_5, .slice A647_6 ((rd_T32 l0_1 x3_1).f6).length c647_6]] ?_
       with_reducible refine (spec_EntryOk.calls k1 ((rd_T32 l0_1 x3_1).f0) ((rd_T32 l0_1 x3_1).f1) ((rd_T32 l0_1 x3_1).f2) ((rd_T32 l0_1 x3_1).f3) _ _ ((rd_T32 l0_1 x3_1).f4) _ _ ((rd_T32 l0_1 x3_1).f5) _ _ ((rd_T32 l0_1 x3_1).f6) false _ ?side1 ?side2 ?side3 ?side4 ?side5 ?side6 A10.out).mono ?_
       (case side1 => exact kc HR647_4 HB)
       (case side2 => exact HC647_4.out)
       (case side3 => exact kc HR647_5 HB)
       (case side4 => exact HC647_5.out)
       (case side5 => exact kc HR647_6 HB)
       (case side6 => exact HC647_6.out)
       rintro e w39 ⟨rfl, hb⟩
       refine ⟨_, rfl, ?_⟩
       have n0_ := zq9 (zq30 (g := gb645) (o := .cells #[.int .i64 a0_0, .slice (some ad647) l0_1.length c0_1] 46 (0, 0)) (by exact bk BK645) hb)
       have n1_ := zq9 (zq30 (g := gb648) (o := .cells #[.string ((rd_T32 l0_1 x3_1).f0), .int .i64 ((rd_T32 l0_1 x3_1).f1), .int .i64 ((rd_T32 l0_1 x3_1).f2), .string ((rd_T32 l0_1 x3_1).f3), .slice A647_4 ((rd_T32 l0_1 x3_1).f4).length c647_4, .slice A647_5 ((rd_T32 l0_1 x3_1).f5).length c647_5, .slice A647_6 ((rd_T32 l0_1 x3_1).f6).length c647_6] 32 (0, 0)) (by exact bk BK648) hb)
       have n2_ := zq9 (zq27 (by exact b2 HB GE645 GE648) hb)
       clear BK645
       clear BK648
       clear HB
       have BK645 := n0_
       have BK648 := n1_
       have HB := n2_
       clear n0_ n1_ n2_
       (try clear hb)
       (try clear hb2)
       (try clear hk)
       (try clear hi)
       refine hK.out _ _ ⟨bc BK648 0, bc BK648 1, bc BK648 2, bc BK648 3, bc BK648 4, bc BK648 5, bc BK648 6⟩ (fun hHeld => ?_)
       clear hK K
       refine norm_ (a' := ?_) ?_ ?_
       rotate_left; ·show Act.put _ (some 18) _ = _; simp only [Act.put, zq0, zq1, zq2, i64_w, i32_w]; rfl
       refine pa HT_ 2 19 (zb 31 7) ?_
       refine pa HT_ 3 20 (zb 31 15) ?_
       refine pb HT_ 4 21 (zb 31 31) ?_
       refine pb HT_ 5 22 (zb 31 63) ?_
       refine pb HT_ 6 23 (zb 31 127) ?_
       refine pb HT_ 7 24 (zb 31 255) ?_
       refine pb HT_ 8 25 (zb 31 511) ?_
       refine pb HT_ 9 26 (zb 31 1023) ?_
       refine pb HT_ 10 27 (zb 31 2047) ?_
       refine pb HT_ 11 28 (zb 31 4095) ?_
       refine pb HT_ 12 29 (zb 31 8191) ?_
       refine pb HT_ 13 30 (zb 31 16383) ?_
       refine pa HT_ 14 31 (zb 31 32767) ?_
       refine pa HT_ 15 32 (zb 31 65535) ?_
       refine pb HT_ 16 33 (zb 31 131071) ?_
       refine pb HT_ 17 34 (zb 31 262143) ?_
       refine pb HT_ 18 35 (zb 31 524287) ?_
       refine pb HT_ 19 36 (zb 31 1048575) ?_
       refine pb HT_ 20 37 (zb 31 2097151) ?_
       refine pb HT_ 21 38 (zb 31 4194303) ?_
       refine pb HT_ 22 39 (zb 31 8388607) ?_
       refine pb HT_ 23 40 (zb 31 16777215) ?_
       refine pb HT_ 24 41 (zb 31 33554431) ?_
       refine pb HT_ 25 42 (zb 31 67108863) ?_
       refine pb HT_ 26 43 (zb 31 134217727) ?_
       refine pb HT_ 27 44 (zb 31 268435455) ?_
       refine pb HT_ 28 45 (zb 31 536870911) ?_
       refine pb HT_ 29 46 (zb 31 1073741823) ?_
       refine pa HT_ 30 47 (zb 31 2147483647) ?_
       refine done_ (done_of HT_.out (by kernel_rfl)) ?_
       try go_wp2
       go_meet
       case rel => exact ⟨_, (true), (by first | rfl | (simp; done) | (simp [*]; done)), H', ⟨by have := HK1.out; first | omega | exact Nat.le_refl _⟩, ⟨by refine bp ?_; exact BK645.out⟩, ⟨by refine bp ?_; exact BK648.out⟩, ⟨by exact b2 HB GE645 GE648⟩⟩
     case rest =>
      clear HC5
      try clear c1
      try clear c2
      try clear p2
      try clear c3
      try clear c6
      try clear c11
      try clear c27
      try clear c27b0
      try clear c29
      try clear c30
      obtain ⟨kq, x47_4, rfl, HA, HJ4, BK645, BK648, HB⟩ := hcut
      cases kq with
      | zero => exact absurd HA.out (by simp [spec_BaseOk.j1])
      | succ kj4 =>
       have H := HA.out
       clear HA
       simp only [spec_BaseOk.j1] at H
       by_cases c40 : x47_4 = true
       ·subst c40
        have H1 : (some false) = some r := by rw [if_pos rfl] at H; exact H
        clear H
        have H := H1
        clear H1
        obtain rfl := Option.some.inj H
        go_wp2
        go_ret
        exact fz (by exact b2 HB GE645 GE648)
       ·replace c40 := Bool.eq_false_iff.mpr c40
        subst c40
        have H1 : (spec_BaseOk.l0 kj4 (wrap64 (x3_1 + 1)) a0_0 l0_1) = some r := by rw [if_neg (show ¬ (false = true) by decide)] at H; exact H
        clear H
        have H := H1
        clear H1
        have H' := zq9 H
        clear H
        go_wp2
        go_roundg kj4
        case measure => have := HK1.out; have := HJ4.out; omega
        case rel => exact ⟨(wrap64 (x3_1 + 1)), (by first | rfl | (simp; done) | (simp [*]; done)), H', ⟨by have := HK1.out; have := HJ4.out; omega⟩, ⟨by refine bp ?_; exact BK645.out⟩, ⟨by exact b2 HB GE645 GE648⟩⟩
    ·rw [if_neg c4] at H
     exact absurd H (by simp)
   ·rw [if_neg c3] at H
    have c3b0 : decide (x3_1 < (l0_1.length : Int)) = false := decide_eq_false c3
    clear c3
    replace H := Option.bind_eq_some_iff.mp H
    obtain ⟨t646, A410, H⟩ := H
    try dsimp only at H
    have A41 := zq9 A410
    clear A410
    have hcz43_0 : wr.cell? ⟨gb645, 0, none⟩ = some (.int .i64 a0_0) := bc BK645 0
    have hcz43_1 : wr.cell? ⟨gb645, 1, none⟩ = some (.slice A0_1 l0_1.length c0_1) := bc BK645 1
    have hfz43_0 := zq6 BK645.out 0
    have hfz43_1 := zq6 BK645.out 1
    by_cases c42 : t646 = true
    ·subst c42
     have H1 : (some (decide ((l0_1.length : Int) ≤ 12))) = some r := by rw [if_pos rfl] at H; exact H
     clear H
     have H := H1
     clear H1
     obtain rfl := Option.some.inj H
     go_wp2_with (first | ((with_reducible refine zq24 (f := 40) rfl ?_); refine gl (some 50) Try.func40 #[.int .i64 a0_0, .int .i64 0, .int .i64 1000000] ?_; (with_reducible refine (spec_l1In.calls a0_0 0 1000000 true _ A41.out).mono ?_); rintro e w' ⟨rfl, ⟨nd, rfl⟩⟩; refine ⟨_, rfl, ?_⟩))
     go_ret
     exact fz (by exact b1 HB GE645)
    ·replace c42 := Bool.eq_false_iff.mpr c42
     subst c42
     have H1 : (some false) = some r := by rw [if_neg (show ¬ (false = true) by decide)] at H; exact H
     clear H
     have H := H1
     clear H1
     obtain rfl := Option.some.inj H
     go_wp2_with (first | ((with_reducible refine zq24 (f := 40) rfl ?_); refine gl (some 50) Try.func40 #[.int .i64 a0_0, .int .i64 0, .int .i64 1000000] ?_; (with_reducible refine (spec_l1In.calls a0_0 0 1000000 false _ A41.out).mono ?_); rintro e w' ⟨rfl, ⟨nd, rfl⟩⟩; refine ⟨_, rfl, ?_⟩))
     go_ret
     exact fz (by exact b1 HB GE645)
set_option maxHeartbeats 8000000 in
set_option maxRecDepth 100000 in
theorem laws_toStringS.calls (k : Nat) (A0 : Option Addr) (c0 : Nat) (l0 : List ByteArray) (r : List ByteArray) (w : World) (hr0 : Kd.C Kd.string w A0 l0.length l0) (hc0 : l0.length ≤ c0) (h : laws_toStringS.f k l0 = some r) :
  Calls Try.prog 45 #[.slice A0 l0.length c0] w fun e w' => ∃ v0_ : Value, e = .returned (v0_) ∧ Kd.R Kd.string 9 w' w.heap.size (fun _ => True) v0_ r ∧ Below w.heap.size w w' := by
 have HR0 := zq9 hr0
 have HC0 := zq9 hc0
 clear hr0 hc0
 have HB := zq9 (Below.refl w.heap.size w)
 have H : (if 0 ≤ (l0.length : Int) then (if ((l0.length : Int) : Int).toNat ≤ 17592186044416 then (laws_toStringS.l0 k l0 (List.replicate ((l0.length : Int) : Int).toNat (⟨#[]⟩ : ByteArray)) 0) else (none)) else (none)) = some r := h
 clear h
 by_cases c2 : 0 ≤ (l0.length : Int)
 ·rw [if_pos c2] at H
  have c2b0 := eq_true c2
  have c2b1 : decide (0 ≤ (l0.length : Int)) = true := decide_eq_true c2
  clear c2
  by_cases c3 : ((l0.length : Int) : Int).toNat ≤ 17592186044416
  ·rw [if_pos c3] at H
   have c3b0 := eq_true c3
   have c3b1 : decide (((l0.length : Int) : Int).toNat ≤ 17592186044416) = true := decide_eq_true c3
   clear c3
   obtain ⟨y138, hy138⟩ : ∃ y_ : List ByteArray, y_ = (List.replicate ((l0.length : Int) : Int).toNat (⟨#[]⟩ : ByteArray)) := ⟨_, rfl⟩
   replace H : (laws_toStringS.l0 k l0 y138 0) = some r := by first | (rw [hy138]; with_reducible exact H) | (have H2_ := (Option.bind_some _ _).symm.trans H; rw [hy138]; with_reducible exact H2_) | (have H2_ := (Option.bind_some _ _).symm.trans H; with_reducible exact H2_) | with_reducible exact H | (rw [hy138]; exact H) | exact H
   have Ny138 := zq9 hy138
   clear hy138
   have H' := zq9 H
   clear H
   go_enter Try.func45, Try.ntmps45
   go_wp2_with (first | ((with_reducible refine zq25 (N := 7) rfl ?_); refine Kd.R_make Kd.string _ 9 rfl (N := 7) rfl 22 _ _ rfl (l0.length : Int) rfl rfl Try.underlying22 (.string ⟨#[]⟩) 16 info9 rfl (by decide) (by omega) (⟨#[]⟩ : ByteArray) (ok := fun _ => True) (okp := fun _ => True) rfl (fun _ hk => hk) trivial (of_decide_eq_true ‹_›) (Nat.le_trans (Nat.mul_le_mul_right _ (of_decide_eq_true ‹_› : (l0.length : Int).toNat ≤ 17592186044416)) (by omega)) (Below.refl _ _) (Nat.le_refl _) ?_; intro v139 w4 ho5 hb hg_ hnew_; clear hg_ hnew_; (first | rw [← Ny138.out] at ho5 | (simp only [Int.reduceToNat] at ho5; rw [← Ny138.out] at ho5)); have n0_ := zq9 (Kd.R_lower ho5 (zq29 (by exact bl HB))); have n1_ := zq9 (zq27 (by exact bl HB) hb); clear HB; have HO140 := n0_; have HB := n1_; clear n0_ n1_; clear hb ho5))
   go_loopg [4] k (fun kq v4 w' => ∃ (x3_1 : List ByteArray) (x4_1 : Int), v4 = .int .i64 x4_1 ∧ Aside0 (laws_toStringS.l0 kq l0 x3_1 x4_1 = some r) ∧ Aside0 (kq ≤ k) ∧ Aside0 (Kd.R Kd.string 9 w' w.heap.size (fun _ => True) v139 x3_1) ∧ Aside0 (Below w.heap.size w w'))
   case atStart => exact ⟨(y138), (0), (by first | rfl | (simp; done) | (simp [*]; done)), H', ⟨Nat.le_refl _⟩, ⟨by (with_reducible repeat (first | apply zq10 | apply zq11 | apply zq12)); exact HO140.out⟩, ⟨by exact bl HB⟩⟩
   case round =>
    clear H'
    try clear c2
    try clear c2b0
    try clear c2b1
    try clear p2
    try clear c3
    try clear c3b0
    try clear c3b1
    try clear c4
    obtain ⟨x3_1, x4_1, rfl, HA, HK1, HO_3, HB⟩ := hrel
    cases gk with
    | zero => exact absurd HA.out (by simp [laws_toStringS.l0])
    | succ k1 =>
     have H := HA.out
     clear HA
     simp only [laws_toStringS.l0] at H
     by_cases c6 : x4_1 < (l0.length : Int)
     ·rw [if_pos c6] at H
      have c6b0 : decide (x4_1 < (l0.length : Int)) = true := decide_eq_true c6
      clear c6
      by_cases c7 : 0 ≤ x4_1
      ·rw [if_pos c7] at H
       have c7b0 : decide (0 ≤ x4_1) = true := decide_eq_true c7
       clear c7
       by_cases c8 : x4_1 < (x3_1.length : Int)
       ·rw [if_pos c8] at H
        have c8b0 : decide (x4_1 < (x3_1.length : Int)) = true := decide_eq_true c8
        clear c8
        obtain ⟨y142, hy142⟩ : ∃ y_ : List ByteArray, y_ = (x3_1.set (x4_1 : Int).toNat (rdOf ByteArray.empty l0 x4_1)) := ⟨_, rfl⟩
        replace H : (laws_toStringS.l0 k1 l0 y142 (wrap64 (x4_1 + 1))) = some r := by first | (rw [hy142]; with_reducible exact H) | (have H2_ := (Option.bind_some _ _).symm.trans H; rw [hy142]; with_reducible exact H2_) | (have H2_ := (Option.bind_some _ _).symm.trans H; with_reducible exact H2_) | with_reducible exact H | (rw [hy142]; exact H) | exact H
        have Ny142 := zq9 hy142
        clear hy142
        have H' := zq9 H
        clear H
        have p141 : 0 ≤ (x4_1 : Int) := of_decide_eq_true ‹_›
        have q141 : x4_1 < (l0.length : Int) := of_decide_eq_true ‹_›
        obtain ⟨ad141, e141, hx141_0⟩ := Kd.at_string HR0.out x4_1 p141 q141
        cases e141
        replace hx141_0 := (HB.out.cell (zq8 w _ hx141_0)).trans hx141_0
        replace p141 := eq_true p141
        replace q141 := eq_true q141
        have p9 : 0 ≤ (x4_1 : Int) := of_decide_eq_true ‹_›
        have q9 : (x4_1 : Int) < ((x3_1.length : Int) : Int) := of_decide_eq_true ‹_›
        obtain ⟨go9, co9, eo9, gb9, gl9, cl9, HG9⟩ := Kd.R_form HO_3.out (by omega)
        (first | cases eo9 | (injection eo9 with ea_ en_ ec_; (first | subst ea_ | (injection ea_ with ea_; subst ea_)); subst ec_; clear en_))
        have GB9 := zq9 gb9
        have GG9 := zq9 HG9
        clear gb9 gl9 HG9
        obtain ⟨hx9_0, hf9_0⟩ := Kd.R_celln (⟨#[]⟩ : ByteArray) HO_3.out (x4_1 : Int) p9 q9
        replace p9 := eq_true p9
        replace q9 := eq_true q9
        have HP10 := Kd.R_putg HO_3.out (x4_1 : Int) (rdOf ByteArray.empty l0 x4_1)
        go_wp2_with (first | ((with_reducible refine zq26 (t := 9) (p := 20) rfl ?_); refine store_event (t := 9) (p := 20) (v := ?vo_w11) (w1 := (wr.setCell ⟨go9, (x4_1 : Int).toNat, none⟩ (.string (rdOf ByteArray.empty l0 x4_1)))) ?hg ?ho ?hn ?hr ?_; (case ho => rfl); (case hg => rfl); (case hn => rfl); (case hr => first | (go_simp; done) | (go_simp; rfl)); intro w11 hw; have hg : wr.grownBy w11 (some go9) := (by rw [hw]; exact HP10.2); have hp_ : Kd.R Kd.string 9 w11 w.heap.size (fun _ => True) (.slice (some ⟨go9, 0, none⟩) x3_1.length co9) y142 := (by rw [hw, Ny142.out]; exact HP10.1); clear HP10; have n0_ := zq9 (hp_); have n1_ := zq9 ((by rw [hw]; exact zq28 (HB.out) GB9.out : Below w.heap.size w w11)); clear HO_3; clear HB; have HO_3 := n0_; have HB := n1_; clear n0_ n1_; clear hg hw hp_))
        go_roundg k1
        case measure => have := HK1.out; omega
        case rel => exact ⟨(y142), (wrap64 (x4_1 + 1)), (by first | rfl | (simp; done) | (simp [*]; done)), H', ⟨by have := HK1.out; omega⟩, ⟨by (with_reducible repeat (first | apply zq10 | apply zq11 | apply zq12)); exact HO_3.out⟩, ⟨by exact bl HB⟩⟩
       ·rw [if_neg c8] at H
        exact absurd H (by simp)
      ·rw [if_neg c7] at H
       exact absurd H (by simp)
     ·rw [if_neg c6] at H
      have c6b0 : decide (x4_1 < (l0.length : Int)) = false := decide_eq_false c6
      clear c6
      obtain rfl := Option.some.inj H
      go_wp2
      go_ret
      exact ⟨_, by first | rfl | (simp [errW_none, errW_some] <;> rfl) | (simp [*, errW_none, errW_some] <;> rfl), by (with_reducible repeat (first | apply zq10 | apply zq11 | apply zq12)); exact HO_3.out, by exact bl HB⟩
  ·rw [if_neg c3] at H
   exact absurd H (by simp)
 ·rw [if_neg c2] at H
  exact absurd H (by simp)
set_option maxHeartbeats 8000000 in
set_option maxRecDepth 100000 in
theorem laws_toScore.calls (a0_0 : ByteArray) (a0_1 : Int) (r1 : ByteArray) (r2 : Int) (w : World) (h : laws_toScore.f a0_0 a0_1 = some (r1, r2)) :
    Calls Try.prog 82 #[.agg #[.string a0_0, .int .i64 a0_1]] w fun e w' => e = .returned (.agg #[.string r1, .int .i64 r2]) ∧ Below w.heap.size w w' := by
  have hu95 := Try.underlying95
  have hu99 := Try.underlying99
  have HB := zq9 (Below.refl w.heap.size w)
  have H : (some (a0_0, a0_1)) = some (r1, r2) := h
  clear h
  simp only [Option.some.injEq, Prod.mk.injEq] at H
  obtain ⟨rfl, rfl⟩ := H
  go_enter Try.func82, Try.ntmps82
  go_wp2_with (first | ((with_reducible refine zq25 (N := 1) rfl ?_); refine bx 1 #[.string a0_0, .int .i64 a0_1] 95 ?_; intro gb143 hg w2 hbox hb; have n0_ := zq9 (zq27 (by exact bl HB) hb); have n1_ := zq9 (hbox); have n2_ := zq9 ((by rw [hg]; exact (zq29 (by exact bl HB)) : w.heap.size ≤ gb143)); have n3_ := n2_; clear HB; have HB := n0_; have BK143 := n1_; have GW143 := n2_; have GE143 := n3_; clear n0_ n1_ n2_ n3_; clear hb hbox hg) | ((with_reducible refine zq25 (N := 2) rfl ?_); refine bx 2 #[.string (⟨#[]⟩ : ByteArray), .int .i64 0] 99 ?_; intro gb144 hg w3 hbox hb; have n0_ := zq9 (zq30 (g := gb143) (o := .cells #[.string a0_0, .int .i64 a0_1] 95 (0, 0)) (by exact bk BK143) hb); have n1_ := zq9 (zq27 (by exact b1 HB GE143) hb); have n2_ := zq9 (hbox); have n3_ := zq9 ((by rw [hg]; exact (zq29 (by exact b1 HB GE143)) : w.heap.size ≤ gb144)); have n4_ := n3_; have n5_ := zq9 ((by rw [hg]; exact Nat.ne_of_lt (blk_lt (g := gb143) (o := .cells #[.string a0_0, .int .i64 a0_1] 95 (0, 0)) (by exact bk BK143)) : gb143 ≠ gb144)); have n6_ := zq9 ((by rw [hg]; exact Nat.ne_of_gt (blk_lt (g := gb143) (o := .cells #[.string a0_0, .int .i64 a0_1] 95 (0, 0)) (by exact bk BK143)) : gb144 ≠ gb143)); clear BK143; clear HB; have BK143 := n0_; have HB := n1_; have BK144 := n2_; have GW144 := n3_; have GE144 := n4_; have NB143_144 := n5_; have NB144_143 := n6_; clear n0_ n1_ n2_ n3_ n4_ n5_ n6_; clear hb hbox hg) | ((with_reducible refine zq25 (N := 3) rfl ?_); refine bx 3 #[.string (⟨#[]⟩ : ByteArray), .int .i64 0] 99 ?_; intro gb145 hg w4 hbox hb; have n0_ := zq9 (zq30 (g := gb143) (o := .cells #[.string a0_0, .int .i64 a0_1] 95 (0, 0)) (by exact bk BK143) hb); have n1_ := zq9 (zq30 (g := gb144) (o := .cells #[.string (⟨#[]⟩ : ByteArray), .int .i64 0] 99 (0, 0)) (by exact bk BK144) hb); have n2_ := zq9 (zq27 (by exact b2 HB GE143 GE144) hb); have n3_ := zq9 (hbox); have n4_ := zq9 ((by rw [hg]; exact (zq29 (by exact b2 HB GE143 GE144)) : w.heap.size ≤ gb145)); have n5_ := n4_; have n6_ := zq9 ((by rw [hg]; exact Nat.ne_of_lt (blk_lt (g := gb143) (o := .cells #[.string a0_0, .int .i64 a0_1] 95 (0, 0)) (by exact bk BK143)) : gb143 ≠ gb145)); have n7_ := zq9 ((by rw [hg]; exact Nat.ne_of_gt (blk_lt (g := gb143) (o := .cells #[.string a0_0, .int .i64 a0_1] 95 (0, 0)) (by exact bk BK143)) : gb145 ≠ gb143)); have n8_ := zq9 ((by rw [hg]; exact Nat.ne_of_lt (blk_lt (g := gb144) (o := .cells #[.string (⟨#[]⟩ : ByteArray), .int .i64 0] 99 (0, 0)) (by exact bk BK144)) : gb144 ≠ gb145)); have n9_ := zq9 ((by rw [hg]; exact Nat.ne_of_gt (blk_lt (g := gb144) (o := .cells #[.string (⟨#[]⟩ : ByteArray), .int .i64 0] 99 (0, 0)) (by exact bk BK144)) : gb145 ≠ gb144)); clear BK143; clear BK144; clear HB; have BK143 := n0_; have BK144 := n1_; have HB := n2_; have BK145 := n3_; have GW145 := n4_; have GE145 := n5_; have NB143_145 := n6_; have NB145_143 := n7_; have NB144_145 := n8_; have NB145_144 := n9_; clear n0_ n1_ n2_ n3_ n4_ n5_ n6_ n7_ n8_ n9_; clear hb hbox hg; have hnb5 := NB143_144.out; have hnc5 := NB144_143.out; have hnb6 := NB143_145.out; have hnc6 := NB145_143.out; have hcz7_0 : w4.cell? ⟨gb143, 0, none⟩ = some (.string a0_0) := bc BK143 0; have hcz7_1 : w4.cell? ⟨gb143, 1, none⟩ = some (.int .i64 a0_1) := bc BK143 1; have hfz7_0 := zq6 BK143.out 0; have hfz7_1 := zq6 BK143.out 1; have hnb8 := NB145_144.out; have hnc8 := NB144_145.out; have hcz9_0 : w4.cell? ⟨gb145, 0, none⟩ = some (.string (⟨#[]⟩ : ByteArray)) := bc BK145 0; have hcz9_1 : w4.cell? ⟨gb145, 1, none⟩ = some (.int .i64 0) := bc BK145 1; have hfz9_0 := zq6 BK145.out 0; have hfz9_1 := zq6 BK145.out 1; have hcz10_0 : w4.cell? ⟨gb144, 0, none⟩ = some (.string (⟨#[]⟩ : ByteArray)) := bc BK144 0; have hcz10_1 : w4.cell? ⟨gb144, 1, none⟩ = some (.int .i64 0) := bc BK144 1; have hfz10_0 := zq6 BK144.out 0; have hfz10_1 := zq6 BK144.out 1))
  refine bodyPost_ret (results_cell_row rfl _ _ gb144 99 #[.string a0_0, .int .i64 a0_1] (0, 0) _ rfl (by refine bp ?_; refine blk_put (cs := #[.string a0_0, .int .i64 0]) ?_ 1 _ rfl; refine bp ?_; refine blk_put (cs := #[.string (⟨#[]⟩ : ByteArray), .int .i64 0]) ?_ 0 _ rfl; refine bp ?_; refine blk_far ?_ NB144_145.out _; refine bp ?_; refine blk_far ?_ NB144_145.out _; refine bp ?_; exact BK144.out) Try.underlying99 rfl (by kernel_rfl)) rfl ?_
  exact fz (by exact b3 HB GE143 GE144 GE145)
set_option maxHeartbeats 8000000 in
set_option maxRecDepth 100000 in
theorem laws_toScoreS.calls (k : Nat) (A0 : Option Addr) (c0 : Nat) (l0 : List (S95)) (r : List (S99)) (w : World) (hr0 : Kd.C k95 w A0 l0.length l0) (hc0 : l0.length ≤ c0) (h : laws_toScoreS.f k l0 = some r) :
  Calls Try.prog 46 #[.slice A0 l0.length c0] w fun e w' => ∃ v0_ : Value, e = .returned (v0_) ∧ Kd.R k99 99 w' w.heap.size (fun _ => True) v0_ r ∧ Below w.heap.size w w' := by
 have hu95 := Try.underlying95
 have hu99 := Try.underlying99
 have HR0 := zq9 hr0
 have HC0 := zq9 hc0
 clear hr0 hc0
 have HB := zq9 (Below.refl w.heap.size w)
 have H : (if 0 ≤ (l0.length : Int) then (if ((l0.length : Int) : Int).toNat ≤ 11728124029610 then (laws_toScoreS.l0 k l0 (List.replicate ((l0.length : Int) : Int).toNat z99) 0) else (none)) else (none)) = some r := h
 clear h
 by_cases c2 : 0 ≤ (l0.length : Int)
 ·rw [if_pos c2] at H
  have c2b0 := eq_true c2
  have c2b1 : decide (0 ≤ (l0.length : Int)) = true := decide_eq_true c2
  clear c2
  by_cases c3 : ((l0.length : Int) : Int).toNat ≤ 11728124029610
  ·rw [if_pos c3] at H
   have c3b0 := eq_true c3
   have c3b1 : decide (((l0.length : Int) : Int).toNat ≤ 11728124029610) = true := decide_eq_true c3
   clear c3
   obtain ⟨y146, hy146⟩ : ∃ y_ : List (S99), y_ = (List.replicate ((l0.length : Int) : Int).toNat z99) := ⟨_, rfl⟩
   replace H : (laws_toScoreS.l0 k l0 y146 0) = some r := by first | (rw [hy146]; with_reducible exact H) | (have H2_ := (Option.bind_some _ _).symm.trans H; rw [hy146]; with_reducible exact H2_) | (have H2_ := (Option.bind_some _ _).symm.trans H; with_reducible exact H2_) | with_reducible exact H | (rw [hy146]; exact H) | exact H
   have Ny146 := zq9 hy146
   clear hy146
   have H' := zq9 H
   clear H
   go_enter Try.func46, Try.ntmps46
   go_wp2_with (first | ((with_reducible refine zq25 (N := 7) rfl ?_); refine Kd.R_make k99 _ 99 rfl (N := 7) rfl 29 _ _ rfl (l0.length : Int) rfl rfl Try.underlying29 (.agg #[(.string ⟨#[]⟩), (.int .i64 0)]) 24 info99 rfl (by decide) (by omega) z99 (ok := fun _ => True) (okp := fun _ => True) (k99_mkM _ _ _ z99 ) (fun _ hk => hk) trivial (of_decide_eq_true ‹_›) (Nat.le_trans (Nat.mul_le_mul_right _ (of_decide_eq_true ‹_› : (l0.length : Int).toNat ≤ 11728124029610)) (by omega)) (Below.refl _ _) (Nat.le_refl _) ?_; intro v147 w4 ho5 hb hg_ hnew_; clear hg_ hnew_; (first | rw [← Ny146.out] at ho5 | (simp only [Int.reduceToNat] at ho5; rw [← Ny146.out] at ho5)); have n0_ := zq9 (Kd.R_lower ho5 (zq29 (by exact bl HB))); have n1_ := zq9 (zq27 (by exact bl HB) hb); clear HB; have HO148 := n0_; have HB := n1_; clear n0_ n1_; clear hb ho5))
   go_loopg [4] k (fun kq v4 w' => ∃ (x3_1 : List (S99)) (x4_1 : Int), v4 = .int .i64 x4_1 ∧ Aside0 (laws_toScoreS.l0 kq l0 x3_1 x4_1 = some r) ∧ Aside0 (kq ≤ k) ∧ Aside0 (Kd.R k99 99 w' w.heap.size (fun _ => True) v147 x3_1) ∧ Aside0 (Below w.heap.size w w'))
   case atStart => exact ⟨(y146), (0), (by first | rfl | (simp; done) | (simp [*]; done)), H', ⟨Nat.le_refl _⟩, ⟨by (with_reducible repeat (first | apply zq10 | apply zq11 | apply zq12)); exact HO148.out⟩, ⟨by exact bl HB⟩⟩
   case round =>
    clear H'
    try clear c2
    try clear c2b0
    try clear c2b1
    try clear p2
    try clear c3
    try clear c3b0
    try clear c3b1
    try clear c4
    obtain ⟨x3_1, x4_1, rfl, HA, HK1, HO_3, HB⟩ := hrel
    cases gk with
    | zero => exact absurd HA.out (by simp [laws_toScoreS.l0])
    | succ k1 =>
     have H := HA.out
     clear HA
     simp only [laws_toScoreS.l0] at H
     by_cases c6 : x4_1 < (l0.length : Int)
     ·rw [if_pos c6] at H
      have c6b0 : decide (x4_1 < (l0.length : Int)) = true := decide_eq_true c6
      clear c6
      by_cases c7 : 0 ≤ x4_1
      ·rw [if_pos c7] at H
       have c7b0 : decide (0 ≤ x4_1) = true := decide_eq_true c7
       clear c7
       replace H := Option.bind_eq_some_iff.mp H
       obtain ⟨⟨t150, t151⟩, A80, H⟩ := H
       try dsimp only at H
       have A8 := zq9 A80
       clear A80
       by_cases c9 : x4_1 < (x3_1.length : Int)
       ·rw [if_pos c9] at H
        have c9b0 : decide (x4_1 < (x3_1.length : Int)) = true := decide_eq_true c9
        clear c9
        obtain ⟨y152, hy152⟩ : ∃ y_ : List (S99), y_ = (x3_1.set (x4_1 : Int).toNat (⟨t150, t151⟩ : S99)) := ⟨_, rfl⟩
        replace H : (laws_toScoreS.l0 k1 l0 y152 (wrap64 (x4_1 + 1))) = some r := by first | (rw [hy152]; with_reducible exact H) | (have H2_ := (Option.bind_some _ _).symm.trans H; rw [hy152]; with_reducible exact H2_) | (have H2_ := (Option.bind_some _ _).symm.trans H; with_reducible exact H2_) | with_reducible exact H | (rw [hy152]; exact H) | exact H
        have Ny152 := zq9 hy152
        clear hy152
        have H' := zq9 H
        clear H
        have p149 : 0 ≤ (x4_1 : Int) := of_decide_eq_true ‹_›
        have q149 : x4_1 < (l0.length : Int) := of_decide_eq_true ‹_›
        obtain ⟨ad149, e149, hx149_0, hx149_1⟩ := at_T95 HR0.out x4_1 p149 q149
        cases e149
        replace hx149_0 := (HB.out.cell (zq8 w _ hx149_0)).trans hx149_0
        replace hx149_1 := (HB.out.cell (zq8 w _ hx149_1)).trans hx149_1
        replace p149 := eq_true p149
        replace q149 := eq_true q149
        go_wp2_with (first | ((with_reducible refine zq24 (f := 82) rfl ?_); refine gl (some 20) Try.func82 #[.agg #[.string ((rd_T95 l0 x4_1).f0), .int .i64 ((rd_T95 l0 x4_1).f1)]] ?_; (with_reducible refine (laws_toScore.calls ((rd_T95 l0 x4_1).f0) ((rd_T95 l0 x4_1).f1) t150 t151 _ A8.out).mono ?_); rintro e w11 ⟨rfl, hb⟩; refine ⟨_, rfl, ?_⟩; have n0_ := zq9 (Kd.R_below (by exact rz HO_3) hb); have n1_ := zq9 (zq27 (by exact bl HB) hb); clear HO_3; clear HB; have HO_3 := n0_; have HB := n1_; clear n0_ n1_; (try clear hb); (try clear hb2); (try clear hk); (try clear hi); have p10 : 0 ≤ (x4_1 : Int) := of_decide_eq_true ‹_›; have q10 : (x4_1 : Int) < ((x3_1.length : Int) : Int) := of_decide_eq_true ‹_›; obtain ⟨go10, co10, eo10, gb10, gl10, cl10, HG10⟩ := Kd.R_form HO_3.out (by omega); (first | cases eo10 | (injection eo10 with ea_ en_ ec_; (first | subst ea_ | (injection ea_ with ea_; subst ea_)); subst ec_; clear en_)); have GB10 := zq9 gb10; have GG10 := zq9 HG10; clear gb10 gl10 HG10; obtain ⟨ce10, hcl10, hM10, hcc10, hfr10⟩ := Kd.R_elem HO_3.out z99 (x4_1 : Int) p10 q10; obtain rfl := k99_openM hM10; have hx10_0 : w11.cell? ⟨go10, (x4_1 : Int).toNat * 2, none⟩ = some (.string ((rd_T99 x3_1 x4_1).f0)) := hcc10 0 _ rfl; have hx10_1 : w11.cell? ⟨go10, (x4_1 : Int).toNat * 2 + 1, none⟩ = some (.int .i64 ((rd_T99 x3_1 x4_1).f1)) := hcc10 1 _ rfl; have hf10_0 : w11.frozen? ⟨go10, (x4_1 : Int).toNat * 2, none⟩ = false := hfr10 0; have hf10_1 : w11.frozen? ⟨go10, (x4_1 : Int).toNat * 2 + 1, none⟩ = false := hfr10 1; clear hcl10 hcc10 hfr10 hM10; replace p10 := eq_true p10; replace q10 := eq_true q10; have HX12 := zq9 (show Kd.R k99 99 w11 w.heap.size (fun _ => True) (.slice (some ⟨go10, 0, none⟩) x3_1.length co10) x3_1 from (by exact rz HO_3)); obtain ⟨ce12, hcl12, hM12, hcc12, hfr12⟩ := Kd.R_elem HX12.out z99 (x4_1 : Int) (of_decide_eq_true ‹_›) (by have h_ : (x4_1 : Int) < ((x3_1.length : Int) : Int) := of_decide_eq_true ‹_›; first | exact h_ | (have e_ := (Kd.R_reads' HO_3.out).1; omega) | simpa using h_); obtain rfl := k99_openM hM12; have HP12 := Kd.R_seg HX12.out (x4_1 : Int) (of_decide_eq_true ‹_›) (by have h_ : (x4_1 : Int) < ((x3_1.length : Int) : Int) := of_decide_eq_true ‹_›; first | exact h_ | (have e_ := (Kd.R_reads' HO_3.out).1; omega) | simpa using h_) (seg := [.string t150, .int .i64 t151]) (j := 0) hcl12 hcc12 (show 2 ≤ 2 from by decide) (x' := (⟨t150, t151⟩ : S99)) (k99_mkM _ _ _ (⟨t150, t151⟩ : S99) ) (fun _ hk => hk); have hx12_0 := hcc12 0 _ rfl; (try simp only [show (k99).sz = 2 from rfl, Nat.mul_one, Nat.add_zero] at hx12_0); have hf12_0 := hfr12 0; (try simp only [show (k99).sz = 2 from rfl, Nat.mul_one, Nat.add_zero] at hf12_0); have hx12_1 := hcc12 1 _ rfl; (try simp only [show (k99).sz = 2 from rfl, Nat.mul_one, Nat.add_zero] at hx12_1); have hf12_1 := hfr12 1; (try simp only [show (k99).sz = 2 from rfl, Nat.mul_one, Nat.add_zero] at hf12_1); clear hcl12 hcc12 hfr12 hM12) | ((with_reducible refine zq26 (t := 99) (p := 21) rfl ?_); refine store_event (t := 99) (p := 21) (v := ?vo_w13) (w1 := ((w11.setCell ⟨go10, (x4_1 : Int).toNat * 2, none⟩ (.string t150)).setCell ⟨go10, (x4_1 : Int).toNat * 2 + 1, none⟩ (.int .i64 t151))) ?hg ?ho ?hn ?hr ?_; (case ho => rfl); (case hg => rfl); (case hn => rfl); (case hr => first | (go_simp; done) | (go_simp; rfl)); intro w13 hw; have hg : w11.grownBy w13 (some go10) := (by rw [hw]; exact HP12.2); have hp_ : Kd.R k99 99 w13 w.heap.size (fun _ => True) (.slice (some ⟨go10, 0, none⟩) x3_1.length co10) y152 := (by rw [hw, Ny152.out]; exact HP12.1); clear HP12; have n0_ := zq9 (hp_); have n1_ := zq9 ((by rw [hw]; exact zq28 (zq28 (HB.out) GB10.out) GB10.out : Below w.heap.size w w13)); clear HO_3; clear HB; have HO_3 := n0_; have HB := n1_; clear n0_ n1_; clear hg hw hp_))
        go_roundg k1
        case measure => have := HK1.out; omega
        case rel => exact ⟨(y152), (wrap64 (x4_1 + 1)), (by first | rfl | (simp; done) | (simp [*]; done)), H', ⟨by have := HK1.out; omega⟩, ⟨by (with_reducible repeat (first | apply zq10 | apply zq11 | apply zq12)); exact HO_3.out⟩, ⟨by exact bl HB⟩⟩
       ·rw [if_neg c9] at H
        exact absurd H (by simp)
      ·rw [if_neg c7] at H
       exact absurd H (by simp)
     ·rw [if_neg c6] at H
      have c6b0 : decide (x4_1 < (l0.length : Int)) = false := decide_eq_false c6
      clear c6
      obtain rfl := Option.some.inj H
      go_wp2
      go_ret
      exact ⟨_, by first | rfl | (simp [errW_none, errW_some] <;> rfl) | (simp [*, errW_none, errW_some] <;> rfl), by (with_reducible repeat (first | apply zq10 | apply zq11 | apply zq12)); exact HO_3.out, by exact bl HB⟩
  ·rw [if_neg c3] at H
   exact absurd H (by simp)
 ·rw [if_neg c2] at H
  exact absurd H (by simp)
set_option maxHeartbeats 8000000 in
set_option maxRecDepth 100000 in
theorem laws_toPair.calls (a0_0 : ByteArray) (a0_1 : ByteArray) (r1 : ByteArray) (r2 : ByteArray) (w : World) (h : laws_toPair.f a0_0 a0_1 = some (r1, r2)) :
    Calls Try.prog 83 #[.agg #[.string a0_0, .string a0_1]] w fun e w' => e = .returned (.agg #[.string r1, .string r2]) ∧ Below w.heap.size w w' := by
  have hu98 := Try.underlying98
  have hu101 := Try.underlying101
  have HB := zq9 (Below.refl w.heap.size w)
  have H : (some (a0_0, a0_1)) = some (r1, r2) := h
  clear h
  simp only [Option.some.injEq, Prod.mk.injEq] at H
  obtain ⟨rfl, rfl⟩ := H
  go_enter Try.func83, Try.ntmps83
  go_wp2_with (first | ((with_reducible refine zq25 (N := 1) rfl ?_); refine bx 1 #[.string a0_0, .string a0_1] 98 ?_; intro gb153 hg w2 hbox hb; have n0_ := zq9 (zq27 (by exact bl HB) hb); have n1_ := zq9 (hbox); have n2_ := zq9 ((by rw [hg]; exact (zq29 (by exact bl HB)) : w.heap.size ≤ gb153)); have n3_ := n2_; clear HB; have HB := n0_; have BK153 := n1_; have GW153 := n2_; have GE153 := n3_; clear n0_ n1_ n2_ n3_; clear hb hbox hg) | ((with_reducible refine zq25 (N := 2) rfl ?_); refine bx 2 #[.string (⟨#[]⟩ : ByteArray), .string (⟨#[]⟩ : ByteArray)] 101 ?_; intro gb154 hg w3 hbox hb; have n0_ := zq9 (zq30 (g := gb153) (o := .cells #[.string a0_0, .string a0_1] 98 (0, 0)) (by exact bk BK153) hb); have n1_ := zq9 (zq27 (by exact b1 HB GE153) hb); have n2_ := zq9 (hbox); have n3_ := zq9 ((by rw [hg]; exact (zq29 (by exact b1 HB GE153)) : w.heap.size ≤ gb154)); have n4_ := n3_; have n5_ := zq9 ((by rw [hg]; exact Nat.ne_of_lt (blk_lt (g := gb153) (o := .cells #[.string a0_0, .string a0_1] 98 (0, 0)) (by exact bk BK153)) : gb153 ≠ gb154)); have n6_ := zq9 ((by rw [hg]; exact Nat.ne_of_gt (blk_lt (g := gb153) (o := .cells #[.string a0_0, .string a0_1] 98 (0, 0)) (by exact bk BK153)) : gb154 ≠ gb153)); clear BK153; clear HB; have BK153 := n0_; have HB := n1_; have BK154 := n2_; have GW154 := n3_; have GE154 := n4_; have NB153_154 := n5_; have NB154_153 := n6_; clear n0_ n1_ n2_ n3_ n4_ n5_ n6_; clear hb hbox hg) | ((with_reducible refine zq25 (N := 3) rfl ?_); refine bx 3 #[.string (⟨#[]⟩ : ByteArray), .string (⟨#[]⟩ : ByteArray)] 101 ?_; intro gb155 hg w4 hbox hb; have n0_ := zq9 (zq30 (g := gb153) (o := .cells #[.string a0_0, .string a0_1] 98 (0, 0)) (by exact bk BK153) hb); have n1_ := zq9 (zq30 (g := gb154) (o := .cells #[.string (⟨#[]⟩ : ByteArray), .string (⟨#[]⟩ : ByteArray)] 101 (0, 0)) (by exact bk BK154) hb); have n2_ := zq9 (zq27 (by exact b2 HB GE153 GE154) hb); have n3_ := zq9 (hbox); have n4_ := zq9 ((by rw [hg]; exact (zq29 (by exact b2 HB GE153 GE154)) : w.heap.size ≤ gb155)); have n5_ := n4_; have n6_ := zq9 ((by rw [hg]; exact Nat.ne_of_lt (blk_lt (g := gb153) (o := .cells #[.string a0_0, .string a0_1] 98 (0, 0)) (by exact bk BK153)) : gb153 ≠ gb155)); have n7_ := zq9 ((by rw [hg]; exact Nat.ne_of_gt (blk_lt (g := gb153) (o := .cells #[.string a0_0, .string a0_1] 98 (0, 0)) (by exact bk BK153)) : gb155 ≠ gb153)); have n8_ := zq9 ((by rw [hg]; exact Nat.ne_of_lt (blk_lt (g := gb154) (o := .cells #[.string (⟨#[]⟩ : ByteArray), .string (⟨#[]⟩ : ByteArray)] 101 (0, 0)) (by exact bk BK154)) : gb154 ≠ gb155)); have n9_ := zq9 ((by rw [hg]; exact Nat.ne_of_gt (blk_lt (g := gb154) (o := .cells #[.string (⟨#[]⟩ : ByteArray), .string (⟨#[]⟩ : ByteArray)] 101 (0, 0)) (by exact bk BK154)) : gb155 ≠ gb154)); clear BK153; clear BK154; clear HB; have BK153 := n0_; have BK154 := n1_; have HB := n2_; have BK155 := n3_; have GW155 := n4_; have GE155 := n5_; have NB153_155 := n6_; have NB155_153 := n7_; have NB154_155 := n8_; have NB155_154 := n9_; clear n0_ n1_ n2_ n3_ n4_ n5_ n6_ n7_ n8_ n9_; clear hb hbox hg; have hnb5 := NB153_154.out; have hnc5 := NB154_153.out; have hnb6 := NB153_155.out; have hnc6 := NB155_153.out; have hcz7_0 : w4.cell? ⟨gb153, 0, none⟩ = some (.string a0_0) := bc BK153 0; have hcz7_1 : w4.cell? ⟨gb153, 1, none⟩ = some (.string a0_1) := bc BK153 1; have hfz7_0 := zq6 BK153.out 0; have hfz7_1 := zq6 BK153.out 1; have hnb8 := NB155_154.out; have hnc8 := NB154_155.out; have hcz9_0 : w4.cell? ⟨gb155, 0, none⟩ = some (.string (⟨#[]⟩ : ByteArray)) := bc BK155 0; have hcz9_1 : w4.cell? ⟨gb155, 1, none⟩ = some (.string (⟨#[]⟩ : ByteArray)) := bc BK155 1; have hfz9_0 := zq6 BK155.out 0; have hfz9_1 := zq6 BK155.out 1; have hcz10_0 : w4.cell? ⟨gb154, 0, none⟩ = some (.string (⟨#[]⟩ : ByteArray)) := bc BK154 0; have hcz10_1 : w4.cell? ⟨gb154, 1, none⟩ = some (.string (⟨#[]⟩ : ByteArray)) := bc BK154 1; have hfz10_0 := zq6 BK154.out 0; have hfz10_1 := zq6 BK154.out 1))
  refine bodyPost_ret (results_cell_row rfl _ _ gb154 101 #[.string a0_0, .string a0_1] (0, 0) _ rfl (by refine bp ?_; refine blk_put (cs := #[.string a0_0, .string (⟨#[]⟩ : ByteArray)]) ?_ 1 _ rfl; refine bp ?_; refine blk_put (cs := #[.string (⟨#[]⟩ : ByteArray), .string (⟨#[]⟩ : ByteArray)]) ?_ 0 _ rfl; refine bp ?_; refine blk_far ?_ NB154_155.out _; refine bp ?_; refine blk_far ?_ NB154_155.out _; refine bp ?_; exact BK154.out) Try.underlying101 rfl (by kernel_rfl)) rfl ?_
  exact fz (by exact b3 HB GE153 GE154 GE155)
set_option maxHeartbeats 8000000 in
set_option maxRecDepth 100000 in
theorem laws_toPairS.calls (k : Nat) (A0 : Option Addr) (c0 : Nat) (l0 : List (S98)) (r : List (S101)) (w : World) (hr0 : Kd.C k98 w A0 l0.length l0) (hc0 : l0.length ≤ c0) (h : laws_toPairS.f k l0 = some r) :
  Calls Try.prog 47 #[.slice A0 l0.length c0] w fun e w' => ∃ v0_ : Value, e = .returned (v0_) ∧ Kd.R k101 101 w' w.heap.size (fun _ => True) v0_ r ∧ Below w.heap.size w w' := by
 have hu98 := Try.underlying98
 have hu101 := Try.underlying101
 have HR0 := zq9 hr0
 have HC0 := zq9 hc0
 clear hr0 hc0
 have HB := zq9 (Below.refl w.heap.size w)
 have H : (if 0 ≤ (l0.length : Int) then (if ((l0.length : Int) : Int).toNat ≤ 8796093022208 then (laws_toPairS.l0 k l0 (List.replicate ((l0.length : Int) : Int).toNat z101) 0) else (none)) else (none)) = some r := h
 clear h
 by_cases c2 : 0 ≤ (l0.length : Int)
 ·rw [if_pos c2] at H
  have c2b0 := eq_true c2
  have c2b1 : decide (0 ≤ (l0.length : Int)) = true := decide_eq_true c2
  clear c2
  by_cases c3 : ((l0.length : Int) : Int).toNat ≤ 8796093022208
  ·rw [if_pos c3] at H
   have c3b0 := eq_true c3
   have c3b1 : decide (((l0.length : Int) : Int).toNat ≤ 8796093022208) = true := decide_eq_true c3
   clear c3
   obtain ⟨y156, hy156⟩ : ∃ y_ : List (S101), y_ = (List.replicate ((l0.length : Int) : Int).toNat z101) := ⟨_, rfl⟩
   replace H : (laws_toPairS.l0 k l0 y156 0) = some r := by first | (rw [hy156]; with_reducible exact H) | (have H2_ := (Option.bind_some _ _).symm.trans H; rw [hy156]; with_reducible exact H2_) | (have H2_ := (Option.bind_some _ _).symm.trans H; with_reducible exact H2_) | with_reducible exact H | (rw [hy156]; exact H) | exact H
   have Ny156 := zq9 hy156
   clear hy156
   have H' := zq9 H
   clear H
   go_enter Try.func47, Try.ntmps47
   go_wp2_with (first | ((with_reducible refine zq25 (N := 7) rfl ?_); refine Kd.R_make k101 _ 101 rfl (N := 7) rfl 30 _ _ rfl (l0.length : Int) rfl rfl Try.underlying30 (.agg #[(.string ⟨#[]⟩), (.string ⟨#[]⟩)]) 32 info101 rfl (by decide) (by omega) z101 (ok := fun _ => True) (okp := fun _ => True) (k101_mkM _ _ _ z101 ) (fun _ hk => hk) trivial (of_decide_eq_true ‹_›) (Nat.le_trans (Nat.mul_le_mul_right _ (of_decide_eq_true ‹_› : (l0.length : Int).toNat ≤ 8796093022208)) (by omega)) (Below.refl _ _) (Nat.le_refl _) ?_; intro v157 w4 ho5 hb hg_ hnew_; clear hg_ hnew_; (first | rw [← Ny156.out] at ho5 | (simp only [Int.reduceToNat] at ho5; rw [← Ny156.out] at ho5)); have n0_ := zq9 (Kd.R_lower ho5 (zq29 (by exact bl HB))); have n1_ := zq9 (zq27 (by exact bl HB) hb); clear HB; have HO158 := n0_; have HB := n1_; clear n0_ n1_; clear hb ho5))
   go_loopg [4] k (fun kq v4 w' => ∃ (x3_1 : List (S101)) (x4_1 : Int), v4 = .int .i64 x4_1 ∧ Aside0 (laws_toPairS.l0 kq l0 x3_1 x4_1 = some r) ∧ Aside0 (kq ≤ k) ∧ Aside0 (Kd.R k101 101 w' w.heap.size (fun _ => True) v157 x3_1) ∧ Aside0 (Below w.heap.size w w'))
   case atStart => exact ⟨(y156), (0), (by first | rfl | (simp; done) | (simp [*]; done)), H', ⟨Nat.le_refl _⟩, ⟨by (with_reducible repeat (first | apply zq10 | apply zq11 | apply zq12)); exact HO158.out⟩, ⟨by exact bl HB⟩⟩
   case round =>
    clear H'
    try clear c2
    try clear c2b0
    try clear c2b1
    try clear p2
    try clear c3
    try clear c3b0
    try clear c3b1
    try clear c4
    obtain ⟨x3_1, x4_1, rfl, HA, HK1, HO_3, HB⟩ := hrel
    cases gk with
    | zero => exact absurd HA.out (by simp [laws_toPairS.l0])
    | succ k1 =>
     have H := HA.out
     clear HA
     simp only [laws_toPairS.l0] at H
     by_cases c6 : x4_1 < (l0.length : Int)
     ·rw [if_pos c6] at H
      have c6b0 : decide (x4_1 < (l0.length : Int)) = true := decide_eq_true c6
      clear c6
      by_cases c7 : 0 ≤ x4_1
      ·rw [if_pos c7] at H
       have c7b0 : decide (0 ≤ x4_1) = true := decide_eq_true c7
       clear c7
       replace H := Option.bind_eq_some_iff.mp H
       obtain ⟨⟨t160, t161⟩, A80, H⟩ := H
       try dsimp only at H
       have A8 := zq9 A80
       clear A80
       by_cases c9 : x4_1 < (x3_1.length : Int)
       ·rw [if_pos c9] at H
        have c9b0 : decide (x4_1 < (x3_1.length : Int)) = true := decide_eq_true c9
        clear c9
        obtain ⟨y162, hy162⟩ : ∃ y_ : List (S101), y_ = (x3_1.set (x4_1 : Int).toNat (⟨t160, t161⟩ : S101)) := ⟨_, rfl⟩
        replace H : (laws_toPairS.l0 k1 l0 y162 (wrap64 (x4_1 + 1))) = some r := by first | (rw [hy162]; with_reducible exact H) | (have H2_ := (Option.bind_some _ _).symm.trans H; rw [hy162]; with_reducible exact H2_) | (have H2_ := (Option.bind_some _ _).symm.trans H; with_reducible exact H2_) | with_reducible exact H | (rw [hy162]; exact H) | exact H
        have Ny162 := zq9 hy162
        clear hy162
        have H' := zq9 H
        clear H
        have p159 : 0 ≤ (x4_1 : Int) := of_decide_eq_true ‹_›
        have q159 : x4_1 < (l0.length : Int) := of_decide_eq_true ‹_›
        obtain ⟨ad159, e159, hx159_0, hx159_1⟩ := at_T98 HR0.out x4_1 p159 q159
        cases e159
        replace hx159_0 := (HB.out.cell (zq8 w _ hx159_0)).trans hx159_0
        replace hx159_1 := (HB.out.cell (zq8 w _ hx159_1)).trans hx159_1
        replace p159 := eq_true p159
        replace q159 := eq_true q159
        go_wp2_with (first | ((with_reducible refine zq24 (f := 83) rfl ?_); refine gl (some 20) Try.func83 #[.agg #[.string ((rd_T98 l0 x4_1).f0), .string ((rd_T98 l0 x4_1).f1)]] ?_; (with_reducible refine (laws_toPair.calls ((rd_T98 l0 x4_1).f0) ((rd_T98 l0 x4_1).f1) t160 t161 _ A8.out).mono ?_); rintro e w11 ⟨rfl, hb⟩; refine ⟨_, rfl, ?_⟩; have n0_ := zq9 (Kd.R_below (by exact rz HO_3) hb); have n1_ := zq9 (zq27 (by exact bl HB) hb); clear HO_3; clear HB; have HO_3 := n0_; have HB := n1_; clear n0_ n1_; (try clear hb); (try clear hb2); (try clear hk); (try clear hi); have p10 : 0 ≤ (x4_1 : Int) := of_decide_eq_true ‹_›; have q10 : (x4_1 : Int) < ((x3_1.length : Int) : Int) := of_decide_eq_true ‹_›; obtain ⟨go10, co10, eo10, gb10, gl10, cl10, HG10⟩ := Kd.R_form HO_3.out (by omega); (first | cases eo10 | (injection eo10 with ea_ en_ ec_; (first | subst ea_ | (injection ea_ with ea_; subst ea_)); subst ec_; clear en_)); have GB10 := zq9 gb10; have GG10 := zq9 HG10; clear gb10 gl10 HG10; obtain ⟨ce10, hcl10, hM10, hcc10, hfr10⟩ := Kd.R_elem HO_3.out z101 (x4_1 : Int) p10 q10; obtain rfl := k101_openM hM10; have hx10_0 : w11.cell? ⟨go10, (x4_1 : Int).toNat * 2, none⟩ = some (.string ((rd_T101 x3_1 x4_1).f0)) := hcc10 0 _ rfl; have hx10_1 : w11.cell? ⟨go10, (x4_1 : Int).toNat * 2 + 1, none⟩ = some (.string ((rd_T101 x3_1 x4_1).f1)) := hcc10 1 _ rfl; have hf10_0 : w11.frozen? ⟨go10, (x4_1 : Int).toNat * 2, none⟩ = false := hfr10 0; have hf10_1 : w11.frozen? ⟨go10, (x4_1 : Int).toNat * 2 + 1, none⟩ = false := hfr10 1; clear hcl10 hcc10 hfr10 hM10; replace p10 := eq_true p10; replace q10 := eq_true q10; have HX12 := zq9 (show Kd.R k101 101 w11 w.heap.size (fun _ => True) (.slice (some ⟨go10, 0, none⟩) x3_1.length co10) x3_1 from (by exact rz HO_3)); obtain ⟨ce12, hcl12, hM12, hcc12, hfr12⟩ := Kd.R_elem HX12.out z101 (x4_1 : Int) (of_decide_eq_true ‹_›) (by have h_ : (x4_1 : Int) < ((x3_1.length : Int) : Int) := of_decide_eq_true ‹_›; first | exact h_ | (have e_ := (Kd.R_reads' HO_3.out).1; omega) | simpa using h_); obtain rfl := k101_openM hM12; have HP12 := Kd.R_seg HX12.out (x4_1 : Int) (of_decide_eq_true ‹_›) (by have h_ : (x4_1 : Int) < ((x3_1.length : Int) : Int) := of_decide_eq_true ‹_›; first | exact h_ | (have e_ := (Kd.R_reads' HO_3.out).1; omega) | simpa using h_) (seg := [.string t160, .string t161]) (j := 0) hcl12 hcc12 (show 2 ≤ 2 from by decide) (x' := (⟨t160, t161⟩ : S101)) (k101_mkM _ _ _ (⟨t160, t161⟩ : S101) ) (fun _ hk => hk); have hx12_0 := hcc12 0 _ rfl; (try simp only [show (k101).sz = 2 from rfl, Nat.mul_one, Nat.add_zero] at hx12_0); have hf12_0 := hfr12 0; (try simp only [show (k101).sz = 2 from rfl, Nat.mul_one, Nat.add_zero] at hf12_0); have hx12_1 := hcc12 1 _ rfl; (try simp only [show (k101).sz = 2 from rfl, Nat.mul_one, Nat.add_zero] at hx12_1); have hf12_1 := hfr12 1; (try simp only [show (k101).sz = 2 from rfl, Nat.mul_one, Nat.add_zero] at hf12_1); clear hcl12 hcc12 hfr12 hM12) | ((with_reducible refine zq26 (t := 101) (p := 21) rfl ?_); refine store_event (t := 101) (p := 21) (v := ?vo_w13) (w1 := ((w11.setCell ⟨go10, (x4_1 : Int).toNat * 2, none⟩ (.string t160)).setCell ⟨go10, (x4_1 : Int).toNat * 2 + 1, none⟩ (.string t161))) ?hg ?ho ?hn ?hr ?_; (case ho => rfl); (case hg => rfl); (case hn => rfl); (case hr => first | (go_simp; done) | (go_simp; rfl)); intro w13 hw; have hg : w11.grownBy w13 (some go10) := (by rw [hw]; exact HP12.2); have hp_ : Kd.R k101 101 w13 w.heap.size (fun _ => True) (.slice (some ⟨go10, 0, none⟩) x3_1.length co10) y162 := (by rw [hw, Ny162.out]; exact HP12.1); clear HP12; have n0_ := zq9 (hp_); have n1_ := zq9 ((by rw [hw]; exact zq28 (zq28 (HB.out) GB10.out) GB10.out : Below w.heap.size w w13)); clear HO_3; clear HB; have HO_3 := n0_; have HB := n1_; clear n0_ n1_; clear hg hw hp_))
        go_roundg k1
        case measure => have := HK1.out; omega
        case rel => exact ⟨(y162), (wrap64 (x4_1 + 1)), (by first | rfl | (simp; done) | (simp [*]; done)), H', ⟨by have := HK1.out; omega⟩, ⟨by (with_reducible repeat (first | apply zq10 | apply zq11 | apply zq12)); exact HO_3.out⟩, ⟨by exact bl HB⟩⟩
       ·rw [if_neg c9] at H
        exact absurd H (by simp)
      ·rw [if_neg c7] at H
       exact absurd H (by simp)
     ·rw [if_neg c6] at H
      have c6b0 : decide (x4_1 < (l0.length : Int)) = false := decide_eq_false c6
      clear c6
      obtain rfl := Option.some.inj H
      go_wp2
      go_ret
      exact ⟨_, by first | rfl | (simp [errW_none, errW_some] <;> rfl) | (simp [*, errW_none, errW_some] <;> rfl), by (with_reducible repeat (first | apply zq10 | apply zq11 | apply zq12)); exact HO_3.out, by exact bl HB⟩
  ·rw [if_neg c3] at H
   exact absurd H (by simp)
 ·rw [if_neg c2] at H
  exact absurd H (by simp)
set_option maxHeartbeats 8000000 in
set_option maxRecDepth 100000 in
theorem laws_toEntry.calls (k : Nat) (a0_0 : ByteArray) (a0_1 : Int) (a0_2 : Int) (a0_3 : ByteArray) (A0_4 : Option Addr) (c0_4 : Nat) (l0_4 : List ByteArray) (A0_5 : Option Addr) (c0_5 : Nat) (l0_5 : List (S95)) (A0_6 : Option Addr) (c0_6 : Nat) (l0_6 : List (S98)) (r1 : ByteArray) (r2 : Int) (r3 : Int) (r4 : ByteArray) (r5 : List ByteArray) (r6 : List (S99)) (r7 : List (S101)) (w : World) (hr0_4 : Kd.C Kd.string w A0_4 l0_4.length l0_4) (hc0_4 : l0_4.length ≤ c0_4) (hr0_5 : Kd.C k95 w A0_5 l0_5.length l0_5) (hc0_5 : l0_5.length ≤ c0_5) (hr0_6 : Kd.C k98 w A0_6 l0_6.length l0_6) (hc0_6 : l0_6.length ≤ c0_6) (h : laws_toEntry.f k a0_0 a0_1 a0_2 a0_3 l0_4 l0_5 l0_6 = some (r1, r2, r3, r4, r5, r6, r7)) :
    Calls Try.prog 12 #[.agg #[.string a0_0, .int .i64 a0_1, .int .i64 a0_2, .string a0_3, .slice A0_4 l0_4.length c0_4, .slice A0_5 l0_5.length c0_5, .slice A0_6 l0_6.length c0_6]] w fun e w' => ∃ v4_ v5_ v6_ : Value, e = .returned (.agg #[.string r1, .int .i64 r2, .int .i64 r3, .string r4, v4_, v5_, v6_]) ∧ Kd.R Kd.string 9 w' w.heap.size (fun _ => True) v4_ r5 ∧ Kd.R k99 99 w' w.heap.size (fun _ => True) v5_ r6 ∧ Kd.R k101 101 w' w.heap.size (fun _ => True) v6_ r7 ∧ Below w.heap.size w w' := by
  have hu26 := Try.underlying26
  have hu32 := Try.underlying32
  have HR0_4 := zq9 hr0_4
  have HC0_4 := zq9 hc0_4
  clear hr0_4 hc0_4
  have HR0_5 := zq9 hr0_5
  have HC0_5 := zq9 hc0_5
  clear hr0_5 hc0_5
  have HR0_6 := zq9 hr0_6
  have HC0_6 := zq9 hc0_6
  clear hr0_6 hc0_6
  have HB := zq9 (Below.refl w.heap.size w)
  have H : ((laws_toStringS.f k l0_4).bind fun t166 => ((laws_toScoreS.f k l0_5).bind fun t169 => ((laws_toPairS.f k l0_6).bind fun t172 => (some (a0_0, a0_1, a0_2, a0_3, t166, t169, t172))))) = some (r1, r2, r3, r4, r5, r6, r7) := h
  clear h
  replace H := Option.bind_eq_some_iff.mp H
  obtain ⟨t166, A20, H⟩ := H
  try dsimp only at H
  have A2 := zq9 A20
  clear A20
  replace H := Option.bind_eq_some_iff.mp H
  obtain ⟨t169, A30, H⟩ := H
  try dsimp only at H
  have A3 := zq9 A30
  clear A30
  replace H := Option.bind_eq_some_iff.mp H
  obtain ⟨t172, A40, H⟩ := H
  try dsimp only at H
  have A4 := zq9 A40
  clear A40
  simp only [Option.some.injEq, Prod.mk.injEq] at H
  obtain ⟨rfl, rfl, rfl, rfl, rfl, rfl, rfl⟩ := H
  go_enter Try.func12, Try.ntmps12
  go_wp2_with (first | ((with_reducible refine zq25 (N := 1) rfl ?_); refine bx 1 #[.string a0_0, .int .i64 a0_1, .int .i64 a0_2, .string a0_3, .slice A0_4 l0_4.length c0_4, .slice A0_5 l0_5.length c0_5, .slice A0_6 l0_6.length c0_6] 26 ?_; intro gb163 hg w5 hbox hb; have n0_ := zq9 (zq27 (by exact bl HB) hb); have n1_ := zq9 (hbox); have n2_ := zq9 ((by rw [hg]; exact (zq29 (by exact bl HB)) : w.heap.size ≤ gb163)); have n3_ := n2_; clear HB; have HB := n0_; have BK163 := n1_; have GW163 := n2_; have GE163 := n3_; clear n0_ n1_ n2_ n3_; clear hb hbox hg) | ((with_reducible refine zq25 (N := 2) rfl ?_); refine bx 2 #[.string (⟨#[]⟩ : ByteArray), .int .i64 0, .int .i64 0, .string (⟨#[]⟩ : ByteArray), .slice none 0 0, .slice none 0 0, .slice none 0 0] 32 ?_; intro gb164 hg w6 hbox hb; have n0_ := zq9 (zq30 (g := gb163) (o := .cells #[.string a0_0, .int .i64 a0_1, .int .i64 a0_2, .string a0_3, .slice A0_4 l0_4.length c0_4, .slice A0_5 l0_5.length c0_5, .slice A0_6 l0_6.length c0_6] 26 (0, 0)) (by exact bk BK163) hb); have n1_ := zq9 (zq27 (by exact b1 HB GE163) hb); have n2_ := zq9 (hbox); have n3_ := zq9 ((by rw [hg]; exact (zq29 (by exact b1 HB GE163)) : w.heap.size ≤ gb164)); have n4_ := n3_; have n5_ := zq9 ((by rw [hg]; exact Nat.ne_of_lt (blk_lt (g := gb163) (o := .cells #[.string a0_0, .int .i64 a0_1, .int .i64 a0_2, .string a0_3, .slice A0_4 l0_4.length c0_4, .slice A0_5 l0_5.length c0_5, .slice A0_6 l0_6.length c0_6] 26 (0, 0)) (by exact bk BK163)) : gb163 ≠ gb164)); have n6_ := zq9 ((by rw [hg]; exact Nat.ne_of_gt (blk_lt (g := gb163) (o := .cells #[.string a0_0, .int .i64 a0_1, .int .i64 a0_2, .string a0_3, .slice A0_4 l0_4.length c0_4, .slice A0_5 l0_5.length c0_5, .slice A0_6 l0_6.length c0_6] 26 (0, 0)) (by exact bk BK163)) : gb164 ≠ gb163)); clear BK163; clear HB; have BK163 := n0_; have HB := n1_; have BK164 := n2_; have GW164 := n3_; have GE164 := n4_; have NB163_164 := n5_; have NB164_163 := n6_; clear n0_ n1_ n2_ n3_ n4_ n5_ n6_; clear hb hbox hg) | ((with_reducible refine zq25 (N := 3) rfl ?_); refine bx 3 #[.string (⟨#[]⟩ : ByteArray), .int .i64 0, .int .i64 0, .string (⟨#[]⟩ : ByteArray), .slice none 0 0, .slice none 0 0, .slice none 0 0] 32 ?_; intro gb165 hg w7 hbox hb; have n0_ := zq9 (zq30 (g := gb163) (o := .cells #[.string a0_0, .int .i64 a0_1, .int .i64 a0_2, .string a0_3, .slice A0_4 l0_4.length c0_4, .slice A0_5 l0_5.length c0_5, .slice A0_6 l0_6.length c0_6] 26 (0, 0)) (by exact bk BK163) hb); have n1_ := zq9 (zq30 (g := gb164) (o := .cells #[.string (⟨#[]⟩ : ByteArray), .int .i64 0, .int .i64 0, .string (⟨#[]⟩ : ByteArray), .slice none 0 0, .slice none 0 0, .slice none 0 0] 32 (0, 0)) (by exact bk BK164) hb); have n2_ := zq9 (zq27 (by exact b2 HB GE163 GE164) hb); have n3_ := zq9 (hbox); have n4_ := zq9 ((by rw [hg]; exact (zq29 (by exact b2 HB GE163 GE164)) : w.heap.size ≤ gb165)); have n5_ := n4_; have n6_ := zq9 ((by rw [hg]; exact Nat.ne_of_lt (blk_lt (g := gb163) (o := .cells #[.string a0_0, .int .i64 a0_1, .int .i64 a0_2, .string a0_3, .slice A0_4 l0_4.length c0_4, .slice A0_5 l0_5.length c0_5, .slice A0_6 l0_6.length c0_6] 26 (0, 0)) (by exact bk BK163)) : gb163 ≠ gb165)); have n7_ := zq9 ((by rw [hg]; exact Nat.ne_of_gt (blk_lt (g := gb163) (o := .cells #[.string a0_0, .int .i64 a0_1, .int .i64 a0_2, .string a0_3, .slice A0_4 l0_4.length c0_4, .slice A0_5 l0_5.length c0_5, .slice A0_6 l0_6.length c0_6] 26 (0, 0)) (by exact bk BK163)) : gb165 ≠ gb163)); have n8_ := zq9 ((by rw [hg]; exact Nat.ne_of_lt (blk_lt (g := gb164) (o := .cells #[.string (⟨#[]⟩ : ByteArray), .int .i64 0, .int .i64 0, .string (⟨#[]⟩ : ByteArray), .slice none 0 0, .slice none 0 0, .slice none 0 0] 32 (0, 0)) (by exact bk BK164)) : gb164 ≠ gb165)); have n9_ := zq9 ((by rw [hg]; exact Nat.ne_of_gt (blk_lt (g := gb164) (o := .cells #[.string (⟨#[]⟩ : ByteArray), .int .i64 0, .int .i64 0, .string (⟨#[]⟩ : ByteArray), .slice none 0 0, .slice none 0 0, .slice none 0 0] 32 (0, 0)) (by exact bk BK164)) : gb165 ≠ gb164)); clear BK163; clear BK164; clear HB; have BK163 := n0_; have BK164 := n1_; have HB := n2_; have BK165 := n3_; have GW165 := n4_; have GE165 := n5_; have NB163_165 := n6_; have NB165_163 := n7_; have NB164_165 := n8_; have NB165_164 := n9_; clear n0_ n1_ n2_ n3_ n4_ n5_ n6_ n7_ n8_ n9_; clear hb hbox hg; have hnb8 := NB163_164.out; have hnc8 := NB164_163.out; have hnb9 := NB163_165.out; have hnc9 := NB165_163.out; have hcz10_0 : w7.cell? ⟨gb163, 0, none⟩ = some (.string a0_0) := bc BK163 0; have hcz10_1 : w7.cell? ⟨gb163, 1, none⟩ = some (.int .i64 a0_1) := bc BK163 1; have hcz10_2 : w7.cell? ⟨gb163, 2, none⟩ = some (.int .i64 a0_2) := bc BK163 2; have hcz10_3 : w7.cell? ⟨gb163, 3, none⟩ = some (.string a0_3) := bc BK163 3; have hcz10_4 : w7.cell? ⟨gb163, 4, none⟩ = some (.slice A0_4 l0_4.length c0_4) := bc BK163 4; have hcz10_5 : w7.cell? ⟨gb163, 5, none⟩ = some (.slice A0_5 l0_5.length c0_5) := bc BK163 5; have hcz10_6 : w7.cell? ⟨gb163, 6, none⟩ = some (.slice A0_6 l0_6.length c0_6) := bc BK163 6; have hfz10_0 := zq6 BK163.out 0; have hfz10_1 := zq6 BK163.out 1; have hfz10_2 := zq6 BK163.out 2; have hfz10_3 := zq6 BK163.out 3; have hfz10_4 := zq6 BK163.out 4; have hfz10_5 := zq6 BK163.out 5; have hfz10_6 := zq6 BK163.out 6; have hnb11 := NB165_164.out; have hnc11 := NB164_165.out; have hcz12_0 : w7.cell? ⟨gb165, 0, none⟩ = some (.string (⟨#[]⟩ : ByteArray)) := bc BK165 0; have hcz12_1 : w7.cell? ⟨gb165, 1, none⟩ = some (.int .i64 0) := bc BK165 1; have hcz12_2 : w7.cell? ⟨gb165, 2, none⟩ = some (.int .i64 0) := bc BK165 2; have hcz12_3 : w7.cell? ⟨gb165, 3, none⟩ = some (.string (⟨#[]⟩ : ByteArray)) := bc BK165 3; have hcz12_4 : w7.cell? ⟨gb165, 4, none⟩ = some (.slice none 0 0) := bc BK165 4; have hcz12_5 : w7.cell? ⟨gb165, 5, none⟩ = some (.slice none 0 0) := bc BK165 5; have hcz12_6 : w7.cell? ⟨gb165, 6, none⟩ = some (.slice none 0 0) := bc BK165 6; have hfz12_0 := zq6 BK165.out 0; have hfz12_1 := zq6 BK165.out 1; have hfz12_2 := zq6 BK165.out 2; have hfz12_3 := zq6 BK165.out 3; have hfz12_4 := zq6 BK165.out 4; have hfz12_5 := zq6 BK165.out 5; have hfz12_6 := zq6 BK165.out 6) | ((with_reducible refine zq24 (f := 45) rfl ?_); refine gl (some 18) Try.func45 #[.slice A0_4 l0_4.length c0_4] ?_; (with_reducible refine (laws_toStringS.calls k _ _ l0_4 t166 _ ?side1 ?side2 A2.out).mono ?_); (case side1 => exact zq31 HR0_4.out (by exact b3 HB GE163 GE164 GE165)); (case side2 => exact HC0_4.out); rintro e w13 ⟨v167, rfl, ho0, hb⟩; refine ⟨_, rfl, ?_⟩; have n0_ := zq9 (Kd.R_lower ho0 (zq29 (by exact b3 HB GE163 GE164 GE165))); have n1_ := zq9 (zq30 (g := gb163) (o := .cells #[.string a0_0, .int .i64 a0_1, .int .i64 a0_2, .string a0_3, .slice A0_4 l0_4.length c0_4, .slice A0_5 l0_5.length c0_5, .slice A0_6 l0_6.length c0_6] 26 (0, 0)) (by refine bp ?_; refine blk_far ?_ NB163_165.out _; refine bp ?_; refine blk_far ?_ NB163_165.out _; refine bp ?_; refine blk_far ?_ NB163_165.out _; refine bp ?_; refine blk_far ?_ NB163_165.out _; refine bp ?_; exact BK163.out) hb); have n2_ := zq9 (zq30 (g := gb164) (o := .cells #[.string (⟨#[]⟩ : ByteArray), .int .i64 0, .int .i64 0, .string (⟨#[]⟩ : ByteArray), .slice none 0 0, .slice none 0 0, .slice none 0 0] 32 (0, 0)) (by refine bp ?_; refine blk_far ?_ NB164_165.out _; refine bp ?_; refine blk_far ?_ NB164_165.out _; refine bp ?_; refine blk_far ?_ NB164_165.out _; refine bp ?_; refine blk_far ?_ NB164_165.out _; refine bp ?_; exact BK164.out) hb); have n3_ := zq9 (zq30 (g := gb165) (o := .cells #[.string a0_0, .int .i64 a0_1, .int .i64 a0_2, .string a0_3, .slice none 0 0, .slice none 0 0, .slice none 0 0] 32 (0, 0)) (by refine bp ?_; refine blk_put (cs := #[.string a0_0, .int .i64 a0_1, .int .i64 a0_2, .string (⟨#[]⟩ : ByteArray), .slice none 0 0, .slice none 0 0, .slice none 0 0]) ?_ 3 _ rfl; refine bp ?_; refine blk_put (cs := #[.string a0_0, .int .i64 a0_1, .int .i64 0, .string (⟨#[]⟩ : ByteArray), .slice none 0 0, .slice none 0 0, .slice none 0 0]) ?_ 2 _ rfl; refine bp ?_; refine blk_put (cs := #[.string a0_0, .int .i64 0, .int .i64 0, .string (⟨#[]⟩ : ByteArray), .slice none 0 0, .slice none 0 0, .slice none 0 0]) ?_ 1 _ rfl; refine bp ?_; refine blk_put (cs := #[.string (⟨#[]⟩ : ByteArray), .int .i64 0, .int .i64 0, .string (⟨#[]⟩ : ByteArray), .slice none 0 0, .slice none 0 0, .slice none 0 0]) ?_ 0 _ rfl; refine bp ?_; exact BK165.out) hb); have n4_ := zq9 (zq27 (by exact b3 HB GE163 GE164 GE165) hb); clear BK163; clear BK164; clear BK165; clear HB; have HO168 := n0_; have BK163 := n1_; have BK164 := n2_; have BK165 := n3_; have HB := n4_; clear n0_ n1_ n2_ n3_ n4_; (try clear hb); (try clear hb2); (try clear hk); (try clear hi); (try clear ho0); obtain ⟨Ao14, co14, eo14⟩ := Kd.R_slice HO168.out; subst eo14; have hcz15_0 : w13.cell? ⟨gb165, 0, none⟩ = some (.string a0_0) := bc BK165 0; have hcz15_1 : w13.cell? ⟨gb165, 1, none⟩ = some (.int .i64 a0_1) := bc BK165 1; have hcz15_2 : w13.cell? ⟨gb165, 2, none⟩ = some (.int .i64 a0_2) := bc BK165 2; have hcz15_3 : w13.cell? ⟨gb165, 3, none⟩ = some (.string a0_3) := bc BK165 3; have hcz15_4 : w13.cell? ⟨gb165, 4, none⟩ = some (.slice none 0 0) := bc BK165 4; have hcz15_5 : w13.cell? ⟨gb165, 5, none⟩ = some (.slice none 0 0) := bc BK165 5; have hcz15_6 : w13.cell? ⟨gb165, 6, none⟩ = some (.slice none 0 0) := bc BK165 6; have hfz15_0 := zq6 BK165.out 0; have hfz15_1 := zq6 BK165.out 1; have hfz15_2 := zq6 BK165.out 2; have hfz15_3 := zq6 BK165.out 3; have hfz15_4 := zq6 BK165.out 4; have hfz15_5 := zq6 BK165.out 5; have hfz15_6 := zq6 BK165.out 6; have hcz16_0 : w13.cell? ⟨gb163, 0, none⟩ = some (.string a0_0) := bc BK163 0; have hcz16_1 : w13.cell? ⟨gb163, 1, none⟩ = some (.int .i64 a0_1) := bc BK163 1; have hcz16_2 : w13.cell? ⟨gb163, 2, none⟩ = some (.int .i64 a0_2) := bc BK163 2; have hcz16_3 : w13.cell? ⟨gb163, 3, none⟩ = some (.string a0_3) := bc BK163 3; have hcz16_4 : w13.cell? ⟨gb163, 4, none⟩ = some (.slice A0_4 l0_4.length c0_4) := bc BK163 4; have hcz16_5 : w13.cell? ⟨gb163, 5, none⟩ = some (.slice A0_5 l0_5.length c0_5) := bc BK163 5; have hcz16_6 : w13.cell? ⟨gb163, 6, none⟩ = some (.slice A0_6 l0_6.length c0_6) := bc BK163 6; have hfz16_0 := zq6 BK163.out 0; have hfz16_1 := zq6 BK163.out 1; have hfz16_2 := zq6 BK163.out 2; have hfz16_3 := zq6 BK163.out 3; have hfz16_4 := zq6 BK163.out 4; have hfz16_5 := zq6 BK163.out 5; have hfz16_6 := zq6 BK163.out 6) | ((with_reducible refine zq24 (f := 46) rfl ?_); refine gl (some 22) Try.func46 #[.slice A0_5 l0_5.length c0_5] ?_; (with_reducible refine (laws_toScoreS.calls k _ _ l0_5 t169 _ ?side1 ?side2 A3.out).mono ?_); (case side1 => exact zq31 HR0_5.out (by exact b3 HB GE163 GE164 GE165)); (case side2 => exact HC0_5.out); rintro e w17 ⟨v170, rfl, ho0, hb⟩; refine ⟨_, rfl, ?_⟩; have n0_ := zq9 (Kd.R_below (by (with_reducible repeat (first | apply zq10 | apply zq11 | apply zq12)); exact (Kd.R_mono (Kd.R_far (p := ⟨gb165, 4, none⟩) (Kd.R_types HO168.out BK165.out (by decide)) (fun _ hk => hk.2) (.slice Ao14 t166.length co14)) (fun _ h_ => h_.1))) hb); have n1_ := zq9 (Kd.R_lower ho0 (zq29 (by exact b3 HB GE163 GE164 GE165))); have n2_ := zq9 (zq30 (g := gb163) (o := .cells #[.string a0_0, .int .i64 a0_1, .int .i64 a0_2, .string a0_3, .slice A0_4 l0_4.length c0_4, .slice A0_5 l0_5.length c0_5, .slice A0_6 l0_6.length c0_6] 26 (0, 0)) (by refine bp ?_; refine blk_far ?_ NB163_165.out _; refine bp ?_; exact BK163.out) hb); have n3_ := zq9 (zq30 (g := gb164) (o := .cells #[.string (⟨#[]⟩ : ByteArray), .int .i64 0, .int .i64 0, .string (⟨#[]⟩ : ByteArray), .slice none 0 0, .slice none 0 0, .slice none 0 0] 32 (0, 0)) (by refine bp ?_; refine blk_far ?_ NB164_165.out _; refine bp ?_; exact BK164.out) hb); have n4_ := zq9 (zq30 (g := gb165) (o := .cells #[.string a0_0, .int .i64 a0_1, .int .i64 a0_2, .string a0_3, .slice Ao14 t166.length co14, .slice none 0 0, .slice none 0 0] 32 (0, 0)) (by refine bp ?_; refine blk_put (cs := #[.string a0_0, .int .i64 a0_1, .int .i64 a0_2, .string a0_3, .slice none 0 0, .slice none 0 0, .slice none 0 0]) ?_ 4 _ rfl; refine bp ?_; exact BK165.out) hb); have n5_ := zq9 (zq27 (by exact b3 HB GE163 GE164 GE165) hb); clear HO168; clear BK163; clear BK164; clear BK165; clear HB; have HO168 := n0_; have HO171 := n1_; have BK163 := n2_; have BK164 := n3_; have BK165 := n4_; have HB := n5_; clear n0_ n1_ n2_ n3_ n4_ n5_; (try clear hb); (try clear hb2); (try clear hk); (try clear hi); (try clear ho0); obtain ⟨Ao18, co18, eo18⟩ := Kd.R_slice HO171.out; subst eo18; have hcz19_0 : w17.cell? ⟨gb165, 0, none⟩ = some (.string a0_0) := bc BK165 0; have hcz19_1 : w17.cell? ⟨gb165, 1, none⟩ = some (.int .i64 a0_1) := bc BK165 1; have hcz19_2 : w17.cell? ⟨gb165, 2, none⟩ = some (.int .i64 a0_2) := bc BK165 2; have hcz19_3 : w17.cell? ⟨gb165, 3, none⟩ = some (.string a0_3) := bc BK165 3; have hcz19_4 : w17.cell? ⟨gb165, 4, none⟩ = some (.slice Ao14 t166.length co14) := bc BK165 4; have hcz19_5 : w17.cell? ⟨gb165, 5, none⟩ = some (.slice none 0 0) := bc BK165 5; have hcz19_6 : w17.cell? ⟨gb165, 6, none⟩ = some (.slice none 0 0) := bc BK165 6; have hfz19_0 := zq6 BK165.out 0; have hfz19_1 := zq6 BK165.out 1; have hfz19_2 := zq6 BK165.out 2; have hfz19_3 := zq6 BK165.out 3; have hfz19_4 := zq6 BK165.out 4; have hfz19_5 := zq6 BK165.out 5; have hfz19_6 := zq6 BK165.out 6; have hcz20_0 : w17.cell? ⟨gb163, 0, none⟩ = some (.string a0_0) := bc BK163 0; have hcz20_1 : w17.cell? ⟨gb163, 1, none⟩ = some (.int .i64 a0_1) := bc BK163 1; have hcz20_2 : w17.cell? ⟨gb163, 2, none⟩ = some (.int .i64 a0_2) := bc BK163 2; have hcz20_3 : w17.cell? ⟨gb163, 3, none⟩ = some (.string a0_3) := bc BK163 3; have hcz20_4 : w17.cell? ⟨gb163, 4, none⟩ = some (.slice A0_4 l0_4.length c0_4) := bc BK163 4; have hcz20_5 : w17.cell? ⟨gb163, 5, none⟩ = some (.slice A0_5 l0_5.length c0_5) := bc BK163 5; have hcz20_6 : w17.cell? ⟨gb163, 6, none⟩ = some (.slice A0_6 l0_6.length c0_6) := bc BK163 6; have hfz20_0 := zq6 BK163.out 0; have hfz20_1 := zq6 BK163.out 1; have hfz20_2 := zq6 BK163.out 2; have hfz20_3 := zq6 BK163.out 3; have hfz20_4 := zq6 BK163.out 4; have hfz20_5 := zq6 BK163.out 5; have hfz20_6 := zq6 BK163.out 6) | ((with_reducible refine zq24 (f := 47) rfl ?_); refine gl (some 26) Try.func47 #[.slice A0_6 l0_6.length c0_6] ?_; (with_reducible refine (laws_toPairS.calls k _ _ l0_6 t172 _ ?side1 ?side2 A4.out).mono ?_); (case side1 => exact zq31 HR0_6.out (by exact b3 HB GE163 GE164 GE165)); (case side2 => exact HC0_6.out); rintro e w21 ⟨v173, rfl, ho0, hb⟩; refine ⟨_, rfl, ?_⟩; have n0_ := zq9 (Kd.R_below (by (with_reducible repeat (first | apply zq10 | apply zq11 | apply zq12)); exact (Kd.R_mono (Kd.R_far (p := ⟨gb165, 5, none⟩) (Kd.R_types HO168.out BK165.out (by decide)) (fun _ hk => hk.2) (.slice Ao18 t169.length co18)) (fun _ h_ => h_.1))) hb); have n1_ := zq9 (Kd.R_below (by (with_reducible repeat (first | apply zq10 | apply zq11 | apply zq12)); exact (Kd.R_mono (Kd.R_far (p := ⟨gb165, 5, none⟩) (Kd.R_types HO171.out BK165.out (by decide)) (fun _ hk => hk.2) (.slice Ao18 t169.length co18)) (fun _ h_ => h_.1))) hb); have n2_ := zq9 (Kd.R_lower ho0 (zq29 (by exact b3 HB GE163 GE164 GE165))); have n3_ := zq9 (zq30 (g := gb163) (o := .cells #[.string a0_0, .int .i64 a0_1, .int .i64 a0_2, .string a0_3, .slice A0_4 l0_4.length c0_4, .slice A0_5 l0_5.length c0_5, .slice A0_6 l0_6.length c0_6] 26 (0, 0)) (by refine bp ?_; refine blk_far ?_ NB163_165.out _; refine bp ?_; exact BK163.out) hb); have n4_ := zq9 (zq30 (g := gb164) (o := .cells #[.string (⟨#[]⟩ : ByteArray), .int .i64 0, .int .i64 0, .string (⟨#[]⟩ : ByteArray), .slice none 0 0, .slice none 0 0, .slice none 0 0] 32 (0, 0)) (by refine bp ?_; refine blk_far ?_ NB164_165.out _; refine bp ?_; exact BK164.out) hb); have n5_ := zq9 (zq30 (g := gb165) (o := .cells #[.string a0_0, .int .i64 a0_1, .int .i64 a0_2, .string a0_3, .slice Ao14 t166.length co14, .slice Ao18 t169.length co18, .slice none 0 0] 32 (0, 0)) (by refine bp ?_; refine blk_put (cs := #[.string a0_0, .int .i64 a0_1, .int .i64 a0_2, .string a0_3, .slice Ao14 t166.length co14, .slice none 0 0, .slice none 0 0]) ?_ 5 _ rfl; refine bp ?_; exact BK165.out) hb); have n6_ := zq9 (zq27 (by exact b3 HB GE163 GE164 GE165) hb); clear HO168; clear HO171; clear BK163; clear BK164; clear BK165; clear HB; have HO168 := n0_; have HO171 := n1_; have HO174 := n2_; have BK163 := n3_; have BK164 := n4_; have BK165 := n5_; have HB := n6_; clear n0_ n1_ n2_ n3_ n4_ n5_ n6_; (try clear hb); (try clear hb2); (try clear hk); (try clear hi); (try clear ho0); obtain ⟨Ao22, co22, eo22⟩ := Kd.R_slice HO174.out; subst eo22; have hcz23_0 : w21.cell? ⟨gb165, 0, none⟩ = some (.string a0_0) := bc BK165 0; have hcz23_1 : w21.cell? ⟨gb165, 1, none⟩ = some (.int .i64 a0_1) := bc BK165 1; have hcz23_2 : w21.cell? ⟨gb165, 2, none⟩ = some (.int .i64 a0_2) := bc BK165 2; have hcz23_3 : w21.cell? ⟨gb165, 3, none⟩ = some (.string a0_3) := bc BK165 3; have hcz23_4 : w21.cell? ⟨gb165, 4, none⟩ = some (.slice Ao14 t166.length co14) := bc BK165 4; have hcz23_5 : w21.cell? ⟨gb165, 5, none⟩ = some (.slice Ao18 t169.length co18) := bc BK165 5; have hcz23_6 : w21.cell? ⟨gb165, 6, none⟩ = some (.slice none 0 0) := bc BK165 6; have hfz23_0 := zq6 BK165.out 0; have hfz23_1 := zq6 BK165.out 1; have hfz23_2 := zq6 BK165.out 2; have hfz23_3 := zq6 BK165.out 3; have hfz23_4 := zq6 BK165.out 4; have hfz23_5 := zq6 BK165.out 5; have hfz23_6 := zq6 BK165.out 6; have hcz24_0 : w21.cell? ⟨gb164, 0, none⟩ = some (.string (⟨#[]⟩ : ByteArray)) := bc BK164 0; have hcz24_1 : w21.cell? ⟨gb164, 1, none⟩ = some (.int .i64 0) := bc BK164 1; have hcz24_2 : w21.cell? ⟨gb164, 2, none⟩ = some (.int .i64 0) := bc BK164 2; have hcz24_3 : w21.cell? ⟨gb164, 3, none⟩ = some (.string (⟨#[]⟩ : ByteArray)) := bc BK164 3; have hcz24_4 : w21.cell? ⟨gb164, 4, none⟩ = some (.slice none 0 0) := bc BK164 4; have hcz24_5 : w21.cell? ⟨gb164, 5, none⟩ = some (.slice none 0 0) := bc BK164 5; have hcz24_6 : w21.cell? ⟨gb164, 6, none⟩ = some (.slice none 0 0) := bc BK164 6; have hfz24_0 := zq6 BK164.out 0; have hfz24_1 := zq6 BK164.out 1; have hfz24_2 := zq6 BK164.out 2; have hfz24_3 := zq6 BK164.out 3; have hfz24_4 := zq6 BK164.out 4; have hfz24_5 := zq6 BK164.out 5; have hfz24_6 := zq6 BK164.out 6))
  refine bodyPost_ret (results_cell_row rfl _ _ gb164 32 #[.string a0_0, .int .i64 a0_1, .int .i64 a0_2, .string a0_3, .slice Ao14 t166.length co14, .slice Ao18 t169.length co18, .slice Ao22 t172.length co22] (0, 0) _ rfl (by refine bp ?_; refine blk_put (cs := #[.string a0_0, .int .i64 a0_1, .int .i64 a0_2, .string a0_3, .slice Ao14 t166.length co14, .slice Ao18 t169.length co18, .slice none 0 0]) ?_ 6 _ rfl; refine bp ?_; refine blk_put (cs := #[.string a0_0, .int .i64 a0_1, .int .i64 a0_2, .string a0_3, .slice Ao14 t166.length co14, .slice none 0 0, .slice none 0 0]) ?_ 5 _ rfl; refine bp ?_; refine blk_put (cs := #[.string a0_0, .int .i64 a0_1, .int .i64 a0_2, .string a0_3, .slice none 0 0, .slice none 0 0, .slice none 0 0]) ?_ 4 _ rfl; refine bp ?_; refine blk_put (cs := #[.string a0_0, .int .i64 a0_1, .int .i64 a0_2, .string (⟨#[]⟩ : ByteArray), .slice none 0 0, .slice none 0 0, .slice none 0 0]) ?_ 3 _ rfl; refine bp ?_; refine blk_put (cs := #[.string a0_0, .int .i64 a0_1, .int .i64 0, .string (⟨#[]⟩ : ByteArray), .slice none 0 0, .slice none 0 0, .slice none 0 0]) ?_ 2 _ rfl; refine bp ?_; refine blk_put (cs := #[.string a0_0, .int .i64 0, .int .i64 0, .string (⟨#[]⟩ : ByteArray), .slice none 0 0, .slice none 0 0, .slice none 0 0]) ?_ 1 _ rfl; refine bp ?_; refine blk_put (cs := #[.string (⟨#[]⟩ : ByteArray), .int .i64 0, .int .i64 0, .string (⟨#[]⟩ : ByteArray), .slice none 0 0, .slice none 0 0, .slice none 0 0]) ?_ 0 _ rfl; refine bp ?_; refine blk_far ?_ NB164_165.out _; refine bp ?_; exact BK164.out) Try.underlying32 rfl (by kernel_rfl)) rfl ?_
  exact ⟨_, _, _, by first | rfl | (simp [errW_none, errW_some] <;> rfl) | (simp [*, errW_none, errW_some] <;> rfl), by (with_reducible repeat (first | apply zq10 | apply zq11 | apply zq12)); exact Kd.R_mono (Kd.R_far (p := ⟨gb164, 6, none⟩) (Kd.R_far (p := ⟨gb164, 5, none⟩) (Kd.R_far (p := ⟨gb164, 4, none⟩) (Kd.R_far (p := ⟨gb164, 3, none⟩) (Kd.R_far (p := ⟨gb164, 2, none⟩) (Kd.R_far (p := ⟨gb164, 1, none⟩) (Kd.R_far (p := ⟨gb164, 0, none⟩) (Kd.R_far (p := ⟨gb165, 6, none⟩) (Kd.R_types (Kd.R_types HO168.out BK165.out (by decide)) BK164.out (by decide)) (fun _ hk => hk.1.2) (.slice Ao22 t172.length co22)) (fun _ hk => hk.2) (.string a0_0)) (fun _ hk => hk.2) (.int .i64 a0_1)) (fun _ hk => hk.2) (.int .i64 a0_2)) (fun _ hk => hk.2) (.string a0_3)) (fun _ hk => hk.2) (.slice Ao14 t166.length co14)) (fun _ hk => hk.2) (.slice Ao18 t169.length co18)) (fun _ hk => hk.2) (.slice Ao22 t172.length co22)) (fun _ hk => trivial), by (with_reducible repeat (first | apply zq10 | apply zq11 | apply zq12)); exact Kd.R_mono (Kd.R_far (p := ⟨gb164, 6, none⟩) (Kd.R_far (p := ⟨gb164, 5, none⟩) (Kd.R_far (p := ⟨gb164, 4, none⟩) (Kd.R_far (p := ⟨gb164, 3, none⟩) (Kd.R_far (p := ⟨gb164, 2, none⟩) (Kd.R_far (p := ⟨gb164, 1, none⟩) (Kd.R_far (p := ⟨gb164, 0, none⟩) (Kd.R_far (p := ⟨gb165, 6, none⟩) (Kd.R_types (Kd.R_types HO171.out BK165.out (by decide)) BK164.out (by decide)) (fun _ hk => hk.1.2) (.slice Ao22 t172.length co22)) (fun _ hk => hk.2) (.string a0_0)) (fun _ hk => hk.2) (.int .i64 a0_1)) (fun _ hk => hk.2) (.int .i64 a0_2)) (fun _ hk => hk.2) (.string a0_3)) (fun _ hk => hk.2) (.slice Ao14 t166.length co14)) (fun _ hk => hk.2) (.slice Ao18 t169.length co18)) (fun _ hk => hk.2) (.slice Ao22 t172.length co22)) (fun _ hk => trivial), by (with_reducible repeat (first | apply zq10 | apply zq11 | apply zq12)); exact Kd.R_mono (Kd.R_far (p := ⟨gb164, 6, none⟩) (Kd.R_far (p := ⟨gb164, 5, none⟩) (Kd.R_far (p := ⟨gb164, 4, none⟩) (Kd.R_far (p := ⟨gb164, 3, none⟩) (Kd.R_far (p := ⟨gb164, 2, none⟩) (Kd.R_far (p := ⟨gb164, 1, none⟩) (Kd.R_far (p := ⟨gb164, 0, none⟩) (Kd.R_far (p := ⟨gb165, 6, none⟩) (Kd.R_types (Kd.R_types HO174.out BK165.out (by decide)) BK164.out (by decide)) (fun _ hk => hk.1.2) (.slice Ao22 t172.length co22)) (fun _ hk => hk.2) (.string a0_0)) (fun _ hk => hk.2) (.int .i64 a0_1)) (fun _ hk => hk.2) (.int .i64 a0_2)) (fun _ hk => hk.2) (.string a0_3)) (fun _ hk => hk.2) (.slice Ao14 t166.length co14)) (fun _ hk => hk.2) (.slice Ao18 t169.length co18)) (fun _ hk => hk.2) (.slice Ao22 t172.length co22)) (fun _ hk => trivial), by exact b3 HB GE163 GE164 GE165⟩
set_option maxHeartbeats 8000000 in
set_option maxRecDepth 100000 in
theorem laws_toEntryS.calls (k : Nat) (A0 : Option Addr) (c0 : Nat) (l0 : List (S26)) (r : List (S32)) (w : World) (hr0 : Kd.C k26 w A0 l0.length l0) (hc0 : l0.length ≤ c0) (h : laws_toEntryS.f k l0 = some r) :
  Calls Try.prog 59 #[.slice A0 l0.length c0] w fun e w' => ∃ v0_ : Value, e = .returned (v0_) ∧ Kd.S k32 32 w' w.heap.size (fun _ => True) v0_ r ∧ Below w.heap.size w w' := by
 have hu26 := Try.underlying26
 have hu32 := Try.underlying32
 have HR0 := zq9 hr0
 have HC0 := zq9 hc0
 clear hr0 hc0
 have HB := zq9 (Below.refl w.heap.size w)
 have H : (if 0 ≤ (l0.length : Int) then (if ((l0.length : Int) : Int).toNat ≤ 2345624805922 then (laws_toEntryS.l0 k l0 (List.replicate ((l0.length : Int) : Int).toNat z32) 0) else (none)) else (none)) = some r := h
 clear h
 by_cases c2 : 0 ≤ (l0.length : Int)
 ·rw [if_pos c2] at H
  have c2b0 := eq_true c2
  have c2b1 : decide (0 ≤ (l0.length : Int)) = true := decide_eq_true c2
  clear c2
  by_cases c3 : ((l0.length : Int) : Int).toNat ≤ 2345624805922
  ·rw [if_pos c3] at H
   have c3b0 := eq_true c3
   have c3b1 : decide (((l0.length : Int) : Int).toNat ≤ 2345624805922) = true := decide_eq_true c3
   clear c3
   obtain ⟨y652, hy652⟩ : ∃ y_ : List (S32), y_ = (List.replicate ((l0.length : Int) : Int).toNat z32) := ⟨_, rfl⟩
   replace H : (laws_toEntryS.l0 k l0 y652 0) = some r := by first | (rw [hy652]; with_reducible exact H) | (have H2_ := (Option.bind_some _ _).symm.trans H; rw [hy652]; with_reducible exact H2_) | (have H2_ := (Option.bind_some _ _).symm.trans H; with_reducible exact H2_) | with_reducible exact H | (rw [hy652]; exact H) | exact H
   have Ny652 := zq9 hy652
   clear hy652
   have H' := zq9 H
   clear H
   go_enter Try.func59, Try.ntmps59
   go_wp2_with (first | ((with_reducible refine zq25 (N := 7) rfl ?_); refine Kd.S_make k32 _ 32 rfl (N := 7) rfl 44 _ _ rfl (l0.length : Int) rfl rfl Try.underlying44 (.agg #[(.string ⟨#[]⟩), (.int .i64 0), (.int .i64 0), (.string ⟨#[]⟩), (.slice none 0 0), (.slice none 0 0), (.slice none 0 0)]) 120 info32 rfl (by decide) (by omega) z32 (ok := fun _ => True) (okp := fun _ => True) (k32_mkM _ _ _ z32 (Kd.R_nil _ _ _ _ _) (Kd.R_nil _ _ _ _ _) (Kd.R_nil _ _ _ _ _)) (fun _ hk => hk) trivial (of_decide_eq_true ‹_›) (Nat.le_trans (Nat.mul_le_mul_right _ (of_decide_eq_true ‹_› : (l0.length : Int).toNat ≤ 2345624805922)) (by omega)) (Below.refl _ _) (Nat.le_refl _) ?_; intro v653 w4 ho5 hb hg_ hnew_; clear hg_ hnew_; (first | rw [← Ny652.out] at ho5 | (simp only [Int.reduceToNat] at ho5; rw [← Ny652.out] at ho5)); have n0_ := zq9 (Kd.S_lower ho5 (zq29 (by exact bl HB))); have n1_ := zq9 (zq27 (by exact bl HB) hb); clear HB; have HO654 := n0_; have HB := n1_; clear n0_ n1_; clear hb ho5))
   go_loopg [4] k (fun kq v4 w' => ∃ (x3_1 : List (S32)) (x4_1 : Int), v4 = .int .i64 x4_1 ∧ Aside0 (laws_toEntryS.l0 kq l0 x3_1 x4_1 = some r) ∧ Aside0 (kq ≤ k) ∧ Aside0 (Kd.S k32 32 w' w.heap.size (fun _ => True) v653 x3_1) ∧ Aside0 (Below w.heap.size w w'))
   case atStart => exact ⟨(y652), (0), (by first | rfl | (simp; done) | (simp [*]; done)), H', ⟨Nat.le_refl _⟩, ⟨by (with_reducible repeat (first | apply Kd.S_alloc | apply Kd.S_drewN | apply Kd.S_drew)); exact HO654.out⟩, ⟨by exact bl HB⟩⟩
   case round =>
    clear H'
    try clear c2
    try clear c2b0
    try clear c2b1
    try clear p2
    try clear c3
    try clear c3b0
    try clear c3b1
    try clear c5
    obtain ⟨x3_1, x4_1, rfl, HA, HK1, HO_3, HB⟩ := hrel
    cases gk with
    | zero => exact absurd HA.out (by simp [laws_toEntryS.l0])
    | succ k1 =>
     have H := HA.out
     clear HA
     simp only [laws_toEntryS.l0] at H
     by_cases c6 : x4_1 < (l0.length : Int)
     ·rw [if_pos c6] at H
      have c6b0 : decide (x4_1 < (l0.length : Int)) = true := decide_eq_true c6
      clear c6
      by_cases c7 : 0 ≤ x4_1
      ·rw [if_pos c7] at H
       have c7b0 : decide (0 ≤ x4_1) = true := decide_eq_true c7
       clear c7
       replace H := Option.bind_eq_some_iff.mp H
       obtain ⟨⟨t656, t657, t658, t659, t660, t663, t666⟩, A80, H⟩ := H
       try dsimp only at H
       have A8 := zq9 A80
       clear A80
       by_cases c9 : x4_1 < (x3_1.length : Int)
       ·rw [if_pos c9] at H
        have c9b0 : decide (x4_1 < (x3_1.length : Int)) = true := decide_eq_true c9
        clear c9
        obtain ⟨y669, hy669⟩ : ∃ y_ : List (S32), y_ = (x3_1.set (x4_1 : Int).toNat (⟨t656, t657, t658, t659, t660, t663, t666⟩ : S32)) := ⟨_, rfl⟩
        replace H : (laws_toEntryS.l0 k1 l0 y669 (wrap64 (x4_1 + 1))) = some r := by first | (rw [hy669]; with_reducible exact H) | (have H2_ := (Option.bind_some _ _).symm.trans H; rw [hy669]; with_reducible exact H2_) | (have H2_ := (Option.bind_some _ _).symm.trans H; with_reducible exact H2_) | with_reducible exact H | (rw [hy669]; exact H) | exact H
        have Ny669 := zq9 hy669
        clear hy669
        have H' := zq9 H
        clear H
        have p655 : 0 ≤ (x4_1 : Int) := of_decide_eq_true ‹_›
        have q655 : x4_1 < (l0.length : Int) := of_decide_eq_true ‹_›
        obtain ⟨ad655, A655_4, c655_4, A655_5, c655_5, A655_6, c655_6, e655, hx655_0, hx655_1, hx655_2, hx655_3, hx655_4, hx655_5, hx655_6, hl655_4, hi655_4, hl655_5, hi655_5, hl655_6, hi655_6⟩ := at_T26 HR0.out x4_1 p655 q655
        cases e655
        replace hx655_0 := (HB.out.cell (zq8 w _ hx655_0)).trans hx655_0
        replace hx655_1 := (HB.out.cell (zq8 w _ hx655_1)).trans hx655_1
        replace hx655_2 := (HB.out.cell (zq8 w _ hx655_2)).trans hx655_2
        replace hx655_3 := (HB.out.cell (zq8 w _ hx655_3)).trans hx655_3
        replace hx655_4 := (HB.out.cell (zq8 w _ hx655_4)).trans hx655_4
        replace hx655_5 := (HB.out.cell (zq8 w _ hx655_5)).trans hx655_5
        replace hx655_6 := (HB.out.cell (zq8 w _ hx655_6)).trans hx655_6
        have HR655_4 := zq9 hi655_4
        have HC655_4 := zq9 hl655_4
        clear hi655_4 hl655_4
        have HR655_5 := zq9 hi655_5
        have HC655_5 := zq9 hl655_5
        clear hi655_5 hl655_5
        have HR655_6 := zq9 hi655_6
        have HC655_6 := zq9 hl655_6
        clear hi655_6 hl655_6
        replace p655 := eq_true p655
        replace q655 := eq_true q655
        go_wp2_with (first | ((with_reducible refine zq24 (f := 12) rfl ?_); refine gl (some 20) Try.func12 #[.agg #[.string ((rd_T26 l0 x4_1).f0), .int .i64 ((rd_T26 l0 x4_1).f1), .int .i64 ((rd_T26 l0 x4_1).f2), .string ((rd_T26 l0 x4_1).f3), .slice A655_4 ((rd_T26 l0 x4_1).f4).length c655_4, .slice A655_5 ((rd_T26 l0 x4_1).f5).length c655_5, .slice A655_6 ((rd_T26 l0 x4_1).f6).length c655_6]] ?_; (with_reducible refine (laws_toEntry.calls k1 ((rd_T26 l0 x4_1).f0) ((rd_T26 l0 x4_1).f1) ((rd_T26 l0 x4_1).f2) ((rd_T26 l0 x4_1).f3) _ _ ((rd_T26 l0 x4_1).f4) _ _ ((rd_T26 l0 x4_1).f5) _ _ ((rd_T26 l0 x4_1).f6) t656 t657 t658 t659 t660 t663 t666 _ ?side1 ?side2 ?side3 ?side4 ?side5 ?side6 A8.out).mono ?_); (case side1 => exact kc HR655_4 HB); (case side2 => exact HC655_4.out); (case side3 => exact kc HR655_5 HB); (case side4 => exact HC655_5.out); (case side5 => exact kc HR655_6 HB); (case side6 => exact HC655_6.out); rintro e w11 ⟨v661, v664, v667, rfl, ho0, ho1, ho2, hb⟩; refine ⟨_, rfl, ?_⟩; have n0_ := zq9 (Kd.S_mono (Kd.S_told (Kd.S_told (Kd.S_told (Kd.S_old (by (with_reducible repeat (first | apply Kd.S_alloc | apply Kd.S_drewN | apply Kd.S_drew)); exact HO_3.out) hb) (Kd.R_base ho0)) (Kd.R_base ho1)) (Kd.R_base ho2)) (fun _ h_ => h_.1)); have n1_ := zq9 (Kd.R_lower ho0 (zq29 (by exact bl HB))); have n2_ := zq9 (Kd.R_lower ho1 (zq29 (by exact bl HB))); have n3_ := zq9 (Kd.R_lower ho2 (zq29 (by exact bl HB))); have n4_ := zq9 (zq27 (by exact bl HB) hb); clear HO_3; clear HB; have HO_3 := n0_; have HO662 := n1_; have HO665 := n2_; have HO668 := n3_; have HB := n4_; clear n0_ n1_ n2_ n3_ n4_; (try clear hb); (try clear hb2); (try clear hk); (try clear hi); (try clear ho0); (try clear ho1); (try clear ho2); have p10 : 0 ≤ (x4_1 : Int) := of_decide_eq_true ‹_›; have q10 : (x4_1 : Int) < ((x3_1.length : Int) : Int) := of_decide_eq_true ‹_›; obtain ⟨go10, co10, eo10, gb10, gl10, cl10, HG10⟩ := Kd.S_form HO_3.out (by omega); (first | cases eo10 | (injection eo10 with ea_ en_ ec_; (first | subst ea_ | (injection ea_ with ea_; subst ea_)); subst ec_; clear en_)); have GB10 := zq9 gb10; have GG10 := zq9 HG10; clear gb10 gl10 HG10; obtain ⟨_, ce10, hcl10, hM10, hcc10, hfr10, _, _⟩ := Kd.S_elem HO_3.out z32 (x4_1 : Int) p10 q10; obtain ⟨ve10_4, ve10_5, ve10_6, rfl, ge10_4, ge10_5, ge10_6⟩ := k32_openM hM10; have hx10_0 : w11.cell? ⟨go10, (x4_1 : Int).toNat * 7, none⟩ = some (.string ((rd_T32 x3_1 x4_1).f0)) := hcc10 0 _ rfl; have hx10_1 : w11.cell? ⟨go10, (x4_1 : Int).toNat * 7 + 1, none⟩ = some (.int .i64 ((rd_T32 x3_1 x4_1).f1)) := hcc10 1 _ rfl; have hx10_2 : w11.cell? ⟨go10, (x4_1 : Int).toNat * 7 + 2, none⟩ = some (.int .i64 ((rd_T32 x3_1 x4_1).f2)) := hcc10 2 _ rfl; have hx10_3 : w11.cell? ⟨go10, (x4_1 : Int).toNat * 7 + 3, none⟩ = some (.string ((rd_T32 x3_1 x4_1).f3)) := hcc10 3 _ rfl; have hx10_4 : w11.cell? ⟨go10, (x4_1 : Int).toNat * 7 + 4, none⟩ = some (ve10_4) := hcc10 4 _ rfl; have hx10_5 : w11.cell? ⟨go10, (x4_1 : Int).toNat * 7 + 5, none⟩ = some (ve10_5) := hcc10 5 _ rfl; have hx10_6 : w11.cell? ⟨go10, (x4_1 : Int).toNat * 7 + 6, none⟩ = some (ve10_6) := hcc10 6 _ rfl; have hf10_0 : w11.frozen? ⟨go10, (x4_1 : Int).toNat * 7, none⟩ = false := hfr10 0; have hf10_1 : w11.frozen? ⟨go10, (x4_1 : Int).toNat * 7 + 1, none⟩ = false := hfr10 1; have hf10_2 : w11.frozen? ⟨go10, (x4_1 : Int).toNat * 7 + 2, none⟩ = false := hfr10 2; have hf10_3 : w11.frozen? ⟨go10, (x4_1 : Int).toNat * 7 + 3, none⟩ = false := hfr10 3; have hf10_4 : w11.frozen? ⟨go10, (x4_1 : Int).toNat * 7 + 4, none⟩ = false := hfr10 4; have hf10_5 : w11.frozen? ⟨go10, (x4_1 : Int).toNat * 7 + 5, none⟩ = false := hfr10 5; have hf10_6 : w11.frozen? ⟨go10, (x4_1 : Int).toNat * 7 + 6, none⟩ = false := hfr10 6; clear hcl10 hcc10 hfr10 hM10; replace p10 := eq_true p10; replace q10 := eq_true q10; have n_ := zq9 (Kd.S_mono (ok' := (fun k_ => some k_ ≠ (v661 : Value).ownBlock ∧ some k_ ≠ (v664 : Value).ownBlock ∧ some k_ ≠ (v667 : Value).ownBlock)) HO_3.out (fun k_ hk => ⟨hk.1.1.2, ⟨hk.1.2, hk.2⟩⟩)); clear HO_3; have HO_3 := n_; clear n_; have HX12 := zq9 (show Kd.S k32 32 w11 w.heap.size (fun k_ => ((fun _ => True)) k_ ∧ ¬ ((fun k_ => some k_ = (v661 : Value).ownBlock ∨ some k_ = (v664 : Value).ownBlock ∨ some k_ = (v667 : Value).ownBlock)) k_) (.slice (some ⟨go10, 0, none⟩) x3_1.length co10) x3_1 from (by (with_reducible repeat (first | apply Kd.S_alloc | apply Kd.S_drewN | apply Kd.S_drew)); exact Kd.S_mono HO_3.out (fun k_ hk => ⟨trivial, fun e_ => e_.elim (fun h_ => hk.1 h_) (fun h_ => h_.elim (fun h_ => hk.2.1 h_) (fun h_ => hk.2.2 h_))⟩))); obtain ⟨oki12, ce12, hcl12, hM12, hcc12, hfr12, hoki12, hH12⟩ := Kd.S_elem HX12.out z32 (x4_1 : Int) (of_decide_eq_true ‹_›) (by have h_ : (x4_1 : Int) < ((x3_1.length : Int) : Int) := of_decide_eq_true ‹_›; first | exact h_ | (have e_ := (Kd.S_reads' HO_3.out).1; omega) | simpa using h_); obtain ⟨ve12_4, ve12_5, ve12_6, rfl, ge12_4, ge12_5, ge12_6⟩ := k32_openM hM12; have HP12 := Kd.S_seg hH12 (of_decide_eq_true ‹_›) (by have h_ : (x4_1 : Int) < ((x3_1.length : Int) : Int) := of_decide_eq_true ‹_›; first | exact h_ | (have e_ := (Kd.S_reads' HO_3.out).1; omega) | simpa using h_) (seg := [.string t656, .int .i64 t657, .int .i64 t658, .string t659, v661, v664, v667]) (j := 0) (show 7 ≤ 7 from by decide) (x' := (⟨t656, t657, t658, t659, t660, t663, t666⟩ : S32)) (k32_mkM _ _ _ (⟨t656, t657, t658, t659, t660, t663, t666⟩ : S32) (Kd.R_mono (Kd.R_tight rfl (Kd.R_mono (ok' := fun k_ => ((fun _ => True)) k_ ∧ k_ ≠ go10) (Kd.R_apart' (HO662.out) (Kd.S_typed HO_3.out) (by decide)) (fun k_ hk => ⟨trivial, fun e_ => (hk.2) (by rw [e_]; rfl)⟩))) (fun _ h_ => Or.inr (Or.inl h_))) (Kd.R_mono (Kd.R_tight rfl (Kd.R_mono (ok' := fun k_ => ((fun _ => True)) k_ ∧ k_ ≠ go10) (Kd.R_apart' (HO665.out) (Kd.S_typed HO_3.out) (by decide)) (fun k_ hk => ⟨trivial, fun e_ => (hk.2) (by rw [e_]; rfl)⟩))) (fun _ h_ => Or.inr (Or.inr (Or.inl h_)))) (Kd.R_mono (Kd.R_tight rfl (Kd.R_mono (ok' := fun k_ => ((fun _ => True)) k_ ∧ k_ ≠ go10) (Kd.R_apart' (HO668.out) (Kd.S_typed HO_3.out) (by decide)) (fun k_ hk => ⟨trivial, fun e_ => (hk.2) (by rw [e_]; rfl)⟩))) (fun _ h_ => Or.inr (Or.inr (Or.inr (h_)))))) (fun _ hk => hk) (fun k_ hk_ => hk_.elim (fun h_ => ((Kd.R_mono (ok' := fun k_ => ((fun _ => True)) k_ ∧ k_ ≠ go10) (Kd.R_apart' (HO662.out) (Kd.S_typed HO_3.out) (by decide)) (fun k_ hk => ⟨trivial, fun e_ => (hk.2) (by rw [e_]; rfl)⟩))).1 k_ h_.symm) (fun h_ => h_.elim (fun h_ => ((Kd.R_mono (ok' := fun k_ => ((fun _ => True)) k_ ∧ k_ ≠ go10) (Kd.R_apart' (HO665.out) (Kd.S_typed HO_3.out) (by decide)) (fun k_ hk => ⟨trivial, fun e_ => (hk.2) (by rw [e_]; rfl)⟩))).1 k_ h_.symm) (fun h_ => ((Kd.R_mono (ok' := fun k_ => ((fun _ => True)) k_ ∧ k_ ≠ go10) (Kd.R_apart' (HO668.out) (Kd.S_typed HO_3.out) (by decide)) (fun k_ hk => ⟨trivial, fun e_ => (hk.2) (by rw [e_]; rfl)⟩))).1 k_ h_.symm))); have hx12_0 := hcc12 0 _ rfl; (try simp only [show (k32).sz = 7 from rfl, Nat.mul_one, Nat.add_zero] at hx12_0); have hf12_0 := hfr12 0; (try simp only [show (k32).sz = 7 from rfl, Nat.mul_one, Nat.add_zero] at hf12_0); have hx12_1 := hcc12 1 _ rfl; (try simp only [show (k32).sz = 7 from rfl, Nat.mul_one, Nat.add_zero] at hx12_1); have hf12_1 := hfr12 1; (try simp only [show (k32).sz = 7 from rfl, Nat.mul_one, Nat.add_zero] at hf12_1); have hx12_2 := hcc12 2 _ rfl; (try simp only [show (k32).sz = 7 from rfl, Nat.mul_one, Nat.add_zero] at hx12_2); have hf12_2 := hfr12 2; (try simp only [show (k32).sz = 7 from rfl, Nat.mul_one, Nat.add_zero] at hf12_2); have hx12_3 := hcc12 3 _ rfl; (try simp only [show (k32).sz = 7 from rfl, Nat.mul_one, Nat.add_zero] at hx12_3); have hf12_3 := hfr12 3; (try simp only [show (k32).sz = 7 from rfl, Nat.mul_one, Nat.add_zero] at hf12_3); have hx12_4 := hcc12 4 _ rfl; (try simp only [show (k32).sz = 7 from rfl, Nat.mul_one, Nat.add_zero] at hx12_4); have hf12_4 := hfr12 4; (try simp only [show (k32).sz = 7 from rfl, Nat.mul_one, Nat.add_zero] at hf12_4); have hx12_5 := hcc12 5 _ rfl; (try simp only [show (k32).sz = 7 from rfl, Nat.mul_one, Nat.add_zero] at hx12_5); have hf12_5 := hfr12 5; (try simp only [show (k32).sz = 7 from rfl, Nat.mul_one, Nat.add_zero] at hf12_5); have hx12_6 := hcc12 6 _ rfl; (try simp only [show (k32).sz = 7 from rfl, Nat.mul_one, Nat.add_zero] at hx12_6); have hf12_6 := hfr12 6; (try simp only [show (k32).sz = 7 from rfl, Nat.mul_one, Nat.add_zero] at hf12_6); clear hcl12 hcc12 hfr12 hM12 hoki12 hH12) | (obtain ⟨Aq0, cq0, eq0⟩ := Kd.R_slice HO662.out; obtain ⟨Aq1, cq1, eq1⟩ := Kd.R_slice HO665.out; obtain ⟨Aq2, cq2, eq2⟩ := Kd.R_slice HO668.out; subst eq0; subst eq1; subst eq2; (with_reducible refine zq26 (t := 32) (p := 21) rfl ?_); refine store_event (t := 32) (p := 21) (v := ?vo_w13) (w1 := (((((((w11.setCell ⟨go10, (x4_1 : Int).toNat * 7, none⟩ (.string t656)).setCell ⟨go10, (x4_1 : Int).toNat * 7 + 1, none⟩ (.int .i64 t657)).setCell ⟨go10, (x4_1 : Int).toNat * 7 + 2, none⟩ (.int .i64 t658)).setCell ⟨go10, (x4_1 : Int).toNat * 7 + 3, none⟩ (.string t659)).setCell ⟨go10, (x4_1 : Int).toNat * 7 + 4, none⟩ (.slice Aq0 t660.length cq0)).setCell ⟨go10, (x4_1 : Int).toNat * 7 + 5, none⟩ (.slice Aq1 t663.length cq1)).setCell ⟨go10, (x4_1 : Int).toNat * 7 + 6, none⟩ (.slice Aq2 t666.length cq2))) ?hg ?ho ?hn ?hr ?_; (case ho => rfl); (case hg => rfl); (case hn => rfl); (case hr => first | (go_simp; done) | (go_simp; rfl)); intro w13 hw; have hg : w11.grownBy w13 (some go10) := (by rw [hw]; exact HP12.2); have hp_ : Kd.S k32 32 w13 w.heap.size (fun _ => True) (.slice (some ⟨go10, 0, none⟩) x3_1.length co10) y669 := (by rw [hw, Ny669.out]; exact HP12.1); clear HP12; have n0_ := zq9 (hp_); have n1_ := zq9 ((by rw [hw]; exact zq28 (zq28 (zq28 (zq28 (zq28 (zq28 (zq28 (HB.out) GB10.out) GB10.out) GB10.out) GB10.out) GB10.out) GB10.out) GB10.out : Below w.heap.size w w13)); clear HO_3; clear HB; clear HO662; clear HO665; clear HO668; have HO_3 := n0_; have HB := n1_; clear n0_ n1_; clear hg hw hp_))
        go_roundg k1
        case measure => have := HK1.out; omega
        case rel => exact ⟨(y669), (wrap64 (x4_1 + 1)), (by first | rfl | (simp; done) | (simp [*]; done)), H', ⟨by have := HK1.out; omega⟩, ⟨by (with_reducible repeat (first | apply Kd.S_alloc | apply Kd.S_drewN | apply Kd.S_drew)); exact HO_3.out⟩, ⟨by exact bl HB⟩⟩
       ·rw [if_neg c9] at H
        exact absurd H (by simp)
      ·rw [if_neg c7] at H
       exact absurd H (by simp)
     ·rw [if_neg c6] at H
      have c6b0 : decide (x4_1 < (l0.length : Int)) = false := decide_eq_false c6
      clear c6
      obtain rfl := Option.some.inj H
      go_wp2
      go_ret
      exact ⟨_, by first | rfl | (simp [errW_none, errW_some] <;> rfl) | (simp [*, errW_none, errW_some] <;> rfl), by (with_reducible repeat (first | apply Kd.S_alloc | apply Kd.S_drewN | apply Kd.S_drew)); exact HO_3.out, by exact bl HB⟩
  ·rw [if_neg c3] at H
   exact absurd H (by simp)
 ·rw [if_neg c2] at H
  exact absurd H (by simp)
set_option maxHeartbeats 8000000 in
set_option maxRecDepth 100000 in
theorem laws_toBase.calls (k : Nat) (a0_0 : Int) (A0_1 : Option Addr) (c0_1 : Nat) (l0_1 : List (S26)) (r1 : Int) (r2 : List (S32)) (w : World) (hr0_1 : Kd.C k26 w A0_1 l0_1.length l0_1) (hc0_1 : l0_1.length ≤ c0_1) (h : laws_toBase.f k a0_0 l0_1 = some (r1, r2)) :
    Calls Try.prog 18 #[.agg #[.int .i64 a0_0, .slice A0_1 l0_1.length c0_1]] w fun e w' => ∃ v1_ : Value, e = .returned (.agg #[.int .i64 r1, v1_]) ∧ Kd.S k32 32 w' w.heap.size (fun _ => True) v1_ r2 ∧ Below w.heap.size w w' := by
  have hu41 := Try.underlying41
  have hu46 := Try.underlying46
  have HR0_1 := zq9 hr0_1
  have HC0_1 := zq9 hc0_1
  clear hr0_1 hc0_1
  have HB := zq9 (Below.refl w.heap.size w)
  have H : ((laws_toEntryS.f k l0_1).bind fun t673 => (some (a0_0, t673))) = some (r1, r2) := h
  clear h
  replace H := Option.bind_eq_some_iff.mp H
  obtain ⟨t673, A20, H⟩ := H
  try dsimp only at H
  have A2 := zq9 A20
  clear A20
  simp only [Option.some.injEq, Prod.mk.injEq] at H
  obtain ⟨rfl, rfl⟩ := H
  go_enter Try.func18, Try.ntmps18
  go_wp2_with (first | ((with_reducible refine zq25 (N := 1) rfl ?_); refine bx 1 #[.int .i64 a0_0, .slice A0_1 l0_1.length c0_1] 41 ?_; intro gb670 hg w3 hbox hb; have n0_ := zq9 (zq27 (by exact bl HB) hb); have n1_ := zq9 (hbox); have n2_ := zq9 ((by rw [hg]; exact (zq29 (by exact bl HB)) : w.heap.size ≤ gb670)); have n3_ := n2_; clear HB; have HB := n0_; have BK670 := n1_; have GW670 := n2_; have GE670 := n3_; clear n0_ n1_ n2_ n3_; clear hb hbox hg) | ((with_reducible refine zq25 (N := 2) rfl ?_); refine bx 2 #[.int .i64 0, .slice none 0 0] 46 ?_; intro gb671 hg w4 hbox hb; have n0_ := zq9 (zq30 (g := gb670) (o := .cells #[.int .i64 a0_0, .slice A0_1 l0_1.length c0_1] 41 (0, 0)) (by exact bk BK670) hb); have n1_ := zq9 (zq27 (by exact b1 HB GE670) hb); have n2_ := zq9 (hbox); have n3_ := zq9 ((by rw [hg]; exact (zq29 (by exact b1 HB GE670)) : w.heap.size ≤ gb671)); have n4_ := n3_; have n5_ := zq9 ((by rw [hg]; exact Nat.ne_of_lt (blk_lt (g := gb670) (o := .cells #[.int .i64 a0_0, .slice A0_1 l0_1.length c0_1] 41 (0, 0)) (by exact bk BK670)) : gb670 ≠ gb671)); have n6_ := zq9 ((by rw [hg]; exact Nat.ne_of_gt (blk_lt (g := gb670) (o := .cells #[.int .i64 a0_0, .slice A0_1 l0_1.length c0_1] 41 (0, 0)) (by exact bk BK670)) : gb671 ≠ gb670)); clear BK670; clear HB; have BK670 := n0_; have HB := n1_; have BK671 := n2_; have GW671 := n3_; have GE671 := n4_; have NB670_671 := n5_; have NB671_670 := n6_; clear n0_ n1_ n2_ n3_ n4_ n5_ n6_; clear hb hbox hg) | ((with_reducible refine zq25 (N := 3) rfl ?_); refine bx 3 #[.int .i64 0, .slice none 0 0] 46 ?_; intro gb672 hg w5 hbox hb; have n0_ := zq9 (zq30 (g := gb670) (o := .cells #[.int .i64 a0_0, .slice A0_1 l0_1.length c0_1] 41 (0, 0)) (by exact bk BK670) hb); have n1_ := zq9 (zq30 (g := gb671) (o := .cells #[.int .i64 0, .slice none 0 0] 46 (0, 0)) (by exact bk BK671) hb); have n2_ := zq9 (zq27 (by exact b2 HB GE670 GE671) hb); have n3_ := zq9 (hbox); have n4_ := zq9 ((by rw [hg]; exact (zq29 (by exact b2 HB GE670 GE671)) : w.heap.size ≤ gb672)); have n5_ := n4_; have n6_ := zq9 ((by rw [hg]; exact Nat.ne_of_lt (blk_lt (g := gb670) (o := .cells #[.int .i64 a0_0, .slice A0_1 l0_1.length c0_1] 41 (0, 0)) (by exact bk BK670)) : gb670 ≠ gb672)); have n7_ := zq9 ((by rw [hg]; exact Nat.ne_of_gt (blk_lt (g := gb670) (o := .cells #[.int .i64 a0_0, .slice A0_1 l0_1.length c0_1] 41 (0, 0)) (by exact bk BK670)) : gb672 ≠ gb670)); have n8_ := zq9 ((by rw [hg]; exact Nat.ne_of_lt (blk_lt (g := gb671) (o := .cells #[.int .i64 0, .slice none 0 0] 46 (0, 0)) (by exact bk BK671)) : gb671 ≠ gb672)); have n9_ := zq9 ((by rw [hg]; exact Nat.ne_of_gt (blk_lt (g := gb671) (o := .cells #[.int .i64 0, .slice none 0 0] 46 (0, 0)) (by exact bk BK671)) : gb672 ≠ gb671)); clear BK670; clear BK671; clear HB; have BK670 := n0_; have BK671 := n1_; have HB := n2_; have BK672 := n3_; have GW672 := n4_; have GE672 := n5_; have NB670_672 := n6_; have NB672_670 := n7_; have NB671_672 := n8_; have NB672_671 := n9_; clear n0_ n1_ n2_ n3_ n4_ n5_ n6_ n7_ n8_ n9_; clear hb hbox hg; have hnb6 := NB670_671.out; have hnc6 := NB671_670.out; have hnb7 := NB670_672.out; have hnc7 := NB672_670.out; have hcz8_0 : w5.cell? ⟨gb670, 0, none⟩ = some (.int .i64 a0_0) := bc BK670 0; have hcz8_1 : w5.cell? ⟨gb670, 1, none⟩ = some (.slice A0_1 l0_1.length c0_1) := bc BK670 1; have hfz8_0 := zq6 BK670.out 0; have hfz8_1 := zq6 BK670.out 1; have hnb9 := NB672_671.out; have hnc9 := NB671_672.out; have hcz10_0 : w5.cell? ⟨gb672, 0, none⟩ = some (.int .i64 0) := bc BK672 0; have hcz10_1 : w5.cell? ⟨gb672, 1, none⟩ = some (.slice none 0 0) := bc BK672 1; have hfz10_0 := zq6 BK672.out 0; have hfz10_1 := zq6 BK672.out 1) | ((with_reducible refine zq24 (f := 59) rfl ?_); refine gl (some 9) Try.func59 #[.slice A0_1 l0_1.length c0_1] ?_; (with_reducible refine (laws_toEntryS.calls k _ _ l0_1 t673 _ ?side1 ?side2 A2.out).mono ?_); (case side1 => exact zq31 HR0_1.out (by exact b3 HB GE670 GE671 GE672)); (case side2 => exact HC0_1.out); rintro e w11 ⟨v674, rfl, ho0, hb⟩; refine ⟨_, rfl, ?_⟩; have n0_ := zq9 (Kd.S_lower ho0 (zq29 (by exact b3 HB GE670 GE671 GE672))); have n1_ := zq9 (zq30 (g := gb670) (o := .cells #[.int .i64 a0_0, .slice A0_1 l0_1.length c0_1] 41 (0, 0)) (by refine bp ?_; refine blk_far ?_ NB670_672.out _; refine bp ?_; exact BK670.out) hb); have n2_ := zq9 (zq30 (g := gb671) (o := .cells #[.int .i64 0, .slice none 0 0] 46 (0, 0)) (by refine bp ?_; refine blk_far ?_ NB671_672.out _; refine bp ?_; exact BK671.out) hb); have n3_ := zq9 (zq30 (g := gb672) (o := .cells #[.int .i64 a0_0, .slice none 0 0] 46 (0, 0)) (by refine bp ?_; refine blk_put (cs := #[.int .i64 0, .slice none 0 0]) ?_ 0 _ rfl; refine bp ?_; exact BK672.out) hb); have n4_ := zq9 (zq27 (by exact b3 HB GE670 GE671 GE672) hb); clear BK670; clear BK671; clear BK672; clear HB; have HO675 := n0_; have BK670 := n1_; have BK671 := n2_; have BK672 := n3_; have HB := n4_; clear n0_ n1_ n2_ n3_ n4_; (try clear hb); (try clear hb2); (try clear hk); (try clear hi); (try clear ho0); obtain ⟨Ao12, co12, eo12⟩ := Kd.S_slice HO675.out; subst eo12; have hcz13_0 : w11.cell? ⟨gb672, 0, none⟩ = some (.int .i64 a0_0) := bc BK672 0; have hcz13_1 : w11.cell? ⟨gb672, 1, none⟩ = some (.slice none 0 0) := bc BK672 1; have hfz13_0 := zq6 BK672.out 0; have hfz13_1 := zq6 BK672.out 1; have hcz14_0 : w11.cell? ⟨gb671, 0, none⟩ = some (.int .i64 0) := bc BK671 0; have hcz14_1 : w11.cell? ⟨gb671, 1, none⟩ = some (.slice none 0 0) := bc BK671 1; have hfz14_0 := zq6 BK671.out 0; have hfz14_1 := zq6 BK671.out 1))
  refine bodyPost_ret (results_cell_row rfl _ _ gb671 46 #[.int .i64 a0_0, .slice Ao12 t673.length co12] (0, 0) _ rfl (by refine bp ?_; refine blk_put (cs := #[.int .i64 a0_0, .slice none 0 0]) ?_ 1 _ rfl; refine bp ?_; refine blk_put (cs := #[.int .i64 0, .slice none 0 0]) ?_ 0 _ rfl; refine bp ?_; refine blk_far ?_ NB671_672.out _; refine bp ?_; exact BK671.out) Try.underlying46 rfl (by kernel_rfl)) rfl ?_
  exact ⟨_, by first | rfl | (simp [errW_none, errW_some] <;> rfl) | (simp [*, errW_none, errW_some] <;> rfl), by (with_reducible repeat (first | apply Kd.S_alloc | apply Kd.S_drewN | apply Kd.S_drew)); exact Kd.S_mono (Kd.S_far (p := ⟨gb671, 1, none⟩) (Kd.S_far (p := ⟨gb671, 0, none⟩) (Kd.S_far (p := ⟨gb672, 1, none⟩) (Kd.S_types (Kd.S_types HO675.out BK672.out (by decide)) BK671.out (by decide)) (fun _ hk => hk.1.2) (.slice Ao12 t673.length co12)) (fun _ hk => hk.2) (.int .i64 a0_0)) (fun _ hk => hk.2) (.slice Ao12 t673.length co12)) (fun _ hk => trivial), by exact b3 HB GE670 GE671 GE672⟩
set_option maxHeartbeats 8000000 in
set_option maxRecDepth 100000 in
theorem impl_within.calls (a0 : Int) (a1 : Int) (a2 : Int) (r : Bool) (w : World) (h : impl_within.f a0 a1 a2 = some r) :
    Calls Try.prog 49 #[.int .i64 a0, .int .i64 a1, .int .i64 a2] w fun e w' => e = .returned (.bool r) ∧ Drawn0 w w' := by
  have H : (if a0 ≥ a1 then (some (decide (a0 ≤ a2))) else (some false)) = some r := h
  clear h
  by_cases c4 : a0 ≥ a1
  · rw [if_pos c4] at H
    have c4b0 : decide (a1 ≤ a0) = true := decide_eq_true c4
    clear c4
    obtain rfl := Option.some.inj H
    go_enter Try.func49, Try.ntmps49
    go_wp2
    go_ret
    exact ⟨by first | rfl | (simp; done) | (simp [*]; done), by repeat (first | exact Drawn0.refl _ | apply Drawn0.step)⟩
  · rw [if_neg c4] at H
    have c4b0 : decide (a1 ≤ a0) = false := decide_eq_false c4
    clear c4
    obtain rfl := Option.some.inj H
    go_enter Try.func49, Try.ntmps49
    go_wp2
    go_ret
    exact ⟨by first | rfl | (simp; done) | (simp [*]; done), by repeat (first | exact Drawn0.refl _ | apply Drawn0.step)⟩
set_option maxHeartbeats 8000000 in
set_option maxRecDepth 100000 in
theorem impl_keyOk.calls (a0 : ByteArray) (r : Bool) (w : World) (h : impl_keyOk.f a0 = some r) :
    Calls Try.prog 48 #[.string a0] w fun e w' => e = .returned (.bool r) ∧ Drawn0 w w' := by
  have H : ((impl_within.f (a0.size : Int) 1 12).bind fun t175 => (some t175)) = some r := h
  clear h
  replace H := Option.bind_eq_some_iff.mp H
  obtain ⟨t175, A20, H⟩ := H
  try dsimp only at H
  have A2 := zq9 A20
  clear A20
  obtain rfl := Option.some.inj H
  go_enter Try.func48, Try.ntmps48
  go_wp2_with (first | ((with_reducible refine zq24 (f := 49) rfl ?_); refine gl (some 5) Try.func49 #[.int .i64 (a0.size : Int), .int .i64 1, .int .i64 12] ?_; (with_reducible refine (impl_within.calls (a0.size : Int) 1 12 t175 _ A2.out).mono ?_); rintro e w' ⟨rfl, ⟨nd, rfl⟩⟩; refine ⟨_, rfl, ?_⟩))
  go_ret
  exact ⟨by first | rfl | (simp; done) | (simp [*]; done), by repeat (first | exact Drawn0.refl _ | apply Drawn0.step)⟩
set_option maxHeartbeats 8000000 in
set_option maxRecDepth 100000 in
theorem impl_textsOk.calls (k : Nat) (A0 : Option Addr) (c0 : Nat) (l0 : List ByteArray) (a1 : Int) (r : Bool) (w : World) (hr0 : Kd.C Kd.string w A0 l0.length l0) (hc0 : l0.length ≤ c0) (h : impl_textsOk.f k l0 a1 = some r) :
  Calls Try.prog 84 #[.slice A0 l0.length c0, .int .i64 a1] w fun e w' => e = .returned (.bool r) ∧ Drawn0 w w' := by
 have HR0 := zq9 hr0
 have HC0 := zq9 hc0
 clear hr0 hc0
 have H : (impl_textsOk.l0 k l0 a1 l0 (l0.length : Int) 0) = some r := h
 clear h
 have H' := zq9 H
 clear H
 go_enter Try.func84, Try.ntmps84
 go_wp2
 go_loopg [9] k (fun kq v9 w' => ∃ (x9_1 : Int), v9 = .int .i64 x9_1 ∧ Aside0 (impl_textsOk.l0 kq l0 a1 l0 (l0.length : Int) x9_1 = some r) ∧ Aside0 (kq ≤ k) ∧ Drawn0 w w')
 case atStart => exact ⟨(0), (by first | rfl | (simp; done) | (simp [*]; done)), H', ⟨Nat.le_refl _⟩, by repeat (first | exact Drawn0.refl _ | apply Drawn0.step)⟩
 case round =>
  clear H'
  try clear p2
  obtain ⟨x9_1, rfl, HA, HK1, ⟨m1, rfl⟩⟩ := hrel
  cases gk with
  | zero => exact absurd HA.out (by simp [impl_textsOk.l0])
  | succ k1 =>
   have H := HA.out
   clear HA
   simp only [impl_textsOk.l0] at H
   by_cases c3 : x9_1 < (l0.length : Int)
   ·rw [if_pos c3] at H
    have c3b0 : decide (x9_1 < (l0.length : Int)) = true := decide_eq_true c3
    clear c3
    by_cases c4 : 0 ≤ x9_1
    ·rw [if_pos c4] at H
     have c4b0 : decide (0 ≤ x9_1) = true := decide_eq_true c4
     clear c4
     by_cases c5 : x9_1 < (l0.length : Int)
     ·rw [if_pos c5] at H
      have c5b0 : decide (x9_1 < (l0.length : Int)) = true := decide_eq_true c5
      clear c5
      by_cases c6 : ((rdOf ByteArray.empty l0 x9_1).size : Int) > 40
      ·rw [if_pos c6] at H
       have c6b0 : decide (40 < ((rdOf ByteArray.empty l0 x9_1).size : Int)) = true := decide_eq_true c6
       have c6b1 : decide (40 < (rdOf ByteArray.empty l0 x9_1).size) = true := decide_eq_true (by omega)
       clear c6
       obtain rfl := Option.some.inj H
       have p176 : 0 ≤ (x9_1 : Int) := of_decide_eq_true ‹_›
       have q176 : x9_1 < (l0.length : Int) := of_decide_eq_true ‹_›
       obtain ⟨ad176, e176, hx176_0⟩ := Kd.at_string HR0.out x9_1 p176 q176
       cases e176
       replace p176 := eq_true p176
       replace q176 := eq_true q176
       go_wp2
       go_ret
       exact ⟨by first | rfl | (simp; done) | (simp [*]; done), by repeat (first | exact Drawn0.refl _ | apply Drawn0.step)⟩
      ·rw [if_neg c6] at H
       have c6b0 : decide (40 < ((rdOf ByteArray.empty l0 x9_1).size : Int)) = false := decide_eq_false c6
       have c6b1 : decide (40 < (rdOf ByteArray.empty l0 x9_1).size) = false := decide_eq_false (by omega)
       clear c6
       have H' := zq9 H
       clear H
       have p176 : 0 ≤ (x9_1 : Int) := of_decide_eq_true ‹_›
       have q176 : x9_1 < (l0.length : Int) := of_decide_eq_true ‹_›
       obtain ⟨ad176, e176, hx176_0⟩ := Kd.at_string HR0.out x9_1 p176 q176
       cases e176
       replace p176 := eq_true p176
       replace q176 := eq_true q176
       go_wp2
       go_roundg k1
       case measure => have := HK1.out; omega
       case rel => exact ⟨(wrap64 (x9_1 + 1)), (by first | rfl | (simp; done) | (simp [*]; done)), H', ⟨by have := HK1.out; omega⟩, by repeat (first | exact Drawn0.refl _ | apply Drawn0.step)⟩
     ·rw [if_neg c5] at H
      exact absurd H (by simp)
    ·rw [if_neg c4] at H
     exact absurd H (by simp)
   ·rw [if_neg c3] at H
    have c3b0 : decide (x9_1 < (l0.length : Int)) = false := decide_eq_false c3
    clear c3
    obtain rfl := Option.some.inj H
    go_wp2
    go_ret
    exact ⟨by first | rfl | (simp; done) | (simp [*]; done), by repeat (first | exact Drawn0.refl _ | apply Drawn0.step)⟩
set_option maxHeartbeats 8000000 in
set_option maxRecDepth 100000 in
theorem impl_listOk.calls (k : Nat) (A0 : Option Addr) (c0 : Nat) (l0 : List ByteArray) (r : Bool) (w : World) (hr0 : Kd.C Kd.string w A0 l0.length l0) (hc0 : l0.length ≤ c0) (h : impl_listOk.f k l0 = some r) :
    Calls Try.prog 50 #[.slice A0 l0.length c0] w fun e w' => e = .returned (.bool r) ∧ Drawn0 w w' := by
  have HR0 := zq9 hr0
  have HC0 := zq9 hc0
  clear hr0 hc0
  have H : ((impl_textsOk.f k l0 16).bind fun t177 => (some t177)) = some r := h
  clear h
  replace H := Option.bind_eq_some_iff.mp H
  obtain ⟨t177, A20, H⟩ := H
  try dsimp only at H
  have A2 := zq9 A20
  clear A20
  obtain rfl := Option.some.inj H
  go_enter Try.func50, Try.ntmps50
  go_wp2_with (first | ((with_reducible refine zq24 (f := 84) rfl ?_); refine gl (some 4) Try.func84 #[.slice A0 l0.length c0, .int .i64 16] ?_; (with_reducible refine (impl_textsOk.calls k _ _ l0 16 t177 _ ?side1 ?side2 A2.out).mono ?_); (case side1 => repeat (first | exact HR0.out | (with_reducible refine zq18 ?_ _) | (with_reducible refine zq19 ?_ _) | (with_reducible refine zq20 ?_))); (case side2 => exact HC0.out); rintro e w' ⟨rfl, ⟨nd, rfl⟩⟩; refine ⟨_, rfl, ?_⟩))
  go_ret
  exact ⟨by first | rfl | (simp; done) | (simp [*]; done), by repeat (first | exact Drawn0.refl _ | apply Drawn0.step)⟩
set_option maxHeartbeats 8000000 in
set_option maxRecDepth 100000 in
theorem impl_SetOk.calls (k : Nat) (A0 : Option Addr) (c0 : Nat) (l0 : List ByteArray) (r : Bool) (w : World) (hr0 : Kd.C Kd.string w A0 l0.length l0) (hc0 : l0.length ≤ c0) (h : impl_SetOk.f k l0 = some r) :
  Calls Try.prog 51 #[.slice A0 l0.length c0] w fun e w' => e = .returned (.bool r) ∧ Drawn0 w w' := by
 have HR0 := zq9 hr0
 have HC0 := zq9 hc0
 clear hr0 hc0
 have H : (impl_SetOk.l0 k l0 1) = some r := h
 clear h
 have H' := zq9 H
 clear H
 go_enter Try.func51, Try.ntmps51
 go_wp2
 repeat (go_quiet (fail); try go_wp2)
 go_loopg [3] k (fun kq v3 w' => ∃ (x3_1 : Int), v3 = .int .i64 x3_1 ∧ Aside0 (impl_SetOk.l0 kq l0 x3_1 = some r) ∧ Aside0 (kq ≤ k) ∧ Drawn0 w w')
 case atStart => exact ⟨(1), (by first | rfl | (simp; done) | (simp [*]; done)), H', ⟨Nat.le_refl _⟩, by repeat (first | exact Drawn0.refl _ | apply Drawn0.step)⟩
 case round =>
  clear H'
  obtain ⟨x3_1, rfl, HA, HK1, ⟨m1, rfl⟩⟩ := hrel
  cases gk with
  | zero => exact absurd HA.out (by simp [impl_SetOk.l0])
  | succ k1 =>
   have H := HA.out
   clear HA
   simp only [impl_SetOk.l0] at H
   by_cases c2 : x3_1 < (l0.length : Int)
   ·rw [if_pos c2] at H
    have c2b0 : decide (x3_1 < (l0.length : Int)) = true := decide_eq_true c2
    clear c2
    obtain ⟨ji3, hji3⟩ : ∃ j_ : Int, (wrap64 (x3_1 - 1)) = j_ := ⟨_, rfl⟩
    replace H : (if 0 ≤ (ji3) then (if (ji3) < (l0.length : Int) then (if 0 ≤ x3_1 then (if ((Op.bytesLess ((rdOf ByteArray.empty l0 (ji3)).toList) ((rdOf ByteArray.empty l0 x3_1).toList)) = true) then (impl_SetOk.l0 k1 l0 (wrap64 (x3_1 + 1))) else (some false)) else (none)) else (none)) else (none)) = some r := by first | (rw [hji3] at H; exact H) | (simp only [hji3] at H ⊢; exact H)
    have hji3w : (IntKind.i64.wrap (x3_1 - 1)) = ji3 := (i64_w _).trans hji3
    by_cases c4 : 0 ≤ (ji3)
    ·rw [if_pos c4] at H
     have c4b0 : decide (0 ≤ (ji3)) = true := decide_eq_true c4
     clear c4
     by_cases c5 : (ji3) < (l0.length : Int)
     ·rw [if_pos c5] at H
      have c5b0 : decide ((ji3) < (l0.length : Int)) = true := decide_eq_true c5
      clear c5
      by_cases c6 : 0 ≤ x3_1
      ·rw [if_pos c6] at H
       have c6b0 : decide (0 ≤ x3_1) = true := decide_eq_true c6
       clear c6
       have p178 : 0 ≤ ((ji3) : Int) := of_decide_eq_true ‹_›
       have q178 : (ji3) < (l0.length : Int) := of_decide_eq_true ‹_›
       obtain ⟨ad178, e178, hx178_0⟩ := Kd.at_string HR0.out (ji3) p178 q178
       cases e178
       replace p178 := eq_true p178
       replace q178 := eq_true q178
       have p179 : 0 ≤ (x3_1 : Int) := of_decide_eq_true ‹_›
       have q179 : x3_1 < (l0.length : Int) := of_decide_eq_true ‹_›
       obtain ⟨ad179, e179, hx179_0⟩ := Kd.at_string HR0.out x3_1 p179 q179
       obtain rfl : ad178 = ad179 := (by injection e179)
       replace p179 := eq_true p179
       replace q179 := eq_true q179
       go_wp2
       by_cases c7 : ((Op.bytesLess ((rdOf ByteArray.empty l0 (ji3)).toList) ((rdOf ByteArray.empty l0 x3_1).toList)) = true)
       ·rw [if_pos c7] at H
        have c7b0 : (Op.bytesLess ((rdOf ByteArray.empty l0 (ji3)).toList) ((rdOf ByteArray.empty l0 x3_1).toList)) = true := c7
        clear c7
        have H' := zq9 H
        clear H
        repeat (go_quiet (fail); try go_wp2)
        go_roundg k1
        case measure => have := HK1.out; omega
        case rel => exact ⟨(wrap64 (x3_1 + 1)), (by first | rfl | (simp; done) | (simp [*]; done)), H', ⟨by have := HK1.out; omega⟩, by repeat (first | exact Drawn0.refl _ | apply Drawn0.step)⟩
       ·rw [if_neg c7] at H
        have c7b0 : (Op.bytesLess ((rdOf ByteArray.empty l0 (ji3)).toList) ((rdOf ByteArray.empty l0 x3_1).toList)) = false := by simpa using c7
        clear c7
        obtain rfl := Option.some.inj H
        repeat (go_quiet (fail); try go_wp2)
        go_ret
        exact ⟨by first | rfl | (simp; done) | (simp only [← hji3] <;> (first | rfl | simp)) | (simp [*]; done), by repeat (first | exact Drawn0.refl _ | apply Drawn0.step)⟩
      ·rw [if_neg c6] at H
       exact absurd H (by simp)
     ·rw [if_neg c5] at H
      exact absurd H (by simp)
    ·rw [if_neg c4] at H
     exact absurd H (by simp)
   ·rw [if_neg c2] at H
    have c2b0 : decide (x3_1 < (l0.length : Int)) = false := decide_eq_false c2
    clear c2
    replace H := Option.bind_eq_some_iff.mp H
    obtain ⟨t180, A80, H⟩ := H
    try dsimp only at H
    have A8 := zq9 A80
    clear A80
    obtain rfl := Option.some.inj H
    go_wp2_with (first | (go_at_call 50; (with_reducible refine (impl_listOk.calls k1 _ _ l0 t180 _ ?side1 ?side2 A8.out).mono ?_); (case side1 => repeat (first | exact HR0.out | (with_reducible refine zq18 ?_ _) | (with_reducible refine zq19 ?_ _) | (with_reducible refine zq20 ?_))); (case side2 => exact HC0.out); rintro e w' ⟨rfl, ⟨nd, rfl⟩⟩; (try first | exact ⟨rfl, _, zq32 _ _ _⟩ | exact ⟨rfl, _, Eq.trans (zq32 _ _ _) (congrArg (World.drewN _) (Nat.add_assoc _ _ _))⟩)))
    repeat (go_quiet (first | (go_at_call 50; (with_reducible refine (impl_listOk.calls k1 _ _ l0 t180 _ ?side1 ?side2 A8.out).mono ?_); (case side1 => repeat (first | exact HR0.out | (with_reducible refine zq18 ?_ _) | (with_reducible refine zq19 ?_ _) | (with_reducible refine zq20 ?_))); (case side2 => exact HC0.out); rintro e w' ⟨rfl, ⟨nd, rfl⟩⟩; (try first | exact ⟨rfl, _, zq32 _ _ _⟩ | exact ⟨rfl, _, Eq.trans (zq32 _ _ _) (congrArg (World.drewN _) (Nat.add_assoc _ _ _))⟩))); try go_wp2_with (first | (go_at_call 50; (with_reducible refine (impl_listOk.calls k1 _ _ l0 t180 _ ?side1 ?side2 A8.out).mono ?_); (case side1 => repeat (first | exact HR0.out | (with_reducible refine zq18 ?_ _) | (with_reducible refine zq19 ?_ _) | (with_reducible refine zq20 ?_))); (case side2 => exact HC0.out); rintro e w' ⟨rfl, ⟨nd, rfl⟩⟩; (try first | exact ⟨rfl, _, zq32 _ _ _⟩ | exact ⟨rfl, _, Eq.trans (zq32 _ _ _) (congrArg (World.drewN _) (Nat.add_assoc _ _ _))⟩))))
    go_ret
    exact ⟨by first | rfl | (simp; done) | (simp [*]; done), by repeat (first | exact Drawn0.refl _ | apply Drawn0.step)⟩
set_option maxHeartbeats 8000000 in
set_option maxRecDepth 100000 in
theorem impl_position.calls (a0 : Int) (r : Bool) (w : World) (h : impl_position.f a0 = some r) :
    Calls Try.prog 85 #[.int .i64 a0] w fun e w' => e = .returned (.bool r) ∧ Drawn0 w w' := by
  have H : ((impl_within.f a0 (-1000000000) 1000000000).bind fun t181 => (some t181)) = some r := h
  clear h
  replace H := Option.bind_eq_some_iff.mp H
  obtain ⟨t181, A20, H⟩ := H
  try dsimp only at H
  have A2 := zq9 A20
  clear A20
  obtain rfl := Option.some.inj H
  go_enter Try.func85, Try.ntmps85
  go_wp2_with (first | ((with_reducible refine zq24 (f := 49) rfl ?_); refine gl (some 4) Try.func49 #[.int .i64 a0, .int .i64 (-1000000000), .int .i64 1000000000] ?_; (with_reducible refine (impl_within.calls a0 (-1000000000) 1000000000 t181 _ A2.out).mono ?_); rintro e w' ⟨rfl, ⟨nd, rfl⟩⟩; refine ⟨_, rfl, ?_⟩))
  go_ret
  exact ⟨by first | rfl | (simp; done) | (simp [*]; done), by repeat (first | exact Drawn0.refl _ | apply Drawn0.step)⟩
set_option maxHeartbeats 8000000 in
set_option maxRecDepth 100000 in
theorem cmp_Or_int.calls (k : Nat) (A0 : Option Addr) (c0 : Nat) (l0 : List Int) (r : Int) (w : World) (hr0 : Kd.C (Kd.int .i64) w A0 l0.length l0) (hc0 : l0.length ≤ c0) (h : cmp_Or_int.f k l0 = some r) :
  Calls Try.prog 104 #[.slice A0 l0.length c0] w fun e w' => e = .returned (.int .i64 r) ∧ Drawn0 w w' := by
 have HR0 := zq9 hr0
 have HC0 := zq9 hc0
 clear hr0 hc0
 have H : (cmp_Or_int.l0 k 0 l0 (l0.length : Int) 0) = some r := h
 clear h
 have H' := zq9 H
 clear H
 go_enter Try.func104, Try.ntmps104
 go_wp2
 go_loopg [8] k (fun kq v8 w' => ∃ (x8_1 : Int), v8 = .int .i64 x8_1 ∧ Aside0 (cmp_Or_int.l0 kq 0 l0 (l0.length : Int) x8_1 = some r) ∧ Aside0 (kq ≤ k) ∧ Drawn0 w w')
 case atStart => exact ⟨(0), (by first | rfl | (simp; done) | (simp [*]; done)), H', ⟨Nat.le_refl _⟩, by repeat (first | exact Drawn0.refl _ | apply Drawn0.step)⟩
 case round =>
  clear H'
  try clear c1
  obtain ⟨x8_1, rfl, HA, HK1, ⟨m1, rfl⟩⟩ := hrel
  cases gk with
  | zero => exact absurd HA.out (by simp [cmp_Or_int.l0])
  | succ k1 =>
   have H := HA.out
   clear HA
   simp only [cmp_Or_int.l0] at H
   by_cases c2 : x8_1 < (l0.length : Int)
   ·rw [if_pos c2] at H
    have c2b0 : decide (x8_1 < (l0.length : Int)) = true := decide_eq_true c2
    clear c2
    by_cases c3 : 0 ≤ x8_1
    ·rw [if_pos c3] at H
     have c3b0 : decide (0 ≤ x8_1) = true := decide_eq_true c3
     clear c3
     by_cases c4 : x8_1 < (l0.length : Int)
     ·rw [if_pos c4] at H
      have c4b0 : decide (x8_1 < (l0.length : Int)) = true := decide_eq_true c4
      clear c4
      by_cases c5 : (rd l0 x8_1) = 0
      ·rw [if_pos c5] at H
       have c5b0 : ((rd l0 x8_1) == 0) = true := beq_iff_eq.mpr c5
       have c5b1 : ((rd l0 x8_1) != 0) = false := bne_eq_false_iff_eq.mpr c5
       clear c5
       have H' := zq9 H
       clear H
       have p182 : 0 ≤ (x8_1 : Int) := of_decide_eq_true ‹_›
       have q182 : x8_1 < (l0.length : Int) := of_decide_eq_true ‹_›
       obtain ⟨ad182, e182, hx182_0⟩ := Kd.at_int HR0.out x8_1 p182 q182
       cases e182
       replace p182 := eq_true p182
       replace q182 := eq_true q182
       go_wp2
       go_roundg k1
       case measure => have := HK1.out; omega
       case rel => exact ⟨(wrap64 (x8_1 + 1)), (by first | rfl | (simp; done) | (simp [*]; done)), H', ⟨by have := HK1.out; omega⟩, by repeat (first | exact Drawn0.refl _ | apply Drawn0.step)⟩
      ·rw [if_neg c5] at H
       have c5b0 : ((rd l0 x8_1) == 0) = false := beq_eq_false_iff_ne.mpr c5
       have c5b1 : ((rd l0 x8_1) != 0) = true := bne_iff_ne.mpr c5
       obtain rfl := Option.some.inj H
       have p182 : 0 ≤ (x8_1 : Int) := of_decide_eq_true ‹_›
       have q182 : x8_1 < (l0.length : Int) := of_decide_eq_true ‹_›
       obtain ⟨ad182, e182, hx182_0⟩ := Kd.at_int HR0.out x8_1 p182 q182
       cases e182
       replace p182 := eq_true p182
       replace q182 := eq_true q182
       go_wp2
       go_ret
       exact ⟨by first | rfl | (simp; done) | (simp [*]; done), by repeat (first | exact Drawn0.refl _ | apply Drawn0.step)⟩
     ·rw [if_neg c4] at H
      exact absurd H (by simp)
    ·rw [if_neg c3] at H
     exact absurd H (by simp)
   ·rw [if_neg c2] at H
    have c2b0 : decide (x8_1 < (l0.length : Int)) = false := decide_eq_false c2
    clear c2
    obtain rfl := Option.some.inj H
    go_wp2
    go_ret
    exact ⟨by first | rfl | (simp; done) | (simp [*]; done), by repeat (first | exact Drawn0.refl _ | apply Drawn0.step)⟩
set_option maxHeartbeats 8000000 in
set_option maxRecDepth 100000 in
theorem cmp_isNaN_int.calls (a0 : Int) (r : Bool) (w : World) (h : cmp_isNaN_int.f a0 = some r) :
    Calls Try.prog 117 #[.int .i64 a0] w fun e w' => e = .returned (.bool r) ∧ Drawn0 w w' := by
  have H : (some (a0 != a0)) = some r := h
  clear h
  obtain rfl := Option.some.inj H
  go_enter Try.func117, Try.ntmps117
  go_wp2
  go_ret
  exact ⟨by first | rfl | (simp; done) | (simp [*]; done), by repeat (first | exact Drawn0.refl _ | apply Drawn0.step)⟩
set_option maxHeartbeats 8000000 in
set_option maxRecDepth 100000 in
theorem cmp_Compare_int.calls (a0 : Int) (a1 : Int) (r : Int) (w : World) (h : cmp_Compare_int.f a0 a1 = some r) :
    Calls Try.prog 105 #[.int .i64 a0, .int .i64 a1] w fun e w' => e = .returned (.int .i64 r) ∧ Drawn0 w w' := by
  have H : ((cmp_isNaN_int.f a0).bind fun t183 => ((cmp_isNaN_int.f a1).bind fun t184 => (if t183 = true then (if t184 = true then (some 0) else (some (-1))) else (if t184 = true then (some 1) else (if a0 < a1 then (some (-1)) else (if a0 > a1 then (some 1) else (some 0))))))) = some r := h
  clear h
  replace H := Option.bind_eq_some_iff.mp H
  obtain ⟨t183, A30, H⟩ := H
  try dsimp only at H
  have A3 := zq9 A30
  clear A30
  replace H := Option.bind_eq_some_iff.mp H
  obtain ⟨t184, A40, H⟩ := H
  try dsimp only at H
  have A4 := zq9 A40
  clear A40
  go_enter Try.func105, Try.ntmps105
  by_cases c5 : t183 = true
  · subst c5
    have H1 : (if t184 = true then (some 0) else (some (-1))) = some r := by rw [if_pos rfl] at H; exact H
    clear H
    have H := H1
    clear H1
    by_cases c6 : t184 = true
    · subst c6
      have H1 : (some 0) = some r := by rw [if_pos rfl] at H; exact H
      clear H
      have H := H1
      clear H1
      obtain rfl := Option.some.inj H
      go_wp2_with (first | ((with_reducible refine zq24 (f := 117) rfl ?_); refine gl (some 8) Try.func117 #[.int .i64 a0] ?_; (with_reducible refine (cmp_isNaN_int.calls a0 true _ A3.out).mono ?_); rintro e w' ⟨rfl, ⟨nd, rfl⟩⟩; refine ⟨_, rfl, ?_⟩) | ((with_reducible refine zq24 (f := 117) rfl ?_); refine gl (some 10) Try.func117 #[.int .i64 a1] ?_; (with_reducible refine (cmp_isNaN_int.calls a1 true _ A4.out).mono ?_); rintro e w' ⟨rfl, ⟨nd, rfl⟩⟩; refine ⟨_, rfl, ?_⟩))
      go_ret
      exact ⟨by first | rfl | (simp; done) | (simp [*]; done), by repeat (first | exact Drawn0.refl _ | apply Drawn0.step)⟩
    · replace c6 := Bool.eq_false_iff.mpr c6
      subst c6
      have H1 : (some (-1)) = some r := by rw [if_neg (show ¬ (false = true) by decide)] at H; exact H
      clear H
      have H := H1
      clear H1
      obtain rfl := Option.some.inj H
      go_wp2_with (first | ((with_reducible refine zq24 (f := 117) rfl ?_); refine gl (some 8) Try.func117 #[.int .i64 a0] ?_; (with_reducible refine (cmp_isNaN_int.calls a0 true _ A3.out).mono ?_); rintro e w' ⟨rfl, ⟨nd, rfl⟩⟩; refine ⟨_, rfl, ?_⟩) | ((with_reducible refine zq24 (f := 117) rfl ?_); refine gl (some 10) Try.func117 #[.int .i64 a1] ?_; (with_reducible refine (cmp_isNaN_int.calls a1 false _ A4.out).mono ?_); rintro e w' ⟨rfl, ⟨nd, rfl⟩⟩; refine ⟨_, rfl, ?_⟩))
      go_ret
      exact ⟨by first | rfl | (simp; done) | (simp [*]; done), by repeat (first | exact Drawn0.refl _ | apply Drawn0.step)⟩
  · replace c5 := Bool.eq_false_iff.mpr c5
    subst c5
    have H1 : (if t184 = true then (some 1) else (if a0 < a1 then (some (-1)) else (if a0 > a1 then (some 1) else (some 0)))) = some r := by rw [if_neg (show ¬ (false = true) by decide)] at H; exact H
    clear H
    have H := H1
    clear H1
    by_cases c7 : t184 = true
    · subst c7
      have H1 : (some 1) = some r := by rw [if_pos rfl] at H; exact H
      clear H
      have H := H1
      clear H1
      obtain rfl := Option.some.inj H
      go_wp2_with (first | ((with_reducible refine zq24 (f := 117) rfl ?_); refine gl (some 8) Try.func117 #[.int .i64 a0] ?_; (with_reducible refine (cmp_isNaN_int.calls a0 false _ A3.out).mono ?_); rintro e w' ⟨rfl, ⟨nd, rfl⟩⟩; refine ⟨_, rfl, ?_⟩) | ((with_reducible refine zq24 (f := 117) rfl ?_); refine gl (some 10) Try.func117 #[.int .i64 a1] ?_; (with_reducible refine (cmp_isNaN_int.calls a1 true _ A4.out).mono ?_); rintro e w' ⟨rfl, ⟨nd, rfl⟩⟩; refine ⟨_, rfl, ?_⟩))
      go_ret
      exact ⟨by first | rfl | (simp; done) | (simp [*]; done), by repeat (first | exact Drawn0.refl _ | apply Drawn0.step)⟩
    · replace c7 := Bool.eq_false_iff.mpr c7
      subst c7
      have H1 : (if a0 < a1 then (some (-1)) else (if a0 > a1 then (some 1) else (some 0))) = some r := by rw [if_neg (show ¬ (false = true) by decide)] at H; exact H
      clear H
      have H := H1
      clear H1
      by_cases c8 : a0 < a1
      · rw [if_pos c8] at H
        have c8b0 : decide (a0 < a1) = true := decide_eq_true c8
        clear c8
        obtain rfl := Option.some.inj H
        go_wp2_with (first | ((with_reducible refine zq24 (f := 117) rfl ?_); refine gl (some 8) Try.func117 #[.int .i64 a0] ?_; (with_reducible refine (cmp_isNaN_int.calls a0 false _ A3.out).mono ?_); rintro e w' ⟨rfl, ⟨nd, rfl⟩⟩; refine ⟨_, rfl, ?_⟩) | ((with_reducible refine zq24 (f := 117) rfl ?_); refine gl (some 10) Try.func117 #[.int .i64 a1] ?_; (with_reducible refine (cmp_isNaN_int.calls a1 false _ A4.out).mono ?_); rintro e w' ⟨rfl, ⟨nd, rfl⟩⟩; refine ⟨_, rfl, ?_⟩))
        go_ret
        exact ⟨by first | rfl | (simp; done) | (simp [*]; done), by repeat (first | exact Drawn0.refl _ | apply Drawn0.step)⟩
      · rw [if_neg c8] at H
        have c8b0 : decide (a0 < a1) = false := decide_eq_false c8
        clear c8
        by_cases c9 : a0 > a1
        · rw [if_pos c9] at H
          have c9b0 : decide (a1 < a0) = true := decide_eq_true c9
          clear c9
          obtain rfl := Option.some.inj H
          go_wp2_with (first | ((with_reducible refine zq24 (f := 117) rfl ?_); refine gl (some 8) Try.func117 #[.int .i64 a0] ?_; (with_reducible refine (cmp_isNaN_int.calls a0 false _ A3.out).mono ?_); rintro e w' ⟨rfl, ⟨nd, rfl⟩⟩; refine ⟨_, rfl, ?_⟩) | ((with_reducible refine zq24 (f := 117) rfl ?_); refine gl (some 10) Try.func117 #[.int .i64 a1] ?_; (with_reducible refine (cmp_isNaN_int.calls a1 false _ A4.out).mono ?_); rintro e w' ⟨rfl, ⟨nd, rfl⟩⟩; refine ⟨_, rfl, ?_⟩))
          go_ret
          exact ⟨by first | rfl | (simp; done) | (simp [*]; done), by repeat (first | exact Drawn0.refl _ | apply Drawn0.step)⟩
        · rw [if_neg c9] at H
          have c9b0 : decide (a1 < a0) = false := decide_eq_false c9
          clear c9
          obtain rfl := Option.some.inj H
          go_wp2_with (first | ((with_reducible refine zq24 (f := 117) rfl ?_); refine gl (some 8) Try.func117 #[.int .i64 a0] ?_; (with_reducible refine (cmp_isNaN_int.calls a0 false _ A3.out).mono ?_); rintro e w' ⟨rfl, ⟨nd, rfl⟩⟩; refine ⟨_, rfl, ?_⟩) | ((with_reducible refine zq24 (f := 117) rfl ?_); refine gl (some 10) Try.func117 #[.int .i64 a1] ?_; (with_reducible refine (cmp_isNaN_int.calls a1 false _ A4.out).mono ?_); rintro e w' ⟨rfl, ⟨nd, rfl⟩⟩; refine ⟨_, rfl, ?_⟩))
          go_ret
          exact ⟨by first | rfl | (simp; done) | (simp [*]; done), by repeat (first | exact Drawn0.refl _ | apply Drawn0.step)⟩
set_option maxHeartbeats 8000000 in
set_option maxRecDepth 100000 in
theorem cmp_isNaN_string.calls (a0 : ByteArray) (r : Bool) (w : World) (h : cmp_isNaN_string.f a0 = some r) :
    Calls Try.prog 118 #[.string a0] w fun e w' => e = .returned (.bool r) ∧ Drawn0 w w' := by
  have H : (some (a0.toList != a0.toList)) = some r := h
  clear h
  obtain rfl := Option.some.inj H
  go_enter Try.func118, Try.ntmps118
  go_wp2
  go_ret
  exact ⟨by first | rfl | (simp; done) | (simp [*]; done), by repeat (first | exact Drawn0.refl _ | apply Drawn0.step)⟩
end Go.Proofs.Ytnkgmcgbbldkgaa.P
