import Derived.Test.YtnkgmcgbbldkgaaPrFnExactBaseKeys3
/- Texts of this claim, one behind the other: words on worlds and rows, printed functions and their walks, plain lemmas. -/
namespace Go.Proofs.Ytnkgmcgbbldkgaa.P
open Go.RowKit Go.Proofs.YtnkgmcgbbldkgaaW.PrintWords Go.Proofs.YtnkgmcgbbldkgaaW.PrintLast Go.Proofs.YtnkgmcgbbldkgaaW.PrintMore
attribute [local go_sem] max2_int min2_int max_two min_two max_three min_three max_four min_four   -- for this text's walks alone
set_option linter.unusedVariables false
set_option linter.unusedSimpArgs false
def spec_BaseOk.T5 : Bool × List (List Nat × List Nat) := (true, [([], []), ([0], [0]), ([1], [1]), ([2, 1], [2]), ([3], [3]), ([4, 3], [3, 4]), ([5, 3], [3, 5]), ([6, 3, 3], [3, 6]), ([7], [7]), ([8, 7], [7, 8]), ([7], [7]), ([10, 7], [7, 10]), ([9, 11, 7], [7, 9, 11]), ([7, 12, 3], [3, 7, 12]), ([3, 13], [3, 13]), ([14, 7], [14]), ([15], [15]), ([16, 15], [15, 16]), ([17, 15, 15], [15, 17]), ([18], [18]), ([19, 18], [18, 19]), ([18], [18]), ([21, 18], [18, 21]), ([20, 22, 18], [18, 20, 22]), ([23, 18], [18, 23]), ([24, 18], [18, 24]), ([18], [18]), ([26, 18], [18, 26]), ([25, 27, 18], [18, 25, 27]), ([18, 28, 15], [15, 18, 28]), ([15, 29], [15, 29])])
def spec_BaseOk.B5 : List Nat := [0, 1, 3, 7, 15, 31, 63, 127, 255, 511, 255, 1279, 4095, 8191, 16383, 32767, 65535, 131071, 262143, 524287, 1048575, 524287, 2621439, 8388607, 16777215, 33554431, 524287, 67633151, 268435455, 536870911, 1073741823]
theorem spec_BaseOk.tab5 : rtab .any (opsOf Try.f17 5) = spec_BaseOk.T5 := by kernel_rfl
theorem spec_BaseOk.bits5 : waitsOk spec_BaseOk.T5.2 spec_BaseOk.B5 = true := by kernel_rfl
set_option maxHeartbeats 8000000 in
set_option maxRecDepth 100000 in
theorem spec_BaseOk.calls (k : Nat) (a0_0 : Int) (A0_1 : Option Addr) (c0_1 : Nat) (l0_1 : List (S32)) (r : Bool) (w : World) (hr0_1 : Kd.C k32 w A0_1 l0_1.length l0_1) (hc0_1 : l0_1.length ≤ c0_1) (h : spec_BaseOk.f k a0_0 l0_1 = some r) :
  Calls Try.prog 17 #[.agg #[.int .i64 a0_0, .slice A0_1 l0_1.length c0_1]] w fun e w' => e = .returned (.bool r) ∧ Below w.heap.size w w' := by
 have hu46 := Try.underlying46; have hu32 := Try.underlying32; have HR0_1 := zq9 hr0_1; have HC0_1 := zq9 hc0_1; clear hr0_1 hc0_1
 have HB := zq9 (Below.refl w.heap.size w)
 have H : (spec_BaseOk.l0 k 0 a0_0 l0_1) = some r := h
 clear h; have H' := zq9 H; clear H
 go_enter Try.func17, Try.ntmps17
 go_wp2_with (first | ((with_reducible refine zq25 (N := 1) rfl ?_); (try (refine gate_guard (by rfl) ?_; dsimp only)); refine bx 1 #[.int .i64 a0_0, .slice A0_1 l0_1.length c0_1] 46 ?_; intro gb645 hg w2 hbox hb; have n0_ := zq9 (zq27 (by exact bl HB) hb); have n1_ := zq9 (hbox); have n2_ := zq9 ((by rw [hg]; exact (zq29 (by exact bl HB)) : w.heap.size ≤ gb645)); have n3_ := n2_; clear HB; have HB := n0_; have BK645 := n1_; have GW645 := n2_; have GE645 := n3_; clear n0_ n1_ n2_ n3_; clear hb hbox hg))
 go_loopg [3] k (fun kq v3 w' => ∃ (x3_1 : Int), v3 = .int .i64 x3_1 ∧ Aside0 (spec_BaseOk.l0 kq x3_1 a0_0 l0_1 = some r) ∧ Aside0 (kq ≤ k) ∧ Aside0 (w'.heap[gb645]? = some (.cells #[.int .i64 a0_0, (.slice A0_1 l0_1.length c0_1)] 46 (0, 0))) ∧ Aside0 (Below w.heap.size w w'))
 case atStart => exact ⟨(0), (by first | rfl | (simp; done) | (simp [*]; done)), H', ⟨Nat.le_refl _⟩, ⟨by refine bp ?_; exact BK645.out⟩, ⟨by exact b1 HB GE645⟩⟩
 case round =>
  clear H'
  try clear c1
  try clear p2
  obtain ⟨x3_1, rfl, HA, HK1, BK645, HB⟩ := hrel
  cases gk with
  | zero => exact absurd HA.out (by simp [spec_BaseOk.l0])
  | succ k1 =>
   have H := HA.out; clear HA
   simp only [spec_BaseOk.l0] at H
   refine (Classical.em (x3_1 < (l0_1.length : Int))).elim (fun c3 => ?p0) (fun c3 => ?n0)
   case p0 =>
    rw [if_pos c3] at H; have c3b0 : decide (x3_1 < (l0_1.length : Int)) = true := decide_eq_true c3; clear c3
    by_cases c4 : 0 ≤ x3_1
    ·rw [if_pos c4] at H; have c4b0 : decide (0 ≤ x3_1) = true := decide_eq_true c4; clear c4; have HC5 := zq9 H; clear H
     have hcz6_0 : wr.cell? ⟨gb645, 0, none⟩ = some (.int .i64 a0_0) := bc BK645 0
     have hcz6_1 : wr.cell? ⟨gb645, 1, none⟩ = some (.slice A0_1 l0_1.length c0_1) := bc BK645 1
     have hfz6_0 := zq6 BK645.out 0
     have hfz6_1 := zq6 BK645.out 1
     have p647 : 0 ≤ (x3_1 : Int) := of_decide_eq_true ‹_›
     have q647 : x3_1 < (l0_1.length : Int) := of_decide_eq_true ‹_›
     obtain ⟨ad647, A647_4, c647_4, A647_5, c647_5, A647_6, c647_6, e647, hx647_0, hx647_1, hx647_2, hx647_3, hx647_4, hx647_5, hx647_6, hl647_4, hi647_4, hl647_5, hi647_5, hl647_6, hi647_6⟩ := at_T32 HR0_1.out x3_1 p647 q647
     cases e647; replace hx647_0 := hcl HB hx647_0; replace hx647_1 := hcl HB hx647_1; replace hx647_2 := hcl HB hx647_2; replace hx647_3 := hcl HB hx647_3; replace hx647_4 := hcl HB hx647_4; replace hx647_5 := hcl HB hx647_5; replace hx647_6 := hcl HB hx647_6; have HR647_4 := zq9 hi647_4; have HC647_4 := zq9 hl647_4; clear hi647_4 hl647_4; have HR647_5 := zq9 hi647_5; have HC647_5 := zq9 hl647_5; clear hi647_5 hl647_5
     have HR647_6 := zq9 hi647_6; have HC647_6 := zq9 hl647_6; clear hi647_6 hl647_6; replace p647 := eq_true p647; replace q647 := eq_true q647
     go_upto_region 5 with (first | ((with_reducible refine zq25 (N := 4) rfl ?_); (try (refine gate_guard (by rfl) ?_; dsimp only)); refine bx 4 #[.string (⟨#[]⟩ : ByteArray), .int .i64 0, .int .i64 0, .string (⟨#[]⟩ : ByteArray), .slice none 0 0, .slice none 0 0, .slice none 0 0] 32 ?_; intro gb648 hg w7 hbox hb; have n0_ := zq9 (zq30 (g := gb645) (o := .cells #[.int .i64 a0_0, .slice (some ad647) l0_1.length c0_1] 46 (0, 0)) (by exact bk BK645) hb); have n1_ := zq9 (zq27 (by exact b1 HB GE645) hb); have n2_ := zq9 (hbox); have n3_ := zq9 ((by rw [hg]; exact (zq29 (by exact b1 HB GE645)) : w.heap.size ≤ gb648)); have n4_ := n3_; have n5_ := zq9 ((by rw [hg]; exact Nat.ne_of_lt (blk_lt (g := gb645) (o := .cells #[.int .i64 a0_0, .slice (some ad647) l0_1.length c0_1] 46 (0, 0)) (by exact bk BK645)) : gb645 ≠ gb648)); have n6_ := zq9 ((by rw [hg]; exact Nat.ne_of_gt (blk_lt (g := gb645) (o := .cells #[.int .i64 a0_0, .slice (some ad647) l0_1.length c0_1] 46 (0, 0)) (by exact bk BK645)) : gb648 ≠ gb645)); clear BK645; clear HB; have BK645 := n0_; have HB := n1_; have BK648 := n2_; have GW648 := n3_; have GE648 := n4_; have NB645_648 := n5_; have NB648_645 := n6_; clear n0_ n1_ n2_ n3_ n4_ n5_ n6_; clear hb hbox hg; have hnb8 := NB648_645.out; have hnc8 := NB645_648.out; have hcz9_0 : w7.cell? ⟨gb648, 0, none⟩ = some (.string (⟨#[]⟩ : ByteArray)) := bc BK648 0; have hcz9_1 : w7.cell? ⟨gb648, 1, none⟩ = some (.int .i64 0) := bc BK648 1; have hcz9_2 : w7.cell? ⟨gb648, 2, none⟩ = some (.int .i64 0) := bc BK648 2; have hcz9_3 : w7.cell? ⟨gb648, 3, none⟩ = some (.string (⟨#[]⟩ : ByteArray)) := bc BK648 3; have hcz9_4 : w7.cell? ⟨gb648, 4, none⟩ = some (.slice none 0 0) := bc BK648 4; have hcz9_5 : w7.cell? ⟨gb648, 5, none⟩ = some (.slice none 0 0) := bc BK648 5; have hcz9_6 : w7.cell? ⟨gb648, 6, none⟩ = some (.slice none 0 0) := bc BK648 6; have hfz9_0 := zq6 BK648.out 0; have hfz9_1 := zq6 BK648.out 1; have hfz9_2 := zq6 BK648.out 2; have hfz9_3 := zq6 BK648.out 3; have hfz9_4 := zq6 BK648.out 4; have hfz9_5 := zq6 BK648.out 5; have hfz9_6 := zq6 BK648.out 6))
     (try simp only [Act.put, zq0, zq1, zq2])
     go_cut [47] (fun v47 wc => ∃ (kq : Nat) (x47_4 : Bool), v47 = .bool x47_4 ∧ Aside0 (spec_BaseOk.j1 kq x3_1 x47_4 a0_0 l0_1 = some r) ∧ Aside0 (kq ≤ k1) ∧ Aside0 (wc.heap[gb645]? = some (.cells #[.int .i64 a0_0, (.slice (some ad647) l0_1.length c0_1)] 46 (0, 0))) ∧ Aside0 (wc.heap[gb648]? = some (.cells #[.string ((rd_T32 l0_1 x3_1).f0), .int .i64 ((rd_T32 l0_1 x3_1).f1), .int .i64 ((rd_T32 l0_1 x3_1).f2), .string ((rd_T32 l0_1 x3_1).f3), (.slice A647_4 ((rd_T32 l0_1 x3_1).f4).length c647_4), (.slice A647_5 ((rd_T32 l0_1 x3_1).f5).length c647_5), (.slice A647_6 ((rd_T32 l0_1 x3_1).f6).length c647_6)] 32 (0, 0))) ∧ Aside0 (Below w.heap.size w wc))
     case first =>
      have H := HC5.out; clear HC5; replace H := Option.bind_eq_some_iff.mp H; obtain ⟨t649, A100, H⟩ := H
      try dsimp only at H
      have A10 := zq9 A100; clear A100
      by_cases c11 : t649 = true
      ·subst c11
       have H1 : (if ((rd_T32 l0_1 x3_1).f1) = 0 then (if x3_1 > 0 then (if 0 ≤ (wrap64 (x3_1 - 1)) then (if (wrap64 (x3_1 - 1)) < (l0_1.length : Int) then (spec_BaseOk.j1 k1 x3_1 (!(Op.bytesLess (((rd_T32 l0_1 (wrap64 (x3_1 - 1))).f0).toList) (((rd_T32 l0_1 x3_1).f0).toList))) a0_0 l0_1) else (none)) else (none)) else (spec_BaseOk.j1 k1 x3_1 false a0_0 l0_1)) else (if ((rd_T32 l0_1 x3_1).f1) ≤ a0_0 then (spec_BaseOk.j1 k1 x3_1 true a0_0 l0_1) else (if x3_1 > 0 then (if 0 ≤ (wrap64 (x3_1 - 1)) then (if (wrap64 (x3_1 - 1)) < (l0_1.length : Int) then (spec_BaseOk.j1 k1 x3_1 (!(Op.bytesLess (((rd_T32 l0_1 (wrap64 (x3_1 - 1))).f0).toList) (((rd_T32 l0_1 x3_1).f0).toList))) a0_0 l0_1) else (none)) else (none)) else (spec_BaseOk.j1 k1 x3_1 false a0_0 l0_1)))) = some r := by rw [if_pos rfl] at H; exact H
       clear H; have H := H1; clear H1
       by_cases c12 : ((rd_T32 l0_1 x3_1).f1) = 0
       ·rw [if_pos c12] at H
        have c12b0 : (((rd_T32 l0_1 x3_1).f1) == 0) = true := beq_iff_eq.mpr c12
        have c12b1 : (((rd_T32 l0_1 x3_1).f1) != 0) = false := bne_eq_false_iff_eq.mpr c12
        clear c12
        (first | rw [c12b0] | (simp only [i64_w, i32_w]; rw [c12b0]) | skip)
        try go_wp2
        have n0_ : Aside0 ((((((((w7.setCell ⟨gb648, 0, none⟩ (.string ((rd_T32 l0_1 x3_1).f0))).setCell ⟨gb648, 1, none⟩ (.int .i64 ((rd_T32 l0_1 x3_1).f1))).setCell ⟨gb648, 2, none⟩ (.int .i64 ((rd_T32 l0_1 x3_1).f2))).setCell ⟨gb648, 3, none⟩ (.string ((rd_T32 l0_1 x3_1).f3))).setCell ⟨gb648, 4, none⟩ (.slice A647_4 ((rd_T32 l0_1 x3_1).f4).length c647_4)).setCell ⟨gb648, 5, none⟩ (.slice A647_5 ((rd_T32 l0_1 x3_1).f5).length c647_5)).setCell ⟨gb648, 6, none⟩ (.slice A647_6 ((rd_T32 l0_1 x3_1).f6).length c647_6)).heap[gb645]? = some (.cells #[.int .i64 a0_0, .slice (some ad647) l0_1.length c0_1] 46 (0, 0))) := ⟨by refine bp ?_; refine blk_far ?_ NB645_648.out _; refine bp ?_; refine blk_far ?_ NB645_648.out _; refine bp ?_; refine blk_far ?_ NB645_648.out _; refine bp ?_; refine blk_far ?_ NB645_648.out _; refine bp ?_; refine blk_far ?_ NB645_648.out _; refine bp ?_; refine blk_far ?_ NB645_648.out _; refine bp ?_; refine blk_far ?_ NB645_648.out _; refine bp ?_; exact BK645.out⟩
        have n1_ : Aside0 ((((((((w7.setCell ⟨gb648, 0, none⟩ (.string ((rd_T32 l0_1 x3_1).f0))).setCell ⟨gb648, 1, none⟩ (.int .i64 ((rd_T32 l0_1 x3_1).f1))).setCell ⟨gb648, 2, none⟩ (.int .i64 ((rd_T32 l0_1 x3_1).f2))).setCell ⟨gb648, 3, none⟩ (.string ((rd_T32 l0_1 x3_1).f3))).setCell ⟨gb648, 4, none⟩ (.slice A647_4 ((rd_T32 l0_1 x3_1).f4).length c647_4)).setCell ⟨gb648, 5, none⟩ (.slice A647_5 ((rd_T32 l0_1 x3_1).f5).length c647_5)).setCell ⟨gb648, 6, none⟩ (.slice A647_6 ((rd_T32 l0_1 x3_1).f6).length c647_6)).heap[gb648]? = some (.cells #[.string ((rd_T32 l0_1 x3_1).f0), .int .i64 ((rd_T32 l0_1 x3_1).f1), .int .i64 ((rd_T32 l0_1 x3_1).f2), .string ((rd_T32 l0_1 x3_1).f3), .slice A647_4 ((rd_T32 l0_1 x3_1).f4).length c647_4, .slice A647_5 ((rd_T32 l0_1 x3_1).f5).length c647_5, .slice A647_6 ((rd_T32 l0_1 x3_1).f6).length c647_6] 32 (0, 0))) := ⟨(blk_set (blk_set (blk_set (blk_set (blk_set (blk_set (blk_set BK648.out 0 _) 1 _) 2 _) 3 _) 4 _) 5 _) 6 _)⟩
        have n2_ : Aside0 (Below w.heap.size w (((((((w7.setCell ⟨gb648, 0, none⟩ (.string ((rd_T32 l0_1 x3_1).f0))).setCell ⟨gb648, 1, none⟩ (.int .i64 ((rd_T32 l0_1 x3_1).f1))).setCell ⟨gb648, 2, none⟩ (.int .i64 ((rd_T32 l0_1 x3_1).f2))).setCell ⟨gb648, 3, none⟩ (.string ((rd_T32 l0_1 x3_1).f3))).setCell ⟨gb648, 4, none⟩ (.slice A647_4 ((rd_T32 l0_1 x3_1).f4).length c647_4)).setCell ⟨gb648, 5, none⟩ (.slice A647_5 ((rd_T32 l0_1 x3_1).f5).length c647_5)).setCell ⟨gb648, 6, none⟩ (.slice A647_6 ((rd_T32 l0_1 x3_1).f6).length c647_6))) := ⟨by exact b2 HB GE645 GE648⟩
        (try clear BK645)
        (try clear BK648)
        (try clear HB)
        generalize (((((((w7.setCell ⟨gb648, 0, none⟩ (.string ((rd_T32 l0_1 x3_1).f0))).setCell ⟨gb648, 1, none⟩ (.int .i64 ((rd_T32 l0_1 x3_1).f1))).setCell ⟨gb648, 2, none⟩ (.int .i64 ((rd_T32 l0_1 x3_1).f2))).setCell ⟨gb648, 3, none⟩ (.string ((rd_T32 l0_1 x3_1).f3))).setCell ⟨gb648, 4, none⟩ (.slice A647_4 ((rd_T32 l0_1 x3_1).f4).length c647_4)).setCell ⟨gb648, 5, none⟩ (.slice A647_5 ((rd_T32 l0_1 x3_1).f5).length c647_5)).setCell ⟨gb648, 6, none⟩ (.slice A647_6 ((rd_T32 l0_1 x3_1).f6).length c647_6)) = w17 at n0_ n1_ n2_ ⊢
        have BK645 := n0_; have BK648 := n1_; have HB := n2_; clear n0_ n1_ n2_
        have n0_ := zq9 (blk_drew BK645.out)
        have n1_ := zq9 (blk_drew BK648.out)
        have n2_ := zq9 (zq4 HB.out)
        clear BK645; clear BK648; clear HB; have BK645 := n0_; have BK648 := n1_; have HB := n2_; clear n0_ n1_ n2_
        by_cases c13 : x3_1 > 0
        ·rw [if_pos c13] at H; have c13b0 : decide (0 < x3_1) = true := decide_eq_true c13; clear c13
         obtain ⟨ji14, hji14⟩ : ∃ j_ : Int, (wrap64 (x3_1 - 1)) = j_ := ⟨_, rfl⟩
         replace H : (if 0 ≤ (ji14) then (if (ji14) < (l0_1.length : Int) then (spec_BaseOk.j1 k1 x3_1 (!(Op.bytesLess (((rd_T32 l0_1 (ji14)).f0).toList) (((rd_T32 l0_1 x3_1).f0).toList))) a0_0 l0_1) else (none)) else (none)) = some r := by first | (rw [hji14] at H; exact H) | (simp only [hji14] at H ⊢; exact H)
         (try rw [hji14] at A10)
         have hji14w : (IntKind.i64.wrap (x3_1 - 1)) = ji14 := (i64_w _).trans hji14
         by_cases c15 : 0 ≤ (ji14)
         ·rw [if_pos c15] at H; have c15b0 : decide (0 ≤ (ji14)) = true := decide_eq_true c15; clear c15
          by_cases c16 : (ji14) < (l0_1.length : Int)
          ·rw [if_pos c16] at H; have c16b0 : decide ((ji14) < (l0_1.length : Int)) = true := decide_eq_true c16; clear c16; have H' := zq9 H; clear H
           have p650 : 0 ≤ ((ji14) : Int) := of_decide_eq_true ‹_›
           have q650 : (ji14) < (l0_1.length : Int) := of_decide_eq_true ‹_›
           obtain ⟨ad650, A650_4, c650_4, A650_5, c650_5, A650_6, c650_6, e650, hx650_0, hx650_1, hx650_2, hx650_3, hx650_4, hx650_5, hx650_6, hl650_4, hi650_4, hl650_5, hi650_5, hl650_6, hi650_6⟩ := at_T32 HR0_1.out (ji14) p650 q650
           have hw650_6 := hx650_6; have hw650_5 := hx650_5; have hw650_4 := hx650_4; have hw650_3 := hx650_3; have hw650_2 := hx650_2; have hw650_1 := hx650_1; have hw650_0 := hx650_0
           obtain rfl : ad647 = ad650 := (by injection e650)
           replace hx650_0 := hcl HB hx650_0; replace hx650_1 := hcl HB hx650_1; replace hx650_2 := hcl HB hx650_2; replace hx650_3 := hcl HB hx650_3; replace hx650_4 := hcl HB hx650_4; replace hx650_5 := hcl HB hx650_5; replace hx650_6 := hcl HB hx650_6; have HR650_4 := zq9 hi650_4; have HC650_4 := zq9 hl650_4; clear hi650_4 hl650_4; have HR650_5 := zq9 hi650_5; have HC650_5 := zq9 hl650_5; clear hi650_5 hl650_5
           have HR650_6 := zq9 hi650_6; have HC650_6 := zq9 hl650_6; clear hi650_6 hl650_6; replace p650 := eq_true p650; replace q650 := eq_true q650
           refine start_ (n := 31) (S := fun w' => w'.cell? ⟨gb648, 0, none⟩ = some (.string ((rd_T32 l0_1 x3_1).f0)) ∧ w'.cell? ⟨gb648, 1, none⟩ = some (.int .i64 ((rd_T32 l0_1 x3_1).f1)) ∧ w'.cell? ⟨gb648, 2, none⟩ = some (.int .i64 ((rd_T32 l0_1 x3_1).f2)) ∧ w'.cell? ⟨gb648, 3, none⟩ = some (.string ((rd_T32 l0_1 x3_1).f3)) ∧ w'.cell? ⟨gb648, 4, none⟩ = some (.slice A647_4 ((rd_T32 l0_1 x3_1).f4).length c647_4) ∧ w'.cell? ⟨gb648, 5, none⟩ = some (.slice A647_5 ((rd_T32 l0_1 x3_1).f5).length c647_5) ∧ w'.cell? ⟨gb648, 6, none⟩ = some (.slice A647_6 ((rd_T32 l0_1 x3_1).f6).length c647_6) ∧ w'.cell? ⟨gb645, 0, none⟩ = some (.int .i64 a0_0) ∧ w'.cell? ⟨gb645, 1, none⟩ = some (.slice (some ad647) l0_1.length c0_1) ∧ w'.cell? (ad647.add (((ji14)).toNat * 7)) = some (.string ((rd_T32 l0_1 (ji14)).f0)) ∧ w'.cell? ⟨(ad647.add (((ji14)).toNat * 7)).block, (ad647.add (((ji14)).toNat * 7)).off + 1, none⟩ = some (.int .i64 ((rd_T32 l0_1 (ji14)).f1)) ∧ w'.cell? ⟨(ad647.add (((ji14)).toNat * 7)).block, (ad647.add (((ji14)).toNat * 7)).off + 2, none⟩ = some (.int .i64 ((rd_T32 l0_1 (ji14)).f2)) ∧ w'.cell? ⟨(ad647.add (((ji14)).toNat * 7)).block, (ad647.add (((ji14)).toNat * 7)).off + 3, none⟩ = some (.string ((rd_T32 l0_1 (ji14)).f3)) ∧ w'.cell? ⟨(ad647.add (((ji14)).toNat * 7)).block, (ad647.add (((ji14)).toNat * 7)).off + 4, none⟩ = some (.slice A650_4 ((rd_T32 l0_1 (ji14)).f4).length c650_4) ∧ w'.cell? ⟨(ad647.add (((ji14)).toNat * 7)).block, (ad647.add (((ji14)).toNat * 7)).off + 5, none⟩ = some (.slice A650_5 ((rd_T32 l0_1 (ji14)).f5).length c650_5) ∧ w'.cell? ⟨(ad647.add (((ji14)).toNat * 7)).block, (ad647.add (((ji14)).toNat * 7)).off + 6, none⟩ = some (.slice A650_6 ((rd_T32 l0_1 (ji14)).f6).length c650_6)) (ds := []) #[false, false, false, false, false, false, false, false, false, false, false, false, false, false, false, false, false, false, false, false, false, false, false, false, false, false, false, false, false, false, false] (by kernel_rfl) rfl rfl ⟨bc BK648 0, bc BK648 1, bc BK648 2, bc BK648 3, bc BK648 4, bc BK648 5, bc BK648 6, bc BK645 0, bc BK645 1, (hcm HB hw650_0), (hcm HB hw650_1), (hcm HB hw650_2), (hcm HB hw650_3), (hcm HB hw650_4), (hcm HB hw650_5), (hcm HB hw650_6)⟩ (fun hHeld => ?_); refine with_tabW spec_BaseOk.tab5 spec_BaseOk.bits5 (fun HT_ HW_ => ?_)
           generalize w17.drew = w18 at BK645 BK648 HB HR650_4 HR650_5 HR650_6 hx650_0 hx650_1 hx650_2 hx650_3 hx650_4 hx650_5 hx650_6 hHeld ⊢
           refine take_ (i := 0) (N := some 17) (v := ?_) (a' := ?_) (zb 31 1) rfl rfl (take_ofW HT_.out HW_.out (by kernel_rfl)) (fun _ _ _ h => h) (Or.inl ⟨by rfl, ?_⟩) hHeld ?_ ?_
           rotate_left; ·rintro w' ⟨s0, s1, s2, s3, s4, s5, s6, s7, s8, s9, s10, s11, s12, s13, s14, s15⟩; go_simp; with_reducible rfl
           rotate_left; ·simp only [Act.put, zq0, zq1, zq2, i64_w, i32_w]; rfl
           refine one_ (i := 1) (N := some 18) (zb 31 3) rfl rfl (one_of HT_.out (by kernel_rfl)) (by decide) (fun K hK => ?_)
           refine gs Try.func11 #[.agg #[.string ((rd_T32 l0_1 x3_1).f0), .int .i64 ((rd_T32 l0_1 x3_1).f1), .int .i64 ((rd_T32 l0_1 x3_1).f2), .string ((rd_T32 l0_1 x3_1).f3), .slice A647_4 ((rd_T32 l0_1 x3_1).f4).length c647_4, .slice A647_5 ((rd_T32 l0_1 x3_1).f5).length c647_5, .slice A647_6 ((rd_T32 l0_1 x3_1).f6).length c647_6]] ?_
           with_reducible refine (spec_EntryOk.calls k1 ((rd_T32 l0_1 x3_1).f0) ((rd_T32 l0_1 x3_1).f1) ((rd_T32 l0_1 x3_1).f2) ((rd_T32 l0_1 x3_1).f3) _ _ ((rd_T32 l0_1 x3_1).f4) _ _ ((rd_T32 l0_1 x3_1).f5) _ _ ((rd_T32 l0_1 x3_1).f6) true _ ?side1 ?side2 ?side3 ?side4 ?side5 ?side6 A10.out).mono ?_
           (case side1 => exact kc HR647_4 HB)
           (case side2 => exact HC647_4.out)
           (case side3 => exact kc HR647_5 HB)
           (case side4 => exact HC647_5.out)
           (case side5 => exact kc HR647_6 HB)
           (case side6 => exact HC647_6.out)
           rintro e w19 ⟨rfl, hb⟩
           refine ⟨_, rfl, ?_⟩
           have n0_ := zq9 (zq30 (g := gb645) (o := .cells #[.int .i64 a0_0, .slice (some ad647) l0_1.length c0_1] 46 (0, 0)) (by exact bk BK645) hb)
           have n1_ := zq9 (zq30 (g := gb648) (o := .cells #[.string ((rd_T32 l0_1 x3_1).f0), .int .i64 ((rd_T32 l0_1 x3_1).f1), .int .i64 ((rd_T32 l0_1 x3_1).f2), .string ((rd_T32 l0_1 x3_1).f3), .slice A647_4 ((rd_T32 l0_1 x3_1).f4).length c647_4, .slice A647_5 ((rd_T32 l0_1 x3_1).f5).length c647_5, .slice A647_6 ((rd_T32 l0_1 x3_1).f6).length c647_6] 32 (0, 0)) (by exact bk BK648) hb)
           have n2_ := zq9 (zq27 (by exact b2 HB GE645 GE648) hb)
           clear BK645; clear BK648; clear HB; have BK645 := n0_; have BK648 := n1_; have HB := n2_; clear n0_ n1_ n2_
           (try clear hb)
           (try clear hb2)
           (try clear hk)
           (try clear hi)
           refine hK.out _ _ ⟨bc BK648 0, bc BK648 1, bc BK648 2, bc BK648 3, bc BK648 4, bc BK648 5, bc BK648 6, bc BK645 0, bc BK645 1, (hcm HB hw650_0), (hcm HB hw650_1), (hcm HB hw650_2), (hcm HB hw650_3), (hcm HB hw650_4), (hcm HB hw650_5), (hcm HB hw650_6)⟩ (fun hHeld => ?_)
           clear hK K
           refine norm_ (a' := ?_) ?_ ?_
           rotate_left; ·show Act.put _ (some 18) _ = _; simp only [Act.put, zq0, zq1, zq2, i64_w, i32_w]; rfl
           refine pa HT_ 2 19 (zb 31 7) ?_; refine pa HT_ 3 20 (zb 31 15) ?_; refine pa HT_ 4 21 (zb 31 31) ?_
           refine take_ (i := 5) (N := some 22) (v := ?_) (a' := ?_) (zb 31 63) rfl rfl (take_ofW HT_.out HW_.out (by kernel_rfl)) (fun _ _ _ h => h) (Or.inl ⟨by rfl, ?_⟩) hHeld ?_ ?_
           rotate_left; ·rintro w' ⟨s0, s1, s2, s3, s4, s5, s6, s7, s8, s9, s10, s11, s12, s13, s14, s15⟩; go_simp; with_reducible rfl
           rotate_left; ·simp only [Act.put, zq0, zq1, zq2, i64_w, i32_w]; rfl
           refine pa HT_ 6 23 (zb 31 127) ?_; refine pa HT_ 7 24 (zb 31 255) ?_; refine pb HT_ 8 25 (zb 31 511) ?_; refine pb HT_ 9 26 (zb 31 1023) ?_; refine pb HT_ 10 27 (zb 31 2047) ?_; refine pb HT_ 11 28 (zb 31 4095) ?_; refine pb HT_ 12 29 (zb 31 8191) ?_; refine pa HT_ 13 30 (zb 31 16383) ?_; refine pa HT_ 14 31 (zb 31 32767) ?_; refine pa HT_ 15 32 (zb 31 65535) ?_; refine pa HT_ 16 33 (zb 31 131071) ?_
           refine pa HT_ 17 34 (zb 31 262143) ?_; refine pa HT_ 18 35 (zb 31 524287) ?_; refine pa HT_ 19 36 (zb 31 1048575) ?_; refine pa HT_ 21 38 (zb 31 3145727) ?_; refine pa HT_ 22 39 (zb 31 7340031) ?_; refine pa HT_ 26 43 (zb 31 74448895) ?_
           refine take_ (i := 20) (N := some 37) (v := ?_) (a' := ?_) (zb 31 75497471) rfl rfl (take_ofW HT_.out HW_.out (by kernel_rfl)) (fun _ _ _ h => h) (Or.inl ⟨by rfl, ?_⟩) hHeld ?_ ?_
           rotate_left; ·rintro w' ⟨s0, s1, s2, s3, s4, s5, s6, s7, s8, s9, s10, s11, s12, s13, s14, s15⟩; go_simp; with_reducible rfl
           rotate_left; ·simp only [Act.put, zq0, zq1, zq2, i64_w, i32_w]; rfl
           refine pa HT_ 23 40 (zb 31 83886079) ?_; refine pa HT_ 24 41 (zb 31 100663295) ?_
           refine take_ (i := 25) (N := some 42) (v := ?_) (a' := ?_) (zb 31 134217727) rfl rfl (take_ofW HT_.out HW_.out (by kernel_rfl)) (fun _ _ _ h => h) (Or.inl ⟨by rfl, ?_⟩) hHeld ?_ ?_
           rotate_left; ·rintro w' ⟨s0, s1, s2, s3, s4, s5, s6, s7, s8, s9, s10, s11, s12, s13, s14, s15⟩; go_simp; with_reducible rfl
           rotate_left; ·simp only [Act.put, zq0, zq1, zq2, i64_w, i32_w]; rfl
           refine take_ (i := 27) (N := some 44) (v := ?_) (a' := ?_) (zb 31 268435455) rfl rfl (take_ofW HT_.out HW_.out (by kernel_rfl)) (fun _ _ _ h => h) (Or.inl ⟨by rfl, ?_⟩) hHeld ?_ ?_
           rotate_left; ·rintro w' ⟨s0, s1, s2, s3, s4, s5, s6, s7, s8, s9, s10, s11, s12, s13, s14, s15⟩; go_simp; with_reducible rfl
           rotate_left; ·simp only [Act.put, zq0, zq1, zq2, i64_w, i32_w]; rfl
           refine pa HT_ 28 45 (zb 31 536870911) ?_; refine pa HT_ 29 46 (zb 31 1073741823) ?_; refine pa HT_ 30 47 (zb 31 2147483647) ?_
           refine done_ (done_of HT_.out (by kernel_rfl)) ?_
           try go_wp2
           go_meet
           case rel => exact ⟨_, (!(Op.bytesLess (((rd_T32 l0_1 (ji14)).f0).toList) (((rd_T32 l0_1 x3_1).f0).toList))), (by first | rfl | (simp; done) | (simp only [← hji14] <;> (first | rfl | simp)) | (simp [*]; done)), H', ⟨by have := HK1.out; first | omega | exact Nat.le_refl _⟩, ⟨by refine bp ?_; exact BK645.out⟩, ⟨by refine bp ?_; exact BK648.out⟩, ⟨by exact b2 HB GE645 GE648⟩⟩
          ·rw [if_neg c16] at H
           exact absurd H (by simp)
         ·rw [if_neg c15] at H
          exact absurd H (by simp)
        ·rw [if_neg c13] at H; have c13b0 : decide (0 < x3_1) = false := decide_eq_false c13; clear c13; have H' := zq9 H; clear H
         refine start_ (n := 31) (S := fun w' => w'.cell? ⟨gb648, 0, none⟩ = some (.string ((rd_T32 l0_1 x3_1).f0)) ∧ w'.cell? ⟨gb648, 1, none⟩ = some (.int .i64 ((rd_T32 l0_1 x3_1).f1)) ∧ w'.cell? ⟨gb648, 2, none⟩ = some (.int .i64 ((rd_T32 l0_1 x3_1).f2)) ∧ w'.cell? ⟨gb648, 3, none⟩ = some (.string ((rd_T32 l0_1 x3_1).f3)) ∧ w'.cell? ⟨gb648, 4, none⟩ = some (.slice A647_4 ((rd_T32 l0_1 x3_1).f4).length c647_4) ∧ w'.cell? ⟨gb648, 5, none⟩ = some (.slice A647_5 ((rd_T32 l0_1 x3_1).f5).length c647_5) ∧ w'.cell? ⟨gb648, 6, none⟩ = some (.slice A647_6 ((rd_T32 l0_1 x3_1).f6).length c647_6)) (ds := []) #[false, false, false, false, false, false, false, false, false, false, false, false, false, false, false, false, false, false, false, false, false, false, false, false, false, false, false, false, false, false, false] (by kernel_rfl) rfl rfl ⟨bc BK648 0, bc BK648 1, bc BK648 2, bc BK648 3, bc BK648 4, bc BK648 5, bc BK648 6⟩ (fun hHeld => ?_); refine with_tabW spec_BaseOk.tab5 spec_BaseOk.bits5 (fun HT_ HW_ => ?_)
         generalize w17.drew = w21 at BK645 BK648 HB hHeld ⊢
         refine take_ (i := 0) (N := some 17) (v := ?_) (a' := ?_) (zb 31 1) rfl rfl (take_ofW HT_.out HW_.out (by kernel_rfl)) (fun _ _ _ h => h) (Or.inl ⟨by rfl, ?_⟩) hHeld ?_ ?_
         rotate_left; ·rintro w' ⟨s0, s1, s2, s3, s4, s5, s6⟩; go_simp; with_reducible rfl
         rotate_left; ·simp only [Act.put, zq0, zq1, zq2, i64_w, i32_w]; rfl
         refine one_ (i := 1) (N := some 18) (zb 31 3) rfl rfl (one_of HT_.out (by kernel_rfl)) (by decide) (fun K hK => ?_)
         refine gs Try.func11 #[.agg #[.string ((rd_T32 l0_1 x3_1).f0), .int .i64 ((rd_T32 l0_1 x3_1).f1), .int .i64 ((rd_T32 l0_1 x3_1).f2), .string ((rd_T32 l0_1 x3_1).f3), .slice A647_4 ((rd_T32 l0_1 x3_1).f4).length c647_4, .slice A647_5 ((rd_T32 l0_1 x3_1).f5).length c647_5, .slice A647_6 ((rd_T32 l0_1 x3_1).f6).length c647_6]] ?_
         with_reducible refine (spec_EntryOk.calls k1 ((rd_T32 l0_1 x3_1).f0) ((rd_T32 l0_1 x3_1).f1) ((rd_T32 l0_1 x3_1).f2) ((rd_T32 l0_1 x3_1).f3) _ _ ((rd_T32 l0_1 x3_1).f4) _ _ ((rd_T32 l0_1 x3_1).f5) _ _ ((rd_T32 l0_1 x3_1).f6) true _ ?side1 ?side2 ?side3 ?side4 ?side5 ?side6 A10.out).mono ?_
         (case side1 => exact kc HR647_4 HB)
         (case side2 => exact HC647_4.out)
         (case side3 => exact kc HR647_5 HB)
         (case side4 => exact HC647_5.out)
         (case side5 => exact kc HR647_6 HB)
         (case side6 => exact HC647_6.out)
         rintro e w22 ⟨rfl, hb⟩
         refine ⟨_, rfl, ?_⟩
         have n0_ := zq9 (zq30 (g := gb645) (o := .cells #[.int .i64 a0_0, .slice (some ad647) l0_1.length c0_1] 46 (0, 0)) (by exact bk BK645) hb)
         have n1_ := zq9 (zq30 (g := gb648) (o := .cells #[.string ((rd_T32 l0_1 x3_1).f0), .int .i64 ((rd_T32 l0_1 x3_1).f1), .int .i64 ((rd_T32 l0_1 x3_1).f2), .string ((rd_T32 l0_1 x3_1).f3), .slice A647_4 ((rd_T32 l0_1 x3_1).f4).length c647_4, .slice A647_5 ((rd_T32 l0_1 x3_1).f5).length c647_5, .slice A647_6 ((rd_T32 l0_1 x3_1).f6).length c647_6] 32 (0, 0)) (by exact bk BK648) hb)
         have n2_ := zq9 (zq27 (by exact b2 HB GE645 GE648) hb)
         clear BK645; clear BK648; clear HB; have BK645 := n0_; have BK648 := n1_; have HB := n2_; clear n0_ n1_ n2_
         (try clear hb)
         (try clear hb2)
         (try clear hk)
         (try clear hi)
         refine hK.out _ _ ⟨bc BK648 0, bc BK648 1, bc BK648 2, bc BK648 3, bc BK648 4, bc BK648 5, bc BK648 6⟩ (fun hHeld => ?_)
         clear hK K
         refine norm_ (a' := ?_) ?_ ?_
         rotate_left; ·show Act.put _ (some 18) _ = _; simp only [Act.put, zq0, zq1, zq2, i64_w, i32_w]; rfl
         refine pa HT_ 2 19 (zb 31 7) ?_; refine pa HT_ 3 20 (zb 31 15) ?_; refine pa HT_ 4 21 (zb 31 31) ?_
         refine take_ (i := 5) (N := some 22) (v := ?_) (a' := ?_) (zb 31 63) rfl rfl (take_ofW HT_.out HW_.out (by kernel_rfl)) (fun _ _ _ h => h) (Or.inl ⟨by rfl, ?_⟩) hHeld ?_ ?_
         rotate_left; ·rintro w' ⟨s0, s1, s2, s3, s4, s5, s6⟩; go_simp; with_reducible rfl
         rotate_left; ·simp only [Act.put, zq0, zq1, zq2, i64_w, i32_w]; rfl
         refine pa HT_ 6 23 (zb 31 127) ?_; refine pa HT_ 7 24 (zb 31 255) ?_; refine pb HT_ 8 25 (zb 31 511) ?_; refine pb HT_ 9 26 (zb 31 1023) ?_; refine pb HT_ 10 27 (zb 31 2047) ?_; refine pb HT_ 11 28 (zb 31 4095) ?_; refine pb HT_ 12 29 (zb 31 8191) ?_; refine pa HT_ 13 30 (zb 31 16383) ?_; refine pa HT_ 14 31 (zb 31 32767) ?_; refine pa HT_ 15 32 (zb 31 65535) ?_; refine pa HT_ 16 33 (zb 31 131071) ?_
         refine pa HT_ 17 34 (zb 31 262143) ?_; refine pa HT_ 18 35 (zb 31 524287) ?_; refine pb HT_ 19 36 (zb 31 1048575) ?_; refine pb HT_ 20 37 (zb 31 2097151) ?_; refine pb HT_ 21 38 (zb 31 4194303) ?_; refine pb HT_ 22 39 (zb 31 8388607) ?_; refine pb HT_ 23 40 (zb 31 16777215) ?_; refine pb HT_ 24 41 (zb 31 33554431) ?_; refine pb HT_ 25 42 (zb 31 67108863) ?_; refine pb HT_ 26 43 (zb 31 134217727) ?_
         refine pb HT_ 27 44 (zb 31 268435455) ?_; refine pb HT_ 28 45 (zb 31 536870911) ?_; refine pa HT_ 29 46 (zb 31 1073741823) ?_; refine pa HT_ 30 47 (zb 31 2147483647) ?_
         refine done_ (done_of HT_.out (by kernel_rfl)) ?_
         try go_wp2
         go_meet
         case rel => exact ⟨_, (false), (by first | rfl | (simp; done) | (simp [*]; done)), H', ⟨by have := HK1.out; first | omega | exact Nat.le_refl _⟩, ⟨by refine bp ?_; exact BK645.out⟩, ⟨by refine bp ?_; exact BK648.out⟩, ⟨by exact b2 HB GE645 GE648⟩⟩
       ·rw [if_neg c12] at H
        have c12b0 : (((rd_T32 l0_1 x3_1).f1) == 0) = false := beq_eq_false_iff_ne.mpr c12
        have c12b1 : (((rd_T32 l0_1 x3_1).f1) != 0) = true := bne_iff_ne.mpr c12
        (first | rw [c12b0] | (simp only [i64_w, i32_w]; rw [c12b0]) | skip)
        try go_wp2
        have n0_ : Aside0 ((((((((w7.setCell ⟨gb648, 0, none⟩ (.string ((rd_T32 l0_1 x3_1).f0))).setCell ⟨gb648, 1, none⟩ (.int .i64 ((rd_T32 l0_1 x3_1).f1))).setCell ⟨gb648, 2, none⟩ (.int .i64 ((rd_T32 l0_1 x3_1).f2))).setCell ⟨gb648, 3, none⟩ (.string ((rd_T32 l0_1 x3_1).f3))).setCell ⟨gb648, 4, none⟩ (.slice A647_4 ((rd_T32 l0_1 x3_1).f4).length c647_4)).setCell ⟨gb648, 5, none⟩ (.slice A647_5 ((rd_T32 l0_1 x3_1).f5).length c647_5)).setCell ⟨gb648, 6, none⟩ (.slice A647_6 ((rd_T32 l0_1 x3_1).f6).length c647_6)).heap[gb645]? = some (.cells #[.int .i64 a0_0, .slice (some ad647) l0_1.length c0_1] 46 (0, 0))) := ⟨by refine bp ?_; refine blk_far ?_ NB645_648.out _; refine bp ?_; refine blk_far ?_ NB645_648.out _; refine bp ?_; refine blk_far ?_ NB645_648.out _; refine bp ?_; refine blk_far ?_ NB645_648.out _; refine bp ?_; refine blk_far ?_ NB645_648.out _; refine bp ?_; refine blk_far ?_ NB645_648.out _; refine bp ?_; refine blk_far ?_ NB645_648.out _; refine bp ?_; exact BK645.out⟩
        have n1_ : Aside0 ((((((((w7.setCell ⟨gb648, 0, none⟩ (.string ((rd_T32 l0_1 x3_1).f0))).setCell ⟨gb648, 1, none⟩ (.int .i64 ((rd_T32 l0_1 x3_1).f1))).setCell ⟨gb648, 2, none⟩ (.int .i64 ((rd_T32 l0_1 x3_1).f2))).setCell ⟨gb648, 3, none⟩ (.string ((rd_T32 l0_1 x3_1).f3))).setCell ⟨gb648, 4, none⟩ (.slice A647_4 ((rd_T32 l0_1 x3_1).f4).length c647_4)).setCell ⟨gb648, 5, none⟩ (.slice A647_5 ((rd_T32 l0_1 x3_1).f5).length c647_5)).setCell ⟨gb648, 6, none⟩ (.slice A647_6 ((rd_T32 l0_1 x3_1).f6).length c647_6)).heap[gb648]? = some (.cells #[.string ((rd_T32 l0_1 x3_1).f0), .int .i64 ((rd_T32 l0_1 x3_1).f1), .int .i64 ((rd_T32 l0_1 x3_1).f2), .string ((rd_T32 l0_1 x3_1).f3), .slice A647_4 ((rd_T32 l0_1 x3_1).f4).length c647_4, .slice A647_5 ((rd_T32 l0_1 x3_1).f5).length c647_5, .slice A647_6 ((rd_T32 l0_1 x3_1).f6).length c647_6] 32 (0, 0))) := ⟨(blk_set (blk_set (blk_set (blk_set (blk_set (blk_set (blk_set BK648.out 0 _) 1 _) 2 _) 3 _) 4 _) 5 _) 6 _)⟩
        have n2_ : Aside0 (Below w.heap.size w (((((((w7.setCell ⟨gb648, 0, none⟩ (.string ((rd_T32 l0_1 x3_1).f0))).setCell ⟨gb648, 1, none⟩ (.int .i64 ((rd_T32 l0_1 x3_1).f1))).setCell ⟨gb648, 2, none⟩ (.int .i64 ((rd_T32 l0_1 x3_1).f2))).setCell ⟨gb648, 3, none⟩ (.string ((rd_T32 l0_1 x3_1).f3))).setCell ⟨gb648, 4, none⟩ (.slice A647_4 ((rd_T32 l0_1 x3_1).f4).length c647_4)).setCell ⟨gb648, 5, none⟩ (.slice A647_5 ((rd_T32 l0_1 x3_1).f5).length c647_5)).setCell ⟨gb648, 6, none⟩ (.slice A647_6 ((rd_T32 l0_1 x3_1).f6).length c647_6))) := ⟨by exact b2 HB GE645 GE648⟩
        (try clear BK645)
        (try clear BK648)
        (try clear HB)
        generalize (((((((w7.setCell ⟨gb648, 0, none⟩ (.string ((rd_T32 l0_1 x3_1).f0))).setCell ⟨gb648, 1, none⟩ (.int .i64 ((rd_T32 l0_1 x3_1).f1))).setCell ⟨gb648, 2, none⟩ (.int .i64 ((rd_T32 l0_1 x3_1).f2))).setCell ⟨gb648, 3, none⟩ (.string ((rd_T32 l0_1 x3_1).f3))).setCell ⟨gb648, 4, none⟩ (.slice A647_4 ((rd_T32 l0_1 x3_1).f4).length c647_4)).setCell ⟨gb648, 5, none⟩ (.slice A647_5 ((rd_T32 l0_1 x3_1).f5).length c647_5)).setCell ⟨gb648, 6, none⟩ (.slice A647_6 ((rd_T32 l0_1 x3_1).f6).length c647_6)) = w24 at n0_ n1_ n2_ ⊢
        have BK645 := n0_; have BK648 := n1_; have HB := n2_; clear n0_ n1_ n2_
        have n0_ := zq9 (blk_drew BK645.out)
        have n1_ := zq9 (blk_drew BK648.out)
        have n2_ := zq9 (zq4 HB.out)
        clear BK645; clear BK648; clear HB; have BK645 := n0_; have BK648 := n1_; have HB := n2_; clear n0_ n1_ n2_
        by_cases c23 : ((rd_T32 l0_1 x3_1).f1) ≤ a0_0
        ·rw [if_pos c23] at H; have c23b0 : decide (((rd_T32 l0_1 x3_1).f1) ≤ a0_0) = true := decide_eq_true c23; clear c23; have H' := zq9 H; clear H
         refine start_ (n := 31) (S := fun w' => w'.cell? ⟨gb648, 0, none⟩ = some (.string ((rd_T32 l0_1 x3_1).f0)) ∧ w'.cell? ⟨gb648, 1, none⟩ = some (.int .i64 ((rd_T32 l0_1 x3_1).f1)) ∧ w'.cell? ⟨gb648, 2, none⟩ = some (.int .i64 ((rd_T32 l0_1 x3_1).f2)) ∧ w'.cell? ⟨gb648, 3, none⟩ = some (.string ((rd_T32 l0_1 x3_1).f3)) ∧ w'.cell? ⟨gb648, 4, none⟩ = some (.slice A647_4 ((rd_T32 l0_1 x3_1).f4).length c647_4) ∧ w'.cell? ⟨gb648, 5, none⟩ = some (.slice A647_5 ((rd_T32 l0_1 x3_1).f5).length c647_5) ∧ w'.cell? ⟨gb648, 6, none⟩ = some (.slice A647_6 ((rd_T32 l0_1 x3_1).f6).length c647_6) ∧ w'.cell? ⟨gb645, 0, none⟩ = some (.int .i64 a0_0) ∧ w'.cell? ⟨gb645, 1, none⟩ = some (.slice (some ad647) l0_1.length c0_1)) (ds := []) #[false, false, false, false, false, false, false, false, false, false, false, false, false, false, false, false, false, false, false, false, false, false, false, false, false, false, false, false, false, false, false] (by kernel_rfl) rfl rfl ⟨bc BK648 0, bc BK648 1, bc BK648 2, bc BK648 3, bc BK648 4, bc BK648 5, bc BK648 6, bc BK645 0, bc BK645 1⟩ (fun hHeld => ?_); refine with_tabW spec_BaseOk.tab5 spec_BaseOk.bits5 (fun HT_ HW_ => ?_)
         generalize w24.drew = w25 at BK645 BK648 HB hHeld ⊢
         refine take_ (i := 0) (N := some 17) (v := ?_) (a' := ?_) (zb 31 1) rfl rfl (take_ofW HT_.out HW_.out (by kernel_rfl)) (fun _ _ _ h => h) (Or.inl ⟨by rfl, ?_⟩) hHeld ?_ ?_
         rotate_left; ·rintro w' ⟨s0, s1, s2, s3, s4, s5, s6, s7, s8⟩; go_simp; with_reducible rfl
         rotate_left; ·simp only [Act.put, zq0, zq1, zq2, i64_w, i32_w]; rfl
         refine one_ (i := 1) (N := some 18) (zb 31 3) rfl rfl (one_of HT_.out (by kernel_rfl)) (by decide) (fun K hK => ?_)
         refine gs Try.func11 #[.agg #[.string ((rd_T32 l0_1 x3_1).f0), .int .i64 ((rd_T32 l0_1 x3_1).f1), .int .i64 ((rd_T32 l0_1 x3_1).f2), .string ((rd_T32 l0_1 x3_1).f3), .slice A647_4 ((rd_T32 l0_1 x3_1).f4).length c647_4, .slice A647_5 ((rd_T32 l0_1 x3_1).f5).length c647_5, .slice A647_6 ((rd_T32 l0_1 x3_1).f6).length c647_6]] ?_
         with_reducible refine (spec_EntryOk.calls k1 ((rd_T32 l0_1 x3_1).f0) ((rd_T32 l0_1 x3_1).f1) ((rd_T32 l0_1 x3_1).f2) ((rd_T32 l0_1 x3_1).f3) _ _ ((rd_T32 l0_1 x3_1).f4) _ _ ((rd_T32 l0_1 x3_1).f5) _ _ ((rd_T32 l0_1 x3_1).f6) true _ ?side1 ?side2 ?side3 ?side4 ?side5 ?side6 A10.out).mono ?_
         (case side1 => exact kc HR647_4 HB)
         (case side2 => exact HC647_4.out)
         (case side3 => exact kc HR647_5 HB)
         (case side4 => exact HC647_5.out)
         (case side5 => exact kc HR647_6 HB)
         (case side6 => exact HC647_6.out)
         rintro e w26 ⟨rfl, hb⟩
         refine ⟨_, rfl, ?_⟩
         have n0_ := zq9 (zq30 (g := gb645) (o := .cells #[.int .i64 a0_0, .slice (some ad647) l0_1.length c0_1] 46 (0, 0)) (by exact bk BK645) hb)
         have n1_ := zq9 (zq30 (g := gb648) (o := .cells #[.string ((rd_T32 l0_1 x3_1).f0), .int .i64 ((rd_T32 l0_1 x3_1).f1), .int .i64 ((rd_T32 l0_1 x3_1).f2), .string ((rd_T32 l0_1 x3_1).f3), .slice A647_4 ((rd_T32 l0_1 x3_1).f4).length c647_4, .slice A647_5 ((rd_T32 l0_1 x3_1).f5).length c647_5, .slice A647_6 ((rd_T32 l0_1 x3_1).f6).length c647_6] 32 (0, 0)) (by exact bk BK648) hb)
         have n2_ := zq9 (zq27 (by exact b2 HB GE645 GE648) hb)
         clear BK645; clear BK648; clear HB; have BK645 := n0_; have BK648 := n1_; have HB := n2_; clear n0_ n1_ n2_
         (try clear hb)
         (try clear hb2)
         (try clear hk)
         (try clear hi)
         refine hK.out _ _ ⟨bc BK648 0, bc BK648 1, bc BK648 2, bc BK648 3, bc BK648 4, bc BK648 5, bc BK648 6, bc BK645 0, bc BK645 1⟩ (fun hHeld => ?_)
         clear hK K
         refine norm_ (a' := ?_) ?_ ?_
         rotate_left; ·show Act.put _ (some 18) _ = _; simp only [Act.put, zq0, zq1, zq2, i64_w, i32_w]; rfl
         refine pa HT_ 2 19 (zb 31 7) ?_; refine pa HT_ 3 20 (zb 31 15) ?_; refine pa HT_ 4 21 (zb 31 31) ?_
         refine take_ (i := 5) (N := some 22) (v := ?_) (a' := ?_) (zb 31 63) rfl rfl (take_ofW HT_.out HW_.out (by kernel_rfl)) (fun _ _ _ h => h) (Or.inl ⟨by rfl, ?_⟩) hHeld ?_ ?_
         rotate_left; ·rintro w' ⟨s0, s1, s2, s3, s4, s5, s6, s7, s8⟩; go_simp; with_reducible rfl
         rotate_left; ·simp only [Act.put, zq0, zq1, zq2, i64_w, i32_w]; rfl
         refine pa HT_ 6 23 (zb 31 127) ?_; refine pa HT_ 7 24 (zb 31 255) ?_; refine pa HT_ 8 25 (zb 31 511) ?_; refine pa HT_ 10 27 (zb 31 1535) ?_
         refine take_ (i := 9) (N := some 26) (v := ?_) (a' := ?_) (zb 31 2047) rfl rfl (take_ofW HT_.out HW_.out (by kernel_rfl)) (fun _ _ _ h => h) (Or.inl ⟨by rfl, ?_⟩) hHeld ?_ ?_
         rotate_left; ·rintro w' ⟨s0, s1, s2, s3, s4, s5, s6, s7, s8⟩; go_simp; with_reducible rfl
         rotate_left; ·simp only [Act.put, zq0, zq1, zq2, i64_w, i32_w]; rfl
         refine take_ (i := 11) (N := some 28) (v := ?_) (a' := ?_) (zb 31 4095) rfl rfl (take_ofW HT_.out HW_.out (by kernel_rfl)) (fun _ _ _ h => h) (Or.inl ⟨by rfl, ?_⟩) hHeld ?_ ?_
         rotate_left; ·rintro w' ⟨s0, s1, s2, s3, s4, s5, s6, s7, s8⟩; go_simp; with_reducible rfl
         rotate_left; ·simp only [Act.put, zq0, zq1, zq2, i64_w, i32_w]; rfl
         refine pa HT_ 12 29 (zb 31 8191) ?_; refine pa HT_ 13 30 (zb 31 16383) ?_; refine pa HT_ 14 31 (zb 31 32767) ?_; refine pa HT_ 15 32 (zb 31 65535) ?_; refine pb HT_ 16 33 (zb 31 131071) ?_; refine pb HT_ 17 34 (zb 31 262143) ?_; refine pb HT_ 18 35 (zb 31 524287) ?_; refine pb HT_ 19 36 (zb 31 1048575) ?_; refine pb HT_ 20 37 (zb 31 2097151) ?_; refine pb HT_ 21 38 (zb 31 4194303) ?_; refine pb HT_ 22 39 (zb 31 8388607) ?_
         refine pb HT_ 23 40 (zb 31 16777215) ?_; refine pb HT_ 24 41 (zb 31 33554431) ?_; refine pb HT_ 25 42 (zb 31 67108863) ?_; refine pb HT_ 26 43 (zb 31 134217727) ?_; refine pb HT_ 27 44 (zb 31 268435455) ?_; refine pb HT_ 28 45 (zb 31 536870911) ?_; refine pb HT_ 29 46 (zb 31 1073741823) ?_; refine pa HT_ 30 47 (zb 31 2147483647) ?_
         refine done_ (done_of HT_.out (by kernel_rfl)) ?_
         try go_wp2
         go_meet
         case rel => exact ⟨_, (true), (by first | rfl | (simp; done) | (simp [*]; done)), H', ⟨by have := HK1.out; first | omega | exact Nat.le_refl _⟩, ⟨by refine bp ?_; exact BK645.out⟩, ⟨by refine bp ?_; exact BK648.out⟩, ⟨by exact b2 HB GE645 GE648⟩⟩
        ·rw [if_neg c23] at H; have c23b0 : decide (((rd_T32 l0_1 x3_1).f1) ≤ a0_0) = false := decide_eq_false c23; clear c23
         by_cases c27 : x3_1 > 0
         ·rw [if_pos c27] at H; have c27b0 : decide (0 < x3_1) = true := decide_eq_true c27; clear c27
          obtain ⟨ji28, hji28⟩ : ∃ j_ : Int, (wrap64 (x3_1 - 1)) = j_ := ⟨_, rfl⟩
          replace H : (if 0 ≤ (ji28) then (if (ji28) < (l0_1.length : Int) then (spec_BaseOk.j1 k1 x3_1 (!(Op.bytesLess (((rd_T32 l0_1 (ji28)).f0).toList) (((rd_T32 l0_1 x3_1).f0).toList))) a0_0 l0_1) else (none)) else (none)) = some r := by first | (rw [hji28] at H; exact H) | (simp only [hji28] at H ⊢; exact H)
          (try rw [hji28] at A10)
          have hji28w : (IntKind.i64.wrap (x3_1 - 1)) = ji28 := (i64_w _).trans hji28
          by_cases c29 : 0 ≤ (ji28)
          ·rw [if_pos c29] at H; have c29b0 : decide (0 ≤ (ji28)) = true := decide_eq_true c29; clear c29
           by_cases c30 : (ji28) < (l0_1.length : Int)
           ·rw [if_pos c30] at H; have c30b0 : decide ((ji28) < (l0_1.length : Int)) = true := decide_eq_true c30; clear c30; have H' := zq9 H; clear H
            have p651 : 0 ≤ ((ji28) : Int) := of_decide_eq_true ‹_›
            have q651 : (ji28) < (l0_1.length : Int) := of_decide_eq_true ‹_›
            obtain ⟨ad651, A651_4, c651_4, A651_5, c651_5, A651_6, c651_6, e651, hx651_0, hx651_1, hx651_2, hx651_3, hx651_4, hx651_5, hx651_6, hl651_4, hi651_4, hl651_5, hi651_5, hl651_6, hi651_6⟩ := at_T32 HR0_1.out (ji28) p651 q651
            have hw651_6 := hx651_6; have hw651_5 := hx651_5; have hw651_4 := hx651_4; have hw651_3 := hx651_3; have hw651_2 := hx651_2; have hw651_1 := hx651_1; have hw651_0 := hx651_0
            obtain rfl : ad647 = ad651 := (by injection e651)
            replace hx651_0 := hcl HB hx651_0; replace hx651_1 := hcl HB hx651_1; replace hx651_2 := hcl HB hx651_2; replace hx651_3 := hcl HB hx651_3; replace hx651_4 := hcl HB hx651_4; replace hx651_5 := hcl HB hx651_5; replace hx651_6 := hcl HB hx651_6; have HR651_4 := zq9 hi651_4; have HC651_4 := zq9 hl651_4; clear hi651_4 hl651_4; have HR651_5 := zq9 hi651_5; have HC651_5 := zq9 hl651_5; clear hi651_5 hl651_5
            have HR651_6 := zq9 hi651_6; have HC651_6 := zq9 hl651_6; clear hi651_6 hl651_6; replace p651 := eq_true p651; replace q651 := eq_true q651
            refine start_ (n := 31) (S := fun w' => w'.cell? ⟨gb648, 0, none⟩ = some (.string ((rd_T32 l0_1 x3_1).f0)) ∧ w'.cell? ⟨gb648, 1, none⟩ = some (.int .i64 ((rd_T32 l0_1 x3_1).f1)) ∧ w'.cell? ⟨gb648, 2, none⟩ = some (.int .i64 ((rd_T32 l0_1 x3_1).f2)) ∧ w'.cell? ⟨gb648, 3, none⟩ = some (.string ((rd_T32 l0_1 x3_1).f3)) ∧ w'.cell? ⟨gb648, 4, none⟩ = some (.slice A647_4 ((rd_T32 l0_1 x3_1).f4).length c647_4) ∧ w'.cell? ⟨gb648, 5, none⟩ = some (.slice A647_5 ((rd_T32 l0_1 x3_1).f5).length c647_5) ∧ w'.cell? ⟨gb648, 6, none⟩ = some (.slice A647_6 ((rd_T32 l0_1 x3_1).f6).length c647_6) ∧ w'.cell? ⟨gb645, 0, none⟩ = some (.int .i64 a0_0) ∧ w'.cell? ⟨gb645, 1, none⟩ = some (.slice (some ad647) l0_1.length c0_1) ∧ w'.cell? (ad647.add (((ji28)).toNat * 7)) = some (.string ((rd_T32 l0_1 (ji28)).f0)) ∧ w'.cell? ⟨(ad647.add (((ji28)).toNat * 7)).block, (ad647.add (((ji28)).toNat * 7)).off + 1, none⟩ = some (.int .i64 ((rd_T32 l0_1 (ji28)).f1)) ∧ w'.cell? ⟨(ad647.add (((ji28)).toNat * 7)).block, (ad647.add (((ji28)).toNat * 7)).off + 2, none⟩ = some (.int .i64 ((rd_T32 l0_1 (ji28)).f2)) ∧ w'.cell? ⟨(ad647.add (((ji28)).toNat * 7)).block, (ad647.add (((ji28)).toNat * 7)).off + 3, none⟩ = some (.string ((rd_T32 l0_1 (ji28)).f3)) ∧ w'.cell? ⟨(ad647.add (((ji28)).toNat * 7)).block, (ad647.add (((ji28)).toNat * 7)).off + 4, none⟩ = some (.slice A651_4 ((rd_T32 l0_1 (ji28)).f4).length c651_4) ∧ w'.cell? ⟨(ad647.add (((ji28)).toNat * 7)).block, (ad647.add (((ji28)).toNat * 7)).off + 5, none⟩ = some (.slice A651_5 ((rd_T32 l0_1 (ji28)).f5).length c651_5) ∧ w'.cell? ⟨(ad647.add (((ji28)).toNat * 7)).block, (ad647.add (((ji28)).toNat * 7)).off + 6, none⟩ = some (.slice A651_6 ((rd_T32 l0_1 (ji28)).f6).length c651_6)) (ds := []) #[false, false, false, false, false, false, false, false, false, false, false, false, false, false, false, false, false, false, false, false, false, false, false, false, false, false, false, false, false, false, false] (by kernel_rfl) rfl rfl ⟨bc BK648 0, bc BK648 1, bc BK648 2, bc BK648 3, bc BK648 4, bc BK648 5, bc BK648 6, bc BK645 0, bc BK645 1, (hcm HB hw651_0), (hcm HB hw651_1), (hcm HB hw651_2), (hcm HB hw651_3), (hcm HB hw651_4), (hcm HB hw651_5), (hcm HB hw651_6)⟩ (fun hHeld => ?_); refine with_tabW spec_BaseOk.tab5 spec_BaseOk.bits5 (fun HT_ HW_ => ?_)
            generalize w24.drew = w32 at BK645 BK648 HB HR651_4 HR651_5 HR651_6 hx651_0 hx651_1 hx651_2 hx651_3 hx651_4 hx651_5 hx651_6 hHeld ⊢
            refine take_ (i := 0) (N := some 17) (v := ?_) (a' := ?_) (zb 31 1) rfl rfl (take_ofW HT_.out HW_.out (by kernel_rfl)) (fun _ _ _ h => h) (Or.inl ⟨by rfl, ?_⟩) hHeld ?_ ?_
            rotate_left; ·rintro w' ⟨s0, s1, s2, s3, s4, s5, s6, s7, s8, s9, s10, s11, s12, s13, s14, s15⟩; go_simp; with_reducible rfl
            rotate_left; ·simp only [Act.put, zq0, zq1, zq2, i64_w, i32_w]; rfl
            refine one_ (i := 1) (N := some 18) (zb 31 3) rfl rfl (one_of HT_.out (by kernel_rfl)) (by decide) (fun K hK => ?_)
            refine gs Try.func11 #[.agg #[.string ((rd_T32 l0_1 x3_1).f0), .int .i64 ((rd_T32 l0_1 x3_1).f1), .int .i64 ((rd_T32 l0_1 x3_1).f2), .string ((rd_T32 l0_1 x3_1).f3), .slice A647_4 ((rd_T32 l0_1 x3_1).f4).length c647_4, .slice A647_5 ((rd_T32 l0_1 x3_1).f5).length c647_5, .slice A647_6 ((rd_T32 l0_1 x3_1).f6).length c647_6]] ?_
            with_reducible refine (spec_EntryOk.calls k1 ((rd_T32 l0_1 x3_1).f0) ((rd_T32 l0_1 x3_1).f1) ((rd_T32 l0_1 x3_1).f2) ((rd_T32 l0_1 x3_1).f3) _ _ ((rd_T32 l0_1 x3_1).f4) _ _ ((rd_T32 l0_1 x3_1).f5) _ _ ((rd_T32 l0_1 x3_1).f6) true _ ?side1 ?side2 ?side3 ?side4 ?side5 ?side6 A10.out).mono ?_
            (case side1 => exact kc HR647_4 HB)
            (case side2 => exact HC647_4.out)
            (case side3 => exact kc HR647_5 HB)
            (case side4 => exact HC647_5.out)
            (case side5 => exact kc HR647_6 HB)
            (case side6 => exact HC647_6.out)
            rintro e w33 ⟨rfl, hb⟩
            refine ⟨_, rfl, ?_⟩
            have n0_ := zq9 (zq30 (g := gb645) (o := .cells #[.int .i64 a0_0, .slice (some ad647) l0_1.length c0_1] 46 (0, 0)) (by exact bk BK645) hb)
            have n1_ := zq9 (zq30 (g := gb648) (o := .cells #[.string ((rd_T32 l0_1 x3_1).f0), .int .i64 ((rd_T32 l0_1 x3_1).f1), .int .i64 ((rd_T32 l0_1 x3_1).f2), .string ((rd_T32 l0_1 x3_1).f3), .slice A647_4 ((rd_T32 l0_1 x3_1).f4).length c647_4, .slice A647_5 ((rd_T32 l0_1 x3_1).f5).length c647_5, .slice A647_6 ((rd_T32 l0_1 x3_1).f6).length c647_6] 32 (0, 0)) (by exact bk BK648) hb)
            have n2_ := zq9 (zq27 (by exact b2 HB GE645 GE648) hb)
            clear BK645; clear BK648; clear HB; have BK645 := n0_; have BK648 := n1_; have HB := n2_; clear n0_ n1_ n2_
            (try clear hb)
            (try clear hb2)
            (try clear hk)
            (try clear hi)
            refine hK.out _ _ ⟨bc BK648 0, bc BK648 1, bc BK648 2, bc BK648 3, bc BK648 4, bc BK648 5, bc BK648 6, bc BK645 0, bc BK645 1, (hcm HB hw651_0), (hcm HB hw651_1), (hcm HB hw651_2), (hcm HB hw651_3), (hcm HB hw651_4), (hcm HB hw651_5), (hcm HB hw651_6)⟩ (fun hHeld => ?_)
            clear hK K
            refine norm_ (a' := ?_) ?_ ?_
            rotate_left; ·show Act.put _ (some 18) _ = _; simp only [Act.put, zq0, zq1, zq2, i64_w, i32_w]; rfl
            refine pa HT_ 2 19 (zb 31 7) ?_; refine pa HT_ 3 20 (zb 31 15) ?_; refine pa HT_ 4 21 (zb 31 31) ?_
            refine take_ (i := 5) (N := some 22) (v := ?_) (a' := ?_) (zb 31 63) rfl rfl (take_ofW HT_.out HW_.out (by kernel_rfl)) (fun _ _ _ h => h) (Or.inl ⟨by rfl, ?_⟩) hHeld ?_ ?_
            rotate_left; ·rintro w' ⟨s0, s1, s2, s3, s4, s5, s6, s7, s8, s9, s10, s11, s12, s13, s14, s15⟩; go_simp; with_reducible rfl
            rotate_left; ·simp only [Act.put, zq0, zq1, zq2, i64_w, i32_w]; rfl
            refine pa HT_ 6 23 (zb 31 127) ?_; refine pa HT_ 7 24 (zb 31 255) ?_; refine pa HT_ 8 25 (zb 31 511) ?_; refine pa HT_ 10 27 (zb 31 1535) ?_
            refine take_ (i := 9) (N := some 26) (v := ?_) (a' := ?_) (zb 31 2047) rfl rfl (take_ofW HT_.out HW_.out (by kernel_rfl)) (fun _ _ _ h => h) (Or.inl ⟨by rfl, ?_⟩) hHeld ?_ ?_
            rotate_left; ·rintro w' ⟨s0, s1, s2, s3, s4, s5, s6, s7, s8, s9, s10, s11, s12, s13, s14, s15⟩; go_simp; with_reducible rfl
            rotate_left; ·simp only [Act.put, zq0, zq1, zq2, i64_w, i32_w]; rfl
            refine take_ (i := 11) (N := some 28) (v := ?_) (a' := ?_) (zb 31 4095) rfl rfl (take_ofW HT_.out HW_.out (by kernel_rfl)) (fun _ _ _ h => h) (Or.inl ⟨by rfl, ?_⟩) hHeld ?_ ?_
            rotate_left; ·rintro w' ⟨s0, s1, s2, s3, s4, s5, s6, s7, s8, s9, s10, s11, s12, s13, s14, s15⟩; go_simp; with_reducible rfl
            rotate_left; ·simp only [Act.put, zq0, zq1, zq2, i64_w, i32_w]; rfl
            refine pa HT_ 12 29 (zb 31 8191) ?_; refine pa HT_ 13 30 (zb 31 16383) ?_; refine pa HT_ 14 31 (zb 31 32767) ?_; refine pa HT_ 15 32 (zb 31 65535) ?_; refine pa HT_ 16 33 (zb 31 131071) ?_; refine pa HT_ 17 34 (zb 31 262143) ?_; refine pa HT_ 18 35 (zb 31 524287) ?_; refine pa HT_ 19 36 (zb 31 1048575) ?_; refine pa HT_ 21 38 (zb 31 3145727) ?_; refine pa HT_ 22 39 (zb 31 7340031) ?_; refine pa HT_ 26 43 (zb 31 74448895) ?_
            refine take_ (i := 20) (N := some 37) (v := ?_) (a' := ?_) (zb 31 75497471) rfl rfl (take_ofW HT_.out HW_.out (by kernel_rfl)) (fun _ _ _ h => h) (Or.inl ⟨by rfl, ?_⟩) hHeld ?_ ?_
            rotate_left; ·rintro w' ⟨s0, s1, s2, s3, s4, s5, s6, s7, s8, s9, s10, s11, s12, s13, s14, s15⟩; go_simp; with_reducible rfl
            rotate_left; ·simp only [Act.put, zq0, zq1, zq2, i64_w, i32_w]; rfl
            refine pa HT_ 23 40 (zb 31 83886079) ?_; refine pa HT_ 24 41 (zb 31 100663295) ?_
            refine take_ (i := 25) (N := some 42) (v := ?_) (a' := ?_) (zb 31 134217727) rfl rfl (take_ofW HT_.out HW_.out (by kernel_rfl)) (fun _ _ _ h => h) (Or.inl ⟨by rfl, ?_⟩) hHeld ?_ ?_
            rotate_left; ·rintro w' ⟨s0, s1, s2, s3, s4, s5, s6, s7, s8, s9, s10, s11, s12, s13, s14, s15⟩; go_simp; with_reducible rfl
            rotate_left; ·simp only [Act.put, zq0, zq1, zq2, i64_w, i32_w]; rfl
            refine take_ (i := 27) (N := some 44) (v := ?_) (a' := ?_) (zb 31 268435455) rfl rfl (take_ofW HT_.out HW_.out (by kernel_rfl)) (fun _ _ _ h => h) (Or.inl ⟨by rfl, ?_⟩) hHeld ?_ ?_
            rotate_left; ·rintro w' ⟨s0, s1, s2, s3, s4, s5, s6, s7, s8, s9, s10, s11, s12, s13, s14, s15⟩; go_simp; with_reducible rfl
            rotate_left; ·simp only [Act.put, zq0, zq1, zq2, i64_w, i32_w]; rfl
            refine pa HT_ 28 45 (zb 31 536870911) ?_; refine pa HT_ 29 46 (zb 31 1073741823) ?_; refine pa HT_ 30 47 (zb 31 2147483647) ?_
            refine done_ (done_of HT_.out (by kernel_rfl)) ?_
            try go_wp2
            go_meet
            case rel => exact ⟨_, (!(Op.bytesLess (((rd_T32 l0_1 (ji28)).f0).toList) (((rd_T32 l0_1 x3_1).f0).toList))), (by first | rfl | (simp; done) | (simp only [← hji28] <;> (first | rfl | simp)) | (simp [*]; done)), H', ⟨by have := HK1.out; first | omega | exact Nat.le_refl _⟩, ⟨by refine bp ?_; exact BK645.out⟩, ⟨by refine bp ?_; exact BK648.out⟩, ⟨by exact b2 HB GE645 GE648⟩⟩
           ·rw [if_neg c30] at H
            exact absurd H (by simp)
          ·rw [if_neg c29] at H
           exact absurd H (by simp)
         ·rw [if_neg c27] at H; have c27b0 : decide (0 < x3_1) = false := decide_eq_false c27; clear c27; have H' := zq9 H; clear H
          refine start_ (n := 31) (S := fun w' => w'.cell? ⟨gb648, 0, none⟩ = some (.string ((rd_T32 l0_1 x3_1).f0)) ∧ w'.cell? ⟨gb648, 1, none⟩ = some (.int .i64 ((rd_T32 l0_1 x3_1).f1)) ∧ w'.cell? ⟨gb648, 2, none⟩ = some (.int .i64 ((rd_T32 l0_1 x3_1).f2)) ∧ w'.cell? ⟨gb648, 3, none⟩ = some (.string ((rd_T32 l0_1 x3_1).f3)) ∧ w'.cell? ⟨gb648, 4, none⟩ = some (.slice A647_4 ((rd_T32 l0_1 x3_1).f4).length c647_4) ∧ w'.cell? ⟨gb648, 5, none⟩ = some (.slice A647_5 ((rd_T32 l0_1 x3_1).f5).length c647_5) ∧ w'.cell? ⟨gb648, 6, none⟩ = some (.slice A647_6 ((rd_T32 l0_1 x3_1).f6).length c647_6) ∧ w'.cell? ⟨gb645, 0, none⟩ = some (.int .i64 a0_0) ∧ w'.cell? ⟨gb645, 1, none⟩ = some (.slice (some ad647) l0_1.length c0_1)) (ds := []) #[false, false, false, false, false, false, false, false, false, false, false, false, false, false, false, false, false, false, false, false, false, false, false, false, false, false, false, false, false, false, false] (by kernel_rfl) rfl rfl ⟨bc BK648 0, bc BK648 1, bc BK648 2, bc BK648 3, bc BK648 4, bc BK648 5, bc BK648 6, bc BK645 0, bc BK645 1⟩ (fun hHeld => ?_); refine with_tabW spec_BaseOk.tab5 spec_BaseOk.bits5 (fun HT_ HW_ => ?_)
          generalize w24.drew = w35 at BK645 BK648 HB hHeld ⊢
          refine take_ (i := 0) (N := some 17) (v := ?_) (a' := ?_) (zb 31 1) rfl rfl (take_ofW HT_.out HW_.out (by kernel_rfl)) (fun _ _ _ h => h) (Or.inl ⟨by rfl, ?_⟩) hHeld ?_ ?_
          rotate_left; ·rintro w' ⟨s0, s1, s2, s3, s4, s5, s6, s7, s8⟩; go_simp; with_reducible rfl
          rotate_left; ·simp only [Act.put, zq0, zq1, zq2, i64_w, i32_w]; rfl
          refine one_ (i := 1) (N := some 18) (zb 31 3) rfl rfl (one_of HT_.out (by kernel_rfl)) (by decide) (fun K hK => ?_)
          refine gs Try.func11 #[.agg #[.string ((rd_T32 l0_1 x3_1).f0), .int .i64 ((rd_T32 l0_1 x3_1).f1), .int .i64 ((rd_T32 l0_1 x3_1).f2), .string ((rd_T32 l0_1 x3_1).f3), .slice A647_4 ((rd_T32 l0_1 x3_1).f4).length c647_4, .slice A647_5 ((rd_T32 l0_1 x3_1).f5).length c647_5, .slice A647_6 ((rd_T32 l0_1 x3_1).f6).length c647_6]] ?_
          with_reducible refine (spec_EntryOk.calls k1 ((rd_T32 l0_1 x3_1).f0) ((rd_T32 l0_1 x3_1).f1) ((rd_T32 l0_1 x3_1).f2) ((rd_T32 l0_1 x3_1).f3) _ _ ((rd_T32 l0_1 x3_1).f4) _ _ ((rd_T32 l0_1 x3_1).f5) _ _ ((rd_T32 l0_1 x3_1).f6) true _ ?side1 ?side2 ?side3 ?side4 ?side5 ?side6 A10.out).mono ?_
          (case side1 => exact kc HR647_4 HB)
          (case side2 => exact HC647_4.out)
          (case side3 => exact kc HR647_5 HB)
          (case side4 => exact HC647_5.out)
          (case side5 => exact kc HR647_6 HB)
          (case side6 => exact HC647_6.out)
          rintro e w36 ⟨rfl, hb⟩
          refine ⟨_, rfl, ?_⟩
          have n0_ := zq9 (zq30 (g := gb645) (o := .cells #[.int .i64 a0_0, .slice (some ad647) l0_1.length c0_1] 46 (0, 0)) (by exact bk BK645) hb)
          have n1_ := zq9 (zq30 (g := gb648) (o := .cells #[.string ((rd_T32 l0_1 x3_1).f0), .int .i64 ((rd_T32 l0_1 x3_1).f1), .int .i64 ((rd_T32 l0_1 x3_1).f2), .string ((rd_T32 l0_1 x3_1).f3), .slice A647_4 ((rd_T32 l0_1 x3_1).f4).length c647_4, .slice A647_5 ((rd_T32 l0_1 x3_1).f5).length c647_5, .slice A647_6 ((rd_T32 l0_1 x3_1).f6).length c647_6] 32 (0, 0)) (by exact bk BK648) hb)
          have n2_ := zq9 (zq27 (by exact b2 HB GE645 GE648) hb)
          clear BK645; clear BK648; clear HB; have BK645 := n0_; have BK648 := n1_; have HB := n2_; clear n0_ n1_ n2_
          (try clear hb)
          (try clear hb2)
          (try clear hk)
          (try clear hi)
          refine hK.out _ _ ⟨bc BK648 0, bc BK648 1, bc BK648 2, bc BK648 3, bc BK648 4, bc BK648 5, bc BK648 6, bc BK645 0, bc BK645 1⟩ (fun hHeld => ?_)
          clear hK K
          refine norm_ (a' := ?_) ?_ ?_
          rotate_left; ·show Act.put _ (some 18) _ = _; simp only [Act.put, zq0, zq1, zq2, i64_w, i32_w]; rfl
          refine pa HT_ 2 19 (zb 31 7) ?_; refine pa HT_ 3 20 (zb 31 15) ?_; refine pa HT_ 4 21 (zb 31 31) ?_
          refine take_ (i := 5) (N := some 22) (v := ?_) (a' := ?_) (zb 31 63) rfl rfl (take_ofW HT_.out HW_.out (by kernel_rfl)) (fun _ _ _ h => h) (Or.inl ⟨by rfl, ?_⟩) hHeld ?_ ?_
          rotate_left; ·rintro w' ⟨s0, s1, s2, s3, s4, s5, s6, s7, s8⟩; go_simp; with_reducible rfl
          rotate_left; ·simp only [Act.put, zq0, zq1, zq2, i64_w, i32_w]; rfl
          refine pa HT_ 6 23 (zb 31 127) ?_; refine pa HT_ 7 24 (zb 31 255) ?_; refine pa HT_ 8 25 (zb 31 511) ?_; refine pa HT_ 10 27 (zb 31 1535) ?_
          refine take_ (i := 9) (N := some 26) (v := ?_) (a' := ?_) (zb 31 2047) rfl rfl (take_ofW HT_.out HW_.out (by kernel_rfl)) (fun _ _ _ h => h) (Or.inl ⟨by rfl, ?_⟩) hHeld ?_ ?_
          rotate_left; ·rintro w' ⟨s0, s1, s2, s3, s4, s5, s6, s7, s8⟩; go_simp; with_reducible rfl
          rotate_left; ·simp only [Act.put, zq0, zq1, zq2, i64_w, i32_w]; rfl
          refine take_ (i := 11) (N := some 28) (v := ?_) (a' := ?_) (zb 31 4095) rfl rfl (take_ofW HT_.out HW_.out (by kernel_rfl)) (fun _ _ _ h => h) (Or.inl ⟨by rfl, ?_⟩) hHeld ?_ ?_
          rotate_left; ·rintro w' ⟨s0, s1, s2, s3, s4, s5, s6, s7, s8⟩; go_simp; with_reducible rfl
          rotate_left; ·simp only [Act.put, zq0, zq1, zq2, i64_w, i32_w]; rfl
          refine pa HT_ 12 29 (zb 31 8191) ?_; refine pa HT_ 13 30 (zb 31 16383) ?_; refine pa HT_ 14 31 (zb 31 32767) ?_; refine pa HT_ 15 32 (zb 31 65535) ?_; refine pa HT_ 16 33 (zb 31 131071) ?_; refine pa HT_ 17 34 (zb 31 262143) ?_; refine pa HT_ 18 35 (zb 31 524287) ?_; refine pb HT_ 19 36 (zb 31 1048575) ?_; refine pb HT_ 20 37 (zb 31 2097151) ?_; refine pb HT_ 21 38 (zb 31 4194303) ?_; refine pb HT_ 22 39 (zb 31 8388607) ?_
          refine pb HT_ 23 40 (zb 31 16777215) ?_; refine pb HT_ 24 41 (zb 31 33554431) ?_; refine pb HT_ 25 42 (zb 31 67108863) ?_; refine pb HT_ 26 43 (zb 31 134217727) ?_; refine pb HT_ 27 44 (zb 31 268435455) ?_; refine pb HT_ 28 45 (zb 31 536870911) ?_; refine pa HT_ 29 46 (zb 31 1073741823) ?_; refine pa HT_ 30 47 (zb 31 2147483647) ?_
          refine done_ (done_of HT_.out (by kernel_rfl)) ?_
          try go_wp2
          go_meet
          case rel => exact ⟨_, (false), (by first | rfl | (simp; done) | (simp [*]; done)), H', ⟨by have := HK1.out; first | omega | exact Nat.le_refl _⟩, ⟨by refine bp ?_; exact BK645.out⟩, ⟨by refine bp ?_; exact BK648.out⟩, ⟨by exact b2 HB GE645 GE648⟩⟩
      ·replace c11 := Bool.eq_false_iff.mpr c11
       subst c11
       have H1 : (spec_BaseOk.j1 k1 x3_1 true a0_0 l0_1) = some r := by rw [if_neg (show ¬ (false = true) by decide)] at H; exact H
       clear H; have H := H1; clear H1; have H' := zq9 H; clear H
       try go_wp2
       have n0_ : Aside0 ((((((((w7.setCell ⟨gb648, 0, none⟩ (.string ((rd_T32 l0_1 x3_1).f0))).setCell ⟨gb648, 1, none⟩ (.int .i64 ((rd_T32 l0_1 x3_1).f1))).setCell ⟨gb648, 2, none⟩ (.int .i64 ((rd_T32 l0_1 x3_1).f2))).setCell ⟨gb648, 3, none⟩ (.string ((rd_T32 l0_1 x3_1).f3))).setCell ⟨gb648, 4, none⟩ (.slice A647_4 ((rd_T32 l0_1 x3_1).f4).length c647_4)).setCell ⟨gb648, 5, none⟩ (.slice A647_5 ((rd_T32 l0_1 x3_1).f5).length c647_5)).setCell ⟨gb648, 6, none⟩ (.slice A647_6 ((rd_T32 l0_1 x3_1).f6).length c647_6)).heap[gb645]? = some (.cells #[.int .i64 a0_0, .slice (some ad647) l0_1.length c0_1] 46 (0, 0))) := ⟨by refine bp ?_; refine blk_far ?_ NB645_648.out _; refine bp ?_; refine blk_far ?_ NB645_648.out _; refine bp ?_; refine blk_far ?_ NB645_648.out _; refine bp ?_; refine blk_far ?_ NB645_648.out _; refine bp ?_; refine blk_far ?_ NB645_648.out _; refine bp ?_; refine blk_far ?_ NB645_648.out _; refine bp ?_; refine blk_far ?_ NB645_648.out _; refine bp ?_; exact BK645.out⟩
       have n1_ : Aside0 ((((((((w7.setCell ⟨gb648, 0, none⟩ (.string ((rd_T32 l0_1 x3_1).f0))).setCell ⟨gb648, 1, none⟩ (.int .i64 ((rd_T32 l0_1 x3_1).f1))).setCell ⟨gb648, 2, none⟩ (.int .i64 ((rd_T32 l0_1 x3_1).f2))).setCell ⟨gb648, 3, none⟩ (.string ((rd_T32 l0_1 x3_1).f3))).setCell ⟨gb648, 4, none⟩ (.slice A647_4 ((rd_T32 l0_1 x3_1).f4).length c647_4)).setCell ⟨gb648, 5, none⟩ (.slice A647_5 ((rd_T32 l0_1 x3_1).f5).length c647_5)).setCell ⟨gb648, 6, none⟩ (.slice A647_6 ((rd_T32 l0_1 x3_1).f6).length c647_6)).heap[gb648]? = some (.cells #[.string ((rd_T32 l0_1 x3_1).f0), .int .i64 ((rd_T32 l0_1 x3_1).f1), .int .i64 ((rd_T32 l0_1 x3_1).f2), .string ((rd_T32 l0_1 x3_1).f3), .slice A647_4 ((rd_T32 l0_1 x3_1).f4).length c647_4, .slice A647_5 ((rd_T32 l0_1 x3_1).f5).length c647_5, .slice A647_6 ((rd_T32 l0_1 x3_1).f6).length c647_6] 32 (0, 0))) := ⟨(blk_set (blk_set (blk_set (blk_set (blk_set (blk_set (blk_set BK648.out 0 _) 1 _) 2 _) 3 _) 4 _) 5 _) 6 _)⟩
       have n2_ : Aside0 (Below w.heap.size w (((((((w7.setCell ⟨gb648, 0, none⟩ (.string ((rd_T32 l0_1 x3_1).f0))).setCell ⟨gb648, 1, none⟩ (.int .i64 ((rd_T32 l0_1 x3_1).f1))).setCell ⟨gb648, 2, none⟩ (.int .i64 ((rd_T32 l0_1 x3_1).f2))).setCell ⟨gb648, 3, none⟩ (.string ((rd_T32 l0_1 x3_1).f3))).setCell ⟨gb648, 4, none⟩ (.slice A647_4 ((rd_T32 l0_1 x3_1).f4).length c647_4)).setCell ⟨gb648, 5, none⟩ (.slice A647_5 ((rd_T32 l0_1 x3_1).f5).length c647_5)).setCell ⟨gb648, 6, none⟩ (.slice A647_6 ((rd_T32 l0_1 x3_1).f6).length c647_6))) := ⟨by exact b2 HB GE645 GE648⟩
       (try clear BK645)
       (try clear BK648)
       (try clear HB)
       generalize (((((((w7.setCell ⟨gb648, 0, none⟩ (.string ((rd_T32 l0_1 x3_1).f0))).setCell ⟨gb648, 1, none⟩ (.int .i64 ((rd_T32 l0_1 x3_1).f1))).setCell ⟨gb648, 2, none⟩ (.int .i64 ((rd_T32 l0_1 x3_1).f2))).setCell ⟨gb648, 3, none⟩ (.string ((rd_T32 l0_1 x3_1).f3))).setCell ⟨gb648, 4, none⟩ (.slice A647_4 ((rd_T32 l0_1 x3_1).f4).length c647_4)).setCell ⟨gb648, 5, none⟩ (.slice A647_5 ((rd_T32 l0_1 x3_1).f5).length c647_5)).setCell ⟨gb648, 6, none⟩ (.slice A647_6 ((rd_T32 l0_1 x3_1).f6).length c647_6)) = w37 at n0_ n1_ n2_ ⊢
       have BK645 := n0_; have BK648 := n1_; have HB := n2_; clear n0_ n1_ n2_
       have n0_ := zq9 (blk_drew BK645.out)
       have n1_ := zq9 (blk_drew BK648.out)
       have n2_ := zq9 (zq4 HB.out)
       clear BK645; clear BK648; clear HB; have BK645 := n0_; have BK648 := n1_; have HB := n2_; clear n0_ n1_ n2_
       refine start_ (n := 31) (S := fun w' => w'.cell? ⟨gb648, 0, none⟩ = some (.string ((rd_T32 l0_1 x3_1).f0)) ∧ w'.cell? ⟨gb648, 1, none⟩ = some (.int .i64 ((rd_T32 l0_1 x3_1).f1)) ∧ w'.cell? ⟨gb648, 2, none⟩ = some (.int .i64 ((rd_T32 l0_1 x3_1).f2)) ∧ w'.cell? ⟨gb648, 3, none⟩ = some (.string ((rd_T32 l0_1 x3_1).f3)) ∧ w'.cell? ⟨gb648, 4, none⟩ = some (.slice A647_4 ((rd_T32 l0_1 x3_1).f4).length c647_4) ∧ w'.cell? ⟨gb648, 5, none⟩ = some (.slice A647_5 ((rd_T32 l0_1 x3_1).f5).length c647_5) ∧ w'.cell? ⟨gb648, 6, none⟩ = some (.slice A647_6 ((rd_T32 l0_1 x3_1).f6).length c647_6)) (ds := []) #[false, false, false, false, false, false, false, false, false, false, false, false, false, false, false, false, false, false, false, false, false, false, false, false, false, false, false, false, false, false, false] (by kernel_rfl) rfl rfl ⟨bc BK648 0, bc BK648 1, bc BK648 2, bc BK648 3, bc BK648 4, bc BK648 5, bc BK648 6⟩ (fun hHeld => ?_); refine with_tabW spec_BaseOk.tab5 spec_BaseOk.bits5 (fun HT_ HW_ => ?_)
       generalize w37.drew = w38 at BK645 BK648 HB hHeld ⊢
       refine take_ (i := 0) (N := some 17) (v := ?_) (a' := ?_) (zb 31 1) rfl rfl (take_ofW HT_.out HW_.out (by kernel_rfl)) (fun _ _ _ h => h) (Or.inl ⟨by rfl, ?_⟩) hHeld ?_ ?_
       rotate_left; ·rintro w' ⟨s0, s1, s2, s3, s4, s5, s6⟩; go_simp; with_reducible rfl
       rotate_left; ·simp only [Act.put, zq0, zq1, zq2, i64_w, i32_w]; rfl
       refine one_ (i := 1) (N := some 18) (zb 31 3) rfl rfl (one_of HT_.out (by kernel_rfl)) (by decide) (fun K hK => ?_)
       refine gs Try.func11 #[.agg #[.string ((rd_T32 l0_1 x3_1).f0), .int .i64 ((rd_T32 l0_1 x3_1).f1), .int .i64 ((rd_T32 l0_1 x3_1).f2), .string ((rd_T32 l0_1 x3_1).f3), .slice A647_4 ((rd_T32 l0_1 x3_1).f4).length c647_4, .slice A647_5 ((rd_T32 l0_1 x3_1).f5).length c647_5, .slice A647_6 ((rd_T32 l0_1 x3_1).f6).length c647_6]] ?_
       with_reducible refine (spec_EntryOk.calls k1 ((rd_T32 l0_1 x3_1).f0) ((rd_T32 l0_1 x3_1).f1) ((rd_T32 l0_1 x3_1).f2) ((rd_T32 l0_1 x3_1).f3) _ _ ((rd_T32 l0_1 x3_1).f4) _ _ ((rd_T32 l0_1 x3_1).f5) _ _ ((rd_T32 l0_1 x3_1).f6) false _ ?side1 ?side2 ?side3 ?side4 ?side5 ?side6 A10.out).mono ?_
       (case side1 => exact kc HR647_4 HB)
       (case side2 => exact HC647_4.out)
       (case side3 => exact kc HR647_5 HB)
       (case side4 => exact HC647_5.out)
       (case side5 => exact kc HR647_6 HB)
       (case side6 => exact HC647_6.out)
       rintro e w39 ⟨rfl, hb⟩
       refine ⟨_, rfl, ?_⟩
       have n0_ := zq9 (zq30 (g := gb645) (o := .cells #[.int .i64 a0_0, .slice (some ad647) l0_1.length c0_1] 46 (0, 0)) (by exact bk BK645) hb)
       have n1_ := zq9 (zq30 (g := gb648) (o := .cells #[.string ((rd_T32 l0_1 x3_1).f0), .int .i64 ((rd_T32 l0_1 x3_1).f1), .int .i64 ((rd_T32 l0_1 x3_1).f2), .string ((rd_T32 l0_1 x3_1).f3), .slice A647_4 ((rd_T32 l0_1 x3_1).f4).length c647_4, .slice A647_5 ((rd_T32 l0_1 x3_1).f5).length c647_5, .slice A647_6 ((rd_T32 l0_1 x3_1).f6).length c647_6] 32 (0, 0)) (by exact bk BK648) hb)
       have n2_ := zq9 (zq27 (by exact b2 HB GE645 GE648) hb)
       clear BK645; clear BK648; clear HB; have BK645 := n0_; have BK648 := n1_; have HB := n2_; clear n0_ n1_ n2_
       (try clear hb)
       (try clear hb2)
       (try clear hk)
       (try clear hi)
       refine hK.out _ _ ⟨bc BK648 0, bc BK648 1, bc BK648 2, bc BK648 3, bc BK648 4, bc BK648 5, bc BK648 6⟩ (fun hHeld => ?_)
       clear hK K
       refine norm_ (a' := ?_) ?_ ?_
       rotate_left; ·show Act.put _ (some 18) _ = _; simp only [Act.put, zq0, zq1, zq2, i64_w, i32_w]; rfl
       refine pa HT_ 2 19 (zb 31 7) ?_; refine pa HT_ 3 20 (zb 31 15) ?_; refine pb HT_ 4 21 (zb 31 31) ?_; refine pb HT_ 5 22 (zb 31 63) ?_; refine pb HT_ 6 23 (zb 31 127) ?_; refine pb HT_ 7 24 (zb 31 255) ?_; refine pb HT_ 8 25 (zb 31 511) ?_; refine pb HT_ 9 26 (zb 31 1023) ?_; refine pb HT_ 10 27 (zb 31 2047) ?_; refine pb HT_ 11 28 (zb 31 4095) ?_; refine pb HT_ 12 29 (zb 31 8191) ?_; refine pb HT_ 13 30 (zb 31 16383) ?_
       refine pa HT_ 14 31 (zb 31 32767) ?_; refine pa HT_ 15 32 (zb 31 65535) ?_; refine pb HT_ 16 33 (zb 31 131071) ?_; refine pb HT_ 17 34 (zb 31 262143) ?_; refine pb HT_ 18 35 (zb 31 524287) ?_; refine pb HT_ 19 36 (zb 31 1048575) ?_; refine pb HT_ 20 37 (zb 31 2097151) ?_; refine pb HT_ 21 38 (zb 31 4194303) ?_; refine pb HT_ 22 39 (zb 31 8388607) ?_; refine pb HT_ 23 40 (zb 31 16777215) ?_; refine pb HT_ 24 41 (zb 31 33554431) ?_
       refine pb HT_ 25 42 (zb 31 67108863) ?_; refine pb HT_ 26 43 (zb 31 134217727) ?_; refine pb HT_ 27 44 (zb 31 268435455) ?_; refine pb HT_ 28 45 (zb 31 536870911) ?_; refine pb HT_ 29 46 (zb 31 1073741823) ?_; refine pa HT_ 30 47 (zb 31 2147483647) ?_
       refine done_ (done_of HT_.out (by kernel_rfl)) ?_
       try go_wp2
       go_meet
       case rel => exact ⟨_, (true), (by first | rfl | (simp; done) | (simp [*]; done)), H', ⟨by have := HK1.out; first | omega | exact Nat.le_refl _⟩, ⟨by refine bp ?_; exact BK645.out⟩, ⟨by refine bp ?_; exact BK648.out⟩, ⟨by exact b2 HB GE645 GE648⟩⟩
     case rest =>
      clear HC5
      try clear c1
      try clear c2
      try clear p2
      try clear c3
      try clear c6
      try clear c11
      try clear c27
      try clear c27b0
      try clear c29
      try clear c30
      obtain ⟨kq, x47_4, rfl, HA, HJ4, BK645, BK648, HB⟩ := hcut
      cases kq with
      | zero => exact absurd HA.out (by simp [spec_BaseOk.j1])
      | succ kj4 =>
       have H := HA.out; clear HA
       simp only [spec_BaseOk.j1] at H
       by_cases c40 : x47_4 = true
       ·subst c40
        have H1 : (some false) = some r := by rw [if_pos rfl] at H; exact H
        clear H; have H := H1; clear H1; obtain rfl := Option.some.inj H
        go_wp2
        go_ret
        exact fz (by exact b2 HB GE645 GE648)
       ·replace c40 := Bool.eq_false_iff.mpr c40
        subst c40
        have H1 : (spec_BaseOk.l0 kj4 (wrap64 (x3_1 + 1)) a0_0 l0_1) = some r := by rw [if_neg (show ¬ (false = true) by decide)] at H; exact H
        clear H; have H := H1; clear H1; have H' := zq9 H; clear H
        go_wp2
        go_roundg kj4
        case measure => have := HK1.out; have := HJ4.out; omega
        case rel => exact ⟨(wrap64 (x3_1 + 1)), (by first | rfl | (simp; done) | (simp [*]; done)), H', ⟨by have := HK1.out; have := HJ4.out; omega⟩, ⟨by refine bp ?_; exact BK645.out⟩, ⟨by exact b2 HB GE645 GE648⟩⟩
    ·rw [if_neg c4] at H
     exact absurd H (by simp)
   case' n0 =>
    rw [if_neg c3] at H; have c3b0 : decide (x3_1 < (l0_1.length : Int)) = false := decide_eq_false c3; clear c3; replace H := Option.bind_eq_some_iff.mp H; obtain ⟨t646, A410, H⟩ := H
    try dsimp only at H
    have A41 := zq9 A410; clear A410
    have hcz43_0 : wr.cell? ⟨gb645, 0, none⟩ = some (.int .i64 a0_0) := bc BK645 0
    have hcz43_1 : wr.cell? ⟨gb645, 1, none⟩ = some (.slice A0_1 l0_1.length c0_1) := bc BK645 1
    have hfz43_0 := zq6 BK645.out 0
    have hfz43_1 := zq6 BK645.out 1
    refine (Classical.em (t646 = true)).elim (fun c42 => ?p12) (fun c42 => ?n12)
    case' p12 =>
     subst c42
     have H1 : (some (decide ((l0_1.length : Int) ≤ 12))) = some r := by rw [if_pos rfl] at H; exact H
     clear H; have H := H1; clear H1; obtain rfl := Option.some.inj H
    case' n12 =>
     replace c42 := Bool.eq_false_iff.mpr c42
     subst c42
     have H1 : (some false) = some r := by rw [if_neg (show ¬ (false = true) by decide)] at H; exact H
     clear H; have H := H1; clear H1; obtain rfl := Option.some.inj H
   case p12 | n12 =>
    try go_wp2_with (first | ((with_reducible refine zq24 (f := 40) rfl ?_); refine gl (some 50) Try.func40 #[.int .i64 a0_0, .int .i64 0, .int .i64 1000000] ?_; (with_reducible refine (spec_l1In.calls a0_0 0 1000000 false _ A41.out).mono ?_); rintro e w' ⟨rfl, ⟨nd, rfl⟩⟩; refine ⟨_, rfl, ?_⟩) | ((with_reducible refine zq24 (f := 40) rfl ?_); refine gl (some 50) Try.func40 #[.int .i64 a0_0, .int .i64 0, .int .i64 1000000] ?_; (with_reducible refine (spec_l1In.calls a0_0 0 1000000 true _ A41.out).mono ?_); rintro e w' ⟨rfl, ⟨nd, rfl⟩⟩; refine ⟨_, rfl, ?_⟩))
    go_ret
    exact fz (by exact b1 HB GE645)
def spec_Match.T5 : Bool × List (List Nat × List Nat) := (true, [([], []), ([0], [0]), ([1], [1]), ([2], [2]), ([3, 2], [2, 3]), ([4, 2], [2, 4]), ([5, 2, 2], [2, 5]), ([6], [6]), ([7, 6], [6, 7]), ([6], [6]), ([9, 6], [6, 9]), ([8, 10, 6], [6, 8, 10]), ([6, 11, 2], [2, 6, 11]), ([2, 12], [2, 12]), ([13, 6], [13]), ([14], [14]), ([15, 14], [14, 15]), ([14], [14]), ([17, 14], [14, 17]), ([16, 18, 14, 14], [14, 16, 18]), ([14, 19], [14, 19]), ([20, 19, 0, 1, 2, 3, 4, 5, 6, 7, 8, 9, 10, 11, 12, 13, 14, 15, 16, 17, 18, 19, 20], [20])])
def spec_Match.B5 : List Nat := [0, 1, 3, 7, 15, 31, 63, 127, 255, 127, 639, 2047, 4095, 8191, 16383, 32767, 65535, 32767, 163839, 524287, 1048575, 2097151]
theorem spec_Match.tab5 : rtab .any (opsOf Try.f61 5) = spec_Match.T5 := by kernel_rfl
theorem spec_Match.bits5 : waitsOk spec_Match.T5.2 spec_Match.B5 = true := by kernel_rfl
set_option maxHeartbeats 8000000 in
set_option maxRecDepth 100000 in
theorem spec_Match.calls (k : Nat) : ∀ (a0 : ByteArray) (a1 : ByteArray) (r : Bool) (w : World) (h : spec_Match.f k a0 a1 = some r),
  Calls Try.prog 61 #[.string a0, .string a1] w fun e w' => e = .returned (.bool r) ∧ Below w.heap.size w w' := by
 induction k using Nat.strongRecOn with
 | _ k ih =>
 intro a0 a1 r w h
 cases k with
 | zero => exact absurd h (by simp [spec_Match.f])
 | succ k =>
 simp only [spec_Match.f] at h
 have HB := zq9 (Below.refl w.heap.size w)
 have H : (if a0.toList = ([] : List UInt8) then (some (a1.toList == ([] : List UInt8))) else (if 0 < (a0.size : Int) then (if (bt a0 0) = 42 then (if 1 ≤ (a0.size : Int) then ((spec_Match.f k (a0.extract 1 a0.size) a1).bind fun t706 => (if t706 = true then (some true) else (if a1.toList = ([] : List UInt8) then (some false) else (if 1 ≤ (a1.size : Int) then ((spec_Match.f k a0 (a1.extract 1 a1.size)).bind fun t707 => (some t707)) else (none))))) else (none)) else (if a1.toList = ([] : List UInt8) then (some false) else (if (bt a0 0) = 63 then (if 1 ≤ (a0.size : Int) then (if 1 ≤ (a1.size : Int) then ((spec_Match.f k (a0.extract 1 a0.size) (a1.extract 1 a1.size)).bind fun t708 => (some t708)) else (none)) else (none)) else (if 0 < (a1.size : Int) then (if (bt a0 0) = (bt a1 0) then (if 1 ≤ (a0.size : Int) then (if 1 ≤ (a1.size : Int) then ((spec_Match.f k (a0.extract 1 a0.size) (a1.extract 1 a1.size)).bind fun t709 => (some t709)) else (none)) else (none)) else (some false)) else (none))))) else (none))) = some r := h
 clear h
 by_cases c3 : a0.toList = ([] : List UInt8)
 ·rw [if_pos c3] at H
  have c3b0 : (a0.toList == ([] : List UInt8)) = true := beq_iff_eq.mpr c3
  have c3b1 : (a0.toList != ([] : List UInt8)) = false := bne_eq_false_iff_eq.mpr c3
  clear c3; obtain rfl := Option.some.inj H
  go_enter Try.func61, Try.ntmps61
  go_wp2
  go_ret
  exact fz (by exact bl HB)
 ·rw [if_neg c3] at H
  have c3b0 : (a0.toList == ([] : List UInt8)) = false := beq_eq_false_iff_ne.mpr c3
  have c3b1 : (a0.toList != ([] : List UInt8)) = true := bne_iff_ne.mpr c3
  by_cases c4 : 0 < (a0.size : Int)
  ·rw [if_pos c4] at H; have c4b0 : decide (0 < (a0.size : Int)) = true := decide_eq_true c4
   have c4b1 : decide (0 < a0.size) = true := decide_eq_true (by omega)
   clear c4
   by_cases c6 : (bt a0 0) = 42
   ·rw [if_pos c6] at H
    have c6b0 : ((bt a0 0) == 42) = true := beq_iff_eq.mpr c6
    have c6b1 : ((bt a0 0) != 42) = false := bne_eq_false_iff_eq.mpr c6
    clear c6
    by_cases c7 : 1 ≤ (a0.size : Int)
    ·rw [if_pos c7] at H
     have c7b0 := eq_true c7
     have c7b1 : decide (1 ≤ (a0.size : Int)) = true := decide_eq_true c7; clear c7; replace H := Option.bind_eq_some_iff.mp H; obtain ⟨t706, A80, H⟩ := H
     try dsimp only at H
     have A8 := zq9 A80; clear A80
     by_cases c9 : t706 = true
     ·subst c9
      have H1 : (some true) = some r := by rw [if_pos rfl] at H; exact H
      clear H; have H := H1; clear H1; obtain rfl := Option.some.inj H
      have p5 : 0 ≤ (0 : Int) := (by omega)
      have q5 : 0 < a0.size := (by have : (0 : Int) < (a0.size : Int) := of_decide_eq_true ‹_›; omega)
      have hx5 : ∀ h : 0 < a0.size, ((a0[0]'h).toNat : Int) = bt a0 0 := bt_at a0 0
      clear p5
      have qi5 : (0 < (a0.size : Int)) = True := eq_true (of_decide_eq_true ‹_›)
      replace q5 := eq_true q5
      go_enter Try.func61, Try.ntmps61
      go_wp2_with (first | ((with_reducible refine zq24 (f := 61) rfl ?_); refine gl (some 15) Try.func61 #[.string (a0.extract 1 a0.size), .string a1] ?_; (with_reducible refine (ih k (by omega) (a0.extract 1 a0.size) a1 true _ A8.out).mono ?_); rintro e w10 ⟨rfl, hb⟩; refine ⟨_, rfl, ?_⟩; have n0_ := zq9 (zq27 (by exact bl HB) hb); clear HB; have HB := n0_; clear n0_; (try clear hb); (try clear hb2); (try clear hk); (try clear hi)))
      go_ret
      exact fz (by exact bl HB)
     ·replace c9 := Bool.eq_false_iff.mpr c9
      subst c9
      have H1 : (if a1.toList = ([] : List UInt8) then (some false) else (if 1 ≤ (a1.size : Int) then ((spec_Match.f k a0 (a1.extract 1 a1.size)).bind fun t707 => (some t707)) else (none))) = some r := by rw [if_neg (show ¬ (false = true) by decide)] at H; exact H
      clear H; have H := H1; clear H1
      by_cases c11 : a1.toList = ([] : List UInt8)
      ·rw [if_pos c11] at H
       have c11b0 : (a1.toList == ([] : List UInt8)) = true := beq_iff_eq.mpr c11
       have c11b1 : (a1.toList != ([] : List UInt8)) = false := bne_eq_false_iff_eq.mpr c11
       clear c11; obtain rfl := Option.some.inj H
       have p5 : 0 ≤ (0 : Int) := (by omega)
       have q5 : 0 < a0.size := (by have : (0 : Int) < (a0.size : Int) := of_decide_eq_true ‹_›; omega)
       have hx5 : ∀ h : 0 < a0.size, ((a0[0]'h).toNat : Int) = bt a0 0 := bt_at a0 0
       clear p5
       have qi5 : (0 < (a0.size : Int)) = True := eq_true (of_decide_eq_true ‹_›)
       replace q5 := eq_true q5
       go_enter Try.func61, Try.ntmps61
       go_wp2_with (first | ((with_reducible refine zq24 (f := 61) rfl ?_); refine gl (some 15) Try.func61 #[.string (a0.extract 1 a0.size), .string a1] ?_; (with_reducible refine (ih k (by omega) (a0.extract 1 a0.size) a1 false _ A8.out).mono ?_); rintro e w12 ⟨rfl, hb⟩; refine ⟨_, rfl, ?_⟩; have n0_ := zq9 (zq27 (by exact bl HB) hb); clear HB; have HB := n0_; clear n0_; (try clear hb); (try clear hb2); (try clear hk); (try clear hi)))
       go_ret
       exact fz (by exact bl HB)
      ·rw [if_neg c11] at H
       have c11b0 : (a1.toList == ([] : List UInt8)) = false := beq_eq_false_iff_ne.mpr c11
       have c11b1 : (a1.toList != ([] : List UInt8)) = true := bne_iff_ne.mpr c11
       by_cases c13 : 1 ≤ (a1.size : Int)
       ·rw [if_pos c13] at H
        have c13b0 := eq_true c13
        have c13b1 : decide (1 ≤ (a1.size : Int)) = true := decide_eq_true c13; clear c13; replace H := Option.bind_eq_some_iff.mp H; obtain ⟨t707, A140, H⟩ := H
        try dsimp only at H
        have A14 := zq9 A140; clear A140; obtain rfl := Option.some.inj H
        have p5 : 0 ≤ (0 : Int) := (by omega)
        have q5 : 0 < a0.size := (by have : (0 : Int) < (a0.size : Int) := of_decide_eq_true ‹_›; omega)
        have hx5 : ∀ h : 0 < a0.size, ((a0[0]'h).toNat : Int) = bt a0 0 := bt_at a0 0
        clear p5
        have qi5 : (0 < (a0.size : Int)) = True := eq_true (of_decide_eq_true ‹_›)
        replace q5 := eq_true q5
        go_enter Try.func61, Try.ntmps61
        go_wp2_with (first | ((with_reducible refine zq24 (f := 61) rfl ?_); refine gl (some 15) Try.func61 #[.string (a0.extract 1 a0.size), .string a1] ?_; (with_reducible refine (ih k (by omega) (a0.extract 1 a0.size) a1 false _ A8.out).mono ?_); rintro e w15 ⟨rfl, hb⟩; refine ⟨_, rfl, ?_⟩; have n0_ := zq9 (zq27 (by exact bl HB) hb); clear HB; have HB := n0_; clear n0_; (try clear hb); (try clear hb2); (try clear hk); (try clear hi)) | (go_at_call 61; (with_reducible refine (ih k (by omega) a0 (a1.extract 1 a1.size) t707 _ A14.out).mono ?_); rintro e w16 ⟨rfl, hb⟩; have n0_ := zq9 (zq27 (by exact bl HB) hb); clear HB; have HB := n0_; clear n0_; (try clear hb); (try clear hb2); (try clear hk); (try clear hi)))
        go_ret
        exact fz (by exact bl HB)
       ·rw [if_neg c13] at H
        exact absurd H (by simp)
    ·rw [if_neg c7] at H
     exact absurd H (by simp)
   ·rw [if_neg c6] at H
    have c6b0 : ((bt a0 0) == 42) = false := beq_eq_false_iff_ne.mpr c6
    have c6b1 : ((bt a0 0) != 42) = true := bne_iff_ne.mpr c6
    by_cases c17 : a1.toList = ([] : List UInt8)
    ·rw [if_pos c17] at H
     have c17b0 : (a1.toList == ([] : List UInt8)) = true := beq_iff_eq.mpr c17
     have c17b1 : (a1.toList != ([] : List UInt8)) = false := bne_eq_false_iff_eq.mpr c17
     clear c17; obtain rfl := Option.some.inj H
     have p5 : 0 ≤ (0 : Int) := (by omega)
     have q5 : 0 < a0.size := (by have : (0 : Int) < (a0.size : Int) := of_decide_eq_true ‹_›; omega)
     have hx5 : ∀ h : 0 < a0.size, ((a0[0]'h).toNat : Int) = bt a0 0 := bt_at a0 0
     clear p5
     have qi5 : (0 < (a0.size : Int)) = True := eq_true (of_decide_eq_true ‹_›)
     replace q5 := eq_true q5
     go_enter Try.func61, Try.ntmps61
     try go_wp2
     have n0_ := zq9 (zq4 HB.out)
     clear HB; have HB := n0_; clear n0_
     refine start_ (n := 22) (S := fun w' => True) (ds := []) #[false, false, false, false, false, false, false, false, false, false, false, false, false, false, false, false, false, false, false, false, false, false] (by kernel_rfl) rfl rfl trivial (fun hHeld => ?_); refine with_tabW spec_Match.tab5 spec_Match.bits5 (fun HT_ HW_ => ?_)
     generalize w.drew = w18 at HB hHeld ⊢
     refine pa HT_ 0 26 (zb 22 1) ?_; refine pa HT_ 1 27 (zb 22 3) ?_; refine pa HT_ 2 28 (zb 22 7) ?_; refine pb HT_ 3 29 (zb 22 15) ?_; refine pb HT_ 4 30 (zb 22 31) ?_; refine pb HT_ 5 31 (zb 22 63) ?_; refine pb HT_ 6 32 (zb 22 127) ?_; refine pb HT_ 7 33 (zb 22 255) ?_; refine pb HT_ 8 34 (zb 22 511) ?_; refine pb HT_ 9 35 (zb 22 1023) ?_; refine pb HT_ 10 36 (zb 22 2047) ?_; refine pb HT_ 11 37 (zb 22 4095) ?_
     refine pb HT_ 12 38 (zb 22 8191) ?_; refine pa HT_ 13 39 (zb 22 16383) ?_; refine pa HT_ 14 40 (zb 22 32767) ?_; refine pb HT_ 15 41 (zb 22 65535) ?_; refine pb HT_ 16 42 (zb 22 131071) ?_; refine pb HT_ 17 43 (zb 22 262143) ?_; refine pb HT_ 18 44 (zb 22 524287) ?_; refine pb HT_ 19 45 (zb 22 1048575) ?_; refine pa HT_ 20 46 (zb 22 2097151) ?_; refine pa HT_ 21 4 (zb 22 4194303) ?_
     refine done_ (done_of HT_.out (by kernel_rfl)) ?_
     try go_wp2
     go_ret
     exact fz (by exact bl HB)
    ·rw [if_neg c17] at H
     have c17b0 : (a1.toList == ([] : List UInt8)) = false := beq_eq_false_iff_ne.mpr c17
     have c17b1 : (a1.toList != ([] : List UInt8)) = true := bne_iff_ne.mpr c17
     by_cases c20 : (bt a0 0) = 63
     ·rw [if_pos c20] at H
      have c20b0 : ((bt a0 0) == 63) = true := beq_iff_eq.mpr c20
      have c20b1 : ((bt a0 0) != 63) = false := bne_eq_false_iff_eq.mpr c20
      clear c20
      by_cases c21 : 1 ≤ (a0.size : Int)
      ·rw [if_pos c21] at H
       have c21b0 := eq_true c21
       have c21b1 : decide (1 ≤ (a0.size : Int)) = true := decide_eq_true c21; clear c21
       by_cases c22 : 1 ≤ (a1.size : Int)
       ·rw [if_pos c22] at H
        have c22b0 := eq_true c22
        have c22b1 : decide (1 ≤ (a1.size : Int)) = true := decide_eq_true c22; clear c22; replace H := Option.bind_eq_some_iff.mp H; obtain ⟨t708, A230, H⟩ := H
        try dsimp only at H
        have A23 := zq9 A230; clear A230; obtain rfl := Option.some.inj H
        have p5 : 0 ≤ (0 : Int) := (by omega)
        have q5 : 0 < a0.size := (by have : (0 : Int) < (a0.size : Int) := of_decide_eq_true ‹_›; omega)
        have hx5 : ∀ h : 0 < a0.size, ((a0[0]'h).toNat : Int) = bt a0 0 := bt_at a0 0
        clear p5
        have qi5 : (0 < (a0.size : Int)) = True := eq_true (of_decide_eq_true ‹_›)
        replace q5 := eq_true q5
        go_enter Try.func61, Try.ntmps61
        try go_wp2
        have n0_ := zq9 (zq4 HB.out)
        clear HB; have HB := n0_; clear n0_
        have p19 : 0 ≤ (0 : Int) := (by omega)
        have q19 : 0 < a0.size := (by have : (0 : Int) < (a0.size : Int) := of_decide_eq_true ‹_›; omega)
        have hx19 : ∀ h : 0 < a0.size, ((a0[0]'h).toNat : Int) = bt a0 0 := bt_at a0 0
        clear p19
        have qi19 : (0 < (a0.size : Int)) = True := eq_true (of_decide_eq_true ‹_›)
        replace q19 := eq_true q19
        refine start_ (n := 22) (S := fun w' => True) (ds := []) #[false, false, false, false, false, false, false, false, false, false, false, false, false, false, false, false, false, false, false, false, false, false] (by kernel_rfl) rfl rfl trivial (fun hHeld => ?_); refine with_tabW spec_Match.tab5 spec_Match.bits5 (fun HT_ HW_ => ?_)
        generalize w.drew = w24 at HB hHeld ⊢
        refine pa HT_ 0 26 (zb 22 1) ?_; refine pa HT_ 1 27 (zb 22 3) ?_; refine pa HT_ 2 28 (zb 22 7) ?_; refine pa HT_ 3 29 (zb 22 15) ?_
        refine take_ (i := 4) (N := some 30) (v := ?_) (a' := ?_) (zb 22 31) rfl rfl (take_ofW HT_.out HW_.out (by kernel_rfl)) (fun _ _ _ h => h) (Or.inl ⟨by rfl, ?_⟩) hHeld ?_ ?_
        rotate_left; ·intro w' _; go_simp; with_reducible rfl
        rotate_left; ·simp only [Act.put, zq0, zq1, zq2, i64_w, i32_w]; rfl
        refine pa HT_ 5 31 (zb 22 63) ?_; refine pa HT_ 6 32 (zb 22 127) ?_; refine pb HT_ 7 33 (zb 22 255) ?_; refine pb HT_ 8 34 (zb 22 511) ?_; refine pb HT_ 9 35 (zb 22 1023) ?_; refine pb HT_ 10 36 (zb 22 2047) ?_; refine pb HT_ 11 37 (zb 22 4095) ?_; refine pa HT_ 12 38 (zb 22 8191) ?_; refine pa HT_ 13 39 (zb 22 16383) ?_; refine pa HT_ 14 40 (zb 22 32767) ?_; refine pa HT_ 15 41 (zb 22 65535) ?_
        refine pa HT_ 16 42 (zb 22 131071) ?_; refine pa HT_ 17 43 (zb 22 262143) ?_; refine pa HT_ 18 44 (zb 22 524287) ?_
        refine one_ (i := 19) (N := some 45) (zb 22 1048575) rfl rfl (one_of HT_.out (by kernel_rfl)) (by decide) (fun K hK => ?_)
        refine gs Try.func61 #[.string (a0.extract 1 a0.size), .string (a1.extract 1 a1.size)] ?_
        with_reducible refine (ih k (by omega) (a0.extract 1 a0.size) (a1.extract 1 a1.size) t708 _ A23.out).mono ?_
        rintro e w25 ⟨rfl, hb⟩
        refine ⟨_, rfl, ?_⟩
        have n0_ := zq9 (zq27 (by exact bl HB) hb)
        clear HB; have HB := n0_; clear n0_
        (try clear hb)
        (try clear hb2)
        (try clear hk)
        (try clear hi)
        refine hK.out _ _ trivial (fun hHeld => ?_)
        clear hK K
        refine norm_ (a' := ?_) ?_ ?_
        rotate_left; ·show Act.put _ (some 45) _ = _; simp only [Act.put, zq0, zq1, zq2, i64_w, i32_w]; rfl
        refine pa HT_ 20 46 (zb 22 2097151) ?_; refine pa HT_ 21 4 (zb 22 4194303) ?_
        refine done_ (done_of HT_.out (by kernel_rfl)) ?_
        try go_wp2
        go_ret
        exact fz (by exact bl HB)
       ·rw [if_neg c22] at H
        exact absurd H (by simp)
      ·rw [if_neg c21] at H
       exact absurd H (by simp)
     ·rw [if_neg c20] at H
      have c20b0 : ((bt a0 0) == 63) = false := beq_eq_false_iff_ne.mpr c20
      have c20b1 : ((bt a0 0) != 63) = true := bne_iff_ne.mpr c20
      by_cases c27 : 0 < (a1.size : Int)
      ·rw [if_pos c27] at H; have c27b0 : decide (0 < (a1.size : Int)) = true := decide_eq_true c27
       have c27b1 : decide (0 < a1.size) = true := decide_eq_true (by omega)
       clear c27
       by_cases c29 : (bt a0 0) = (bt a1 0)
       ·rw [if_pos c29] at H
        have c29b0 : ((bt a0 0) == (bt a1 0)) = true := beq_iff_eq.mpr c29
        have c29b1 : ((bt a0 0) != (bt a1 0)) = false := bne_eq_false_iff_eq.mpr c29
        clear c29
        by_cases c30 : 1 ≤ (a0.size : Int)
        ·rw [if_pos c30] at H
         have c30b0 := eq_true c30
         have c30b1 : decide (1 ≤ (a0.size : Int)) = true := decide_eq_true c30; clear c30
         by_cases c31 : 1 ≤ (a1.size : Int)
         ·rw [if_pos c31] at H
          have c31b0 := eq_true c31
          have c31b1 : decide (1 ≤ (a1.size : Int)) = true := decide_eq_true c31; clear c31; replace H := Option.bind_eq_some_iff.mp H; obtain ⟨t709, A320, H⟩ := H
          try dsimp only at H
          have A32 := zq9 A320; clear A320; obtain rfl := Option.some.inj H
          have p5 : 0 ≤ (0 : Int) := (by omega)
          have q5 : 0 < a0.size := (by have : (0 : Int) < (a0.size : Int) := of_decide_eq_true ‹_›; omega)
          have hx5 : ∀ h : 0 < a0.size, ((a0[0]'h).toNat : Int) = bt a0 0 := bt_at a0 0
          clear p5
          have qi5 : (0 < (a0.size : Int)) = True := eq_true (of_decide_eq_true ‹_›)
          replace q5 := eq_true q5
          go_enter Try.func61, Try.ntmps61
          try go_wp2
          have n0_ := zq9 (zq4 HB.out)
          clear HB; have HB := n0_; clear n0_
          have p19 : 0 ≤ (0 : Int) := (by omega)
          have q19 : 0 < a0.size := (by have : (0 : Int) < (a0.size : Int) := of_decide_eq_true ‹_›; omega)
          have hx19 : ∀ h : 0 < a0.size, ((a0[0]'h).toNat : Int) = bt a0 0 := bt_at a0 0
          clear p19
          have qi19 : (0 < (a0.size : Int)) = True := eq_true (of_decide_eq_true ‹_›)
          replace q19 := eq_true q19
          have p26 : 0 ≤ (0 : Int) := (by omega)
          have q26 : 0 < a0.size := (by have : (0 : Int) < (a0.size : Int) := of_decide_eq_true ‹_›; omega)
          have hx26 : ∀ h : 0 < a0.size, ((a0[0]'h).toNat : Int) = bt a0 0 := bt_at a0 0
          clear p26
          have qi26 : (0 < (a0.size : Int)) = True := eq_true (of_decide_eq_true ‹_›)
          replace q26 := eq_true q26
          have p28 : 0 ≤ (0 : Int) := (by omega)
          have q28 : 0 < a1.size := (by have : (0 : Int) < (a1.size : Int) := of_decide_eq_true ‹_›; omega)
          have hx28 : ∀ h : 0 < a1.size, ((a1[0]'h).toNat : Int) = bt a1 0 := bt_at a1 0
          clear p28
          have qi28 : (0 < (a1.size : Int)) = True := eq_true (of_decide_eq_true ‹_›)
          replace q28 := eq_true q28
          refine start_ (n := 22) (S := fun w' => True) (ds := []) #[false, false, false, false, false, false, false, false, false, false, false, false, false, false, false, false, false, false, false, false, false, false] (by kernel_rfl) rfl rfl trivial (fun hHeld => ?_); refine with_tabW spec_Match.tab5 spec_Match.bits5 (fun HT_ HW_ => ?_)
          generalize w.drew = w33 at HB hHeld ⊢
          refine pa HT_ 0 26 (zb 22 1) ?_; refine pa HT_ 1 27 (zb 22 3) ?_; refine pa HT_ 2 28 (zb 22 7) ?_; refine pa HT_ 3 29 (zb 22 15) ?_
          refine take_ (i := 4) (N := some 30) (v := ?_) (a' := ?_) (zb 22 31) rfl rfl (take_ofW HT_.out HW_.out (by kernel_rfl)) (fun _ _ _ h => h) (Or.inl ⟨by rfl, ?_⟩) hHeld ?_ ?_
          rotate_left; ·intro w' _; go_simp; with_reducible rfl
          rotate_left; ·simp only [Act.put, zq0, zq1, zq2, i64_w, i32_w]; rfl
          refine pa HT_ 5 31 (zb 22 63) ?_; refine pa HT_ 6 32 (zb 22 127) ?_; refine pa HT_ 7 33 (zb 22 255) ?_; refine pa HT_ 9 35 (zb 22 767) ?_
          refine take_ (i := 8) (N := some 34) (v := ?_) (a' := ?_) (zb 22 1023) rfl rfl (take_ofW HT_.out HW_.out (by kernel_rfl)) (fun _ _ _ h => h) (Or.inl ⟨by rfl, ?_⟩) hHeld ?_ ?_
          rotate_left; ·intro w' _; go_simp; with_reducible rfl
          rotate_left; ·simp only [Act.put, zq0, zq1, zq2, i64_w, i32_w]; rfl
          refine take_ (i := 10) (N := some 36) (v := ?_) (a' := ?_) (zb 22 2047) rfl rfl (take_ofW HT_.out HW_.out (by kernel_rfl)) (fun _ _ _ h => h) (Or.inl ⟨by rfl, ?_⟩) hHeld ?_ ?_
          rotate_left; ·intro w' _; go_simp; with_reducible rfl
          rotate_left; ·simp only [Act.put, zq0, zq1, zq2, i64_w, i32_w]; rfl
          refine pa HT_ 11 37 (zb 22 4095) ?_; refine pa HT_ 12 38 (zb 22 8191) ?_; refine pa HT_ 13 39 (zb 22 16383) ?_; refine pa HT_ 14 40 (zb 22 32767) ?_; refine pa HT_ 15 41 (zb 22 65535) ?_; refine pa HT_ 16 42 (zb 22 131071) ?_; refine pa HT_ 17 43 (zb 22 262143) ?_; refine pa HT_ 18 44 (zb 22 524287) ?_
          refine one_ (i := 19) (N := some 45) (zb 22 1048575) rfl rfl (one_of HT_.out (by kernel_rfl)) (by decide) (fun K hK => ?_)
          refine gs Try.func61 #[.string (a0.extract 1 a0.size), .string (a1.extract 1 a1.size)] ?_
          with_reducible refine (ih k (by omega) (a0.extract 1 a0.size) (a1.extract 1 a1.size) t709 _ A32.out).mono ?_
          rintro e w34 ⟨rfl, hb⟩
          refine ⟨_, rfl, ?_⟩
          have n0_ := zq9 (zq27 (by exact bl HB) hb)
          clear HB; have HB := n0_; clear n0_
          (try clear hb)
          (try clear hb2)
          (try clear hk)
          (try clear hi)
          refine hK.out _ _ trivial (fun hHeld => ?_)
          clear hK K
          refine norm_ (a' := ?_) ?_ ?_
          rotate_left; ·show Act.put _ (some 45) _ = _; simp only [Act.put, zq0, zq1, zq2, i64_w, i32_w]; rfl
          refine pa HT_ 20 46 (zb 22 2097151) ?_; refine pa HT_ 21 4 (zb 22 4194303) ?_
          refine done_ (done_of HT_.out (by kernel_rfl)) ?_
          try go_wp2
          go_ret
          exact fz (by exact bl HB)
         ·rw [if_neg c31] at H
          exact absurd H (by simp)
        ·rw [if_neg c30] at H
         exact absurd H (by simp)
       ·rw [if_neg c29] at H
        have c29b0 : ((bt a0 0) == (bt a1 0)) = false := beq_eq_false_iff_ne.mpr c29
        have c29b1 : ((bt a0 0) != (bt a1 0)) = true := bne_iff_ne.mpr c29
        obtain rfl := Option.some.inj H
        have p5 : 0 ≤ (0 : Int) := (by omega)
        have q5 : 0 < a0.size := (by have : (0 : Int) < (a0.size : Int) := of_decide_eq_true ‹_›; omega)
        have hx5 : ∀ h : 0 < a0.size, ((a0[0]'h).toNat : Int) = bt a0 0 := bt_at a0 0
        clear p5
        have qi5 : (0 < (a0.size : Int)) = True := eq_true (of_decide_eq_true ‹_›)
        replace q5 := eq_true q5
        go_enter Try.func61, Try.ntmps61
        try go_wp2
        have n0_ := zq9 (zq4 HB.out)
        clear HB; have HB := n0_; clear n0_
        have p19 : 0 ≤ (0 : Int) := (by omega)
        have q19 : 0 < a0.size := (by have : (0 : Int) < (a0.size : Int) := of_decide_eq_true ‹_›; omega)
        have hx19 : ∀ h : 0 < a0.size, ((a0[0]'h).toNat : Int) = bt a0 0 := bt_at a0 0
        clear p19
        have qi19 : (0 < (a0.size : Int)) = True := eq_true (of_decide_eq_true ‹_›)
        replace q19 := eq_true q19
        have p26 : 0 ≤ (0 : Int) := (by omega)
        have q26 : 0 < a0.size := (by have : (0 : Int) < (a0.size : Int) := of_decide_eq_true ‹_›; omega)
        have hx26 : ∀ h : 0 < a0.size, ((a0[0]'h).toNat : Int) = bt a0 0 := bt_at a0 0
        clear p26
        have qi26 : (0 < (a0.size : Int)) = True := eq_true (of_decide_eq_true ‹_›)
        replace q26 := eq_true q26
        have p28 : 0 ≤ (0 : Int) := (by omega)
        have q28 : 0 < a1.size := (by have : (0 : Int) < (a1.size : Int) := of_decide_eq_true ‹_›; omega)
        have hx28 : ∀ h : 0 < a1.size, ((a1[0]'h).toNat : Int) = bt a1 0 := bt_at a1 0
        clear p28
        have qi28 : (0 < (a1.size : Int)) = True := eq_true (of_decide_eq_true ‹_›)
        replace q28 := eq_true q28
        refine start_ (n := 22) (S := fun w' => True) (ds := []) #[false, false, false, false, false, false, false, false, false, false, false, false, false, false, false, false, false, false, false, false, false, false] (by kernel_rfl) rfl rfl trivial (fun hHeld => ?_); refine with_tabW spec_Match.tab5 spec_Match.bits5 (fun HT_ HW_ => ?_)
        generalize w.drew = w35 at HB hHeld ⊢
        refine pa HT_ 0 26 (zb 22 1) ?_; refine pa HT_ 1 27 (zb 22 3) ?_; refine pa HT_ 2 28 (zb 22 7) ?_; refine pa HT_ 3 29 (zb 22 15) ?_
        refine take_ (i := 4) (N := some 30) (v := ?_) (a' := ?_) (zb 22 31) rfl rfl (take_ofW HT_.out HW_.out (by kernel_rfl)) (fun _ _ _ h => h) (Or.inl ⟨by rfl, ?_⟩) hHeld ?_ ?_
        rotate_left; ·intro w' _; go_simp; with_reducible rfl
        rotate_left; ·simp only [Act.put, zq0, zq1, zq2, i64_w, i32_w]; rfl
        refine pa HT_ 5 31 (zb 22 63) ?_; refine pa HT_ 6 32 (zb 22 127) ?_; refine pa HT_ 7 33 (zb 22 255) ?_; refine pa HT_ 9 35 (zb 22 767) ?_
        refine take_ (i := 8) (N := some 34) (v := ?_) (a' := ?_) (zb 22 1023) rfl rfl (take_ofW HT_.out HW_.out (by kernel_rfl)) (fun _ _ _ h => h) (Or.inl ⟨by rfl, ?_⟩) hHeld ?_ ?_
        rotate_left; ·intro w' _; go_simp; with_reducible rfl
        rotate_left; ·simp only [Act.put, zq0, zq1, zq2, i64_w, i32_w]; rfl
        refine take_ (i := 10) (N := some 36) (v := ?_) (a' := ?_) (zb 22 2047) rfl rfl (take_ofW HT_.out HW_.out (by kernel_rfl)) (fun _ _ _ h => h) (Or.inl ⟨by rfl, ?_⟩) hHeld ?_ ?_
        rotate_left; ·intro w' _; go_simp; with_reducible rfl
        rotate_left; ·simp only [Act.put, zq0, zq1, zq2, i64_w, i32_w]; rfl
        refine pa HT_ 11 37 (zb 22 4095) ?_; refine pa HT_ 12 38 (zb 22 8191) ?_; refine pa HT_ 13 39 (zb 22 16383) ?_; refine pa HT_ 14 40 (zb 22 32767) ?_; refine pb HT_ 15 41 (zb 22 65535) ?_; refine pb HT_ 16 42 (zb 22 131071) ?_; refine pb HT_ 17 43 (zb 22 262143) ?_; refine pb HT_ 18 44 (zb 22 524287) ?_; refine pb HT_ 19 45 (zb 22 1048575) ?_; refine pa HT_ 20 46 (zb 22 2097151) ?_; refine pa HT_ 21 4 (zb 22 4194303) ?_
        refine done_ (done_of HT_.out (by kernel_rfl)) ?_
        try go_wp2
        go_ret
        exact fz (by exact bl HB)
      ·rw [if_neg c27] at H
       exact absurd H (by simp)
  ·rw [if_neg c4] at H
   exact absurd H (by simp)
set_option maxHeartbeats 8000000 in
set_option maxRecDepth 100000 in
theorem spec_BaseKeys.calls (k : Nat) (a0_0 : Int) (A0_1 : Option Addr) (c0_1 : Nat) (l0_1 : List (S32)) (a1 : ByteArray) (r : List ByteArray) (w : World) (hr0_1 : Kd.C k32 w A0_1 l0_1.length l0_1) (hc0_1 : l0_1.length ≤ c0_1) (h : spec_BaseKeys.f k a0_0 l0_1 a1 = some r) :
  Calls Try.prog 21 #[.agg #[.int .i64 a0_0, .slice A0_1 l0_1.length c0_1], .string a1] w fun e w' => ∃ v0_ : Value, e = .returned (v0_) ∧ Kd.R Kd.string 9 w' w.heap.size (fun _ => True) v0_ r ∧ Below w.heap.size w w' := by
 have hu46 := Try.underlying46; have HR0_1 := zq9 hr0_1; have HC0_1 := zq9 hc0_1; clear hr0_1 hc0_1
 have HB := zq9 (Below.refl w.heap.size w)
 have H : (spec_BaseKeys.l0 k a1 (([] : List ByteArray)) 0 a0_0 l0_1) = some r := h
 clear h
 obtain ⟨y711, hy711⟩ : ∃ y_ : List ByteArray, y_ = (([] : List ByteArray)) := ⟨_, rfl⟩
 replace H : (spec_BaseKeys.l0 k a1 y711 0 a0_0 l0_1) = some r := by first | (rw [hy711]; with_reducible exact H) | (have H2_ := (Option.bind_some _ _).symm.trans H; rw [hy711]; with_reducible exact H2_) | (have H2_ := (Option.bind_some _ _).symm.trans H; with_reducible exact H2_) | with_reducible exact H | (rw [hy711]; exact H) | exact H
 have Ny711 := zq9 hy711; clear hy711; have H' := zq9 H; clear H
 go_enter Try.func21, Try.ntmps21
 go_wp2_with (first | ((with_reducible refine zq25 (N := 2) rfl ?_); (try (refine gate_guard (by rfl) ?_; dsimp only)); refine bx 2 #[.int .i64 a0_0, .slice A0_1 l0_1.length c0_1] 46 ?_; intro gb710 hg w3 hbox hb; have n0_ := zq9 (zq27 (by exact bl HB) hb); have n1_ := zq9 (hbox); have n2_ := zq9 ((by rw [hg]; exact (zq29 (by exact bl HB)) : w.heap.size ≤ gb710)); have n3_ := n2_; clear HB; have HB := n0_; have BK710 := n1_; have GW710 := n2_; have GE710 := n3_; clear n0_ n1_ n2_ n3_; clear hb hbox hg) | ((with_reducible refine zq25 (N := 7) rfl ?_); (try (refine gate_guard (by rfl) ?_; dsimp only)); refine Kd.R_lit Kd.string _ 9 ?hg (N := 7) ?hd (xs := ([] : List ByteArray)) (inner := []) (ok := fun _ => True) (okp := fun _ => True) ?hr ?hp (fun _ hk => hk) trivial (Below.refl _ _) (Nat.le_refl _) (by simp) ?_; (case hd => rfl); (case hg => rfl); (case hr => first | (go_simp; done) | (go_simp; rfl)); (case hp => exact (Reps.none _ _)); intro v712 w4 ho5 hb hg_ hnew_; clear hg_ hnew_; (first | rw [← Ny711.out] at ho5 | (simp only [Int.reduceToNat] at ho5; rw [← Ny711.out] at ho5)); have n0_ := zq9 (Kd.R_lower ho5 (zq29 (by exact b1 HB GE710))); have n1_ := zq9 (zq30 (g := gb710) (o := .cells #[.int .i64 a0_0, .slice A0_1 l0_1.length c0_1] 46 (0, 0)) (by exact bk BK710) hb); have n2_ := zq9 (zq27 (by exact b1 HB GE710) hb); clear BK710; clear HB; have HO713 := n0_; have BK710 := n1_; have HB := n2_; clear n0_ n1_ n2_; clear hb ho5))
 go_loopg [5, 6] k (fun kq v5 v6 w' => ∃ (x5_1 : List ByteArray) (x6_1 : Int), v6 = .int .i64 x6_1 ∧ Aside0 (spec_BaseKeys.l0 kq a1 x5_1 x6_1 a0_0 l0_1 = some r) ∧ Aside0 (kq ≤ k) ∧ Aside0 (Kd.R Kd.string 9 w' w.heap.size (fun _ => True) v5 x5_1) ∧ Aside0 (w'.heap[gb710]? = some (.cells #[.int .i64 a0_0, (.slice A0_1 l0_1.length c0_1)] 46 (0, 0))) ∧ Aside0 (Below w.heap.size w w'))
 case atStart => exact ⟨(y711), (0), (by first | rfl | (simp; done) | (simp [*]; done)), H', ⟨Nat.le_refl _⟩, ⟨by (with_reducible repeat (first | apply zq10 | apply zq11 | apply zq12)); exact HO713.out⟩, ⟨by refine bp ?_; exact BK710.out⟩, ⟨by exact b1 HB GE710⟩⟩
 case round =>
  clear H'
  try clear c2
  try clear p2
  obtain ⟨x5_1, x6_1, rfl, HA, HK1, HO_5, BK710, HB⟩ := hrel
  cases gk with
  | zero => exact absurd HA.out (by simp [spec_BaseKeys.l0])
  | succ k1 =>
   have H := HA.out; clear HA
   simp only [spec_BaseKeys.l0] at H
   have HC6 := zq9 H; clear H
   go_upto_region 3 with (fail)
   go_cut [21] (fun v21 wc => ∃ (kq : Nat) (x21_5 : Bool), v21 = .bool x21_5 ∧ Aside0 (spec_BaseKeys.j1 kq a1 x5_1 x6_1 x21_5 a0_0 l0_1 = some r) ∧ Aside0 (kq ≤ k1) ∧ Aside0 (Kd.R Kd.string 9 wc w.heap.size (fun _ => True) u5 x5_1) ∧ Aside0 (wc.heap[gb710]? = some (.cells #[.int .i64 a0_0, (.slice A0_1 l0_1.length c0_1)] 46 (0, 0))) ∧ Aside0 (Below w.heap.size w wc))
   case first =>
    have H := HC6.out; clear HC6
    by_cases c7 : x6_1 < (l0_1.length : Int)
    ·rw [if_pos c7] at H; have c7b0 : decide (x6_1 < (l0_1.length : Int)) = true := decide_eq_true c7; clear c7
     (first | rw [c7b0] | (simp only [i64_w, i32_w]; rw [c7b0]) | skip)
     replace H := Option.bind_eq_some_iff.mp H; obtain ⟨t714, A80, H⟩ := H
     try dsimp only at H
     have A8 := zq9 A80; clear A80
     by_cases c9 : t714 = true
     ·subst c9
      have H1 : (spec_BaseKeys.j1 k1 a1 x5_1 x6_1 (decide ((a1.size : Int) ≤ 12)) a0_0 l0_1) = some r := by rw [if_pos rfl] at H; exact H
      clear H; have H := H1; clear H1; have H' := zq9 H; clear H
      have hcz10_0 : wr.cell? ⟨gb710, 0, none⟩ = some (.int .i64 a0_0) := bc BK710 0
      have hcz10_1 : wr.cell? ⟨gb710, 1, none⟩ = some (.slice A0_1 l0_1.length c0_1) := bc BK710 1
      have hfz10_0 := zq6 BK710.out 0
      have hfz10_1 := zq6 BK710.out 1
      go_wp2_with (first | (go_at_call 17; (with_reducible refine (spec_BaseOk.calls k1 a0_0 _ _ l0_1 true _ ?side1 ?side2 A8.out).mono ?_); (case side1 => exact kc HR0_1 HB); (case side2 => exact HC0_1.out); rintro e w11 ⟨rfl, hb⟩; have n0_ := zq9 (Kd.R_below (by exact rz HO_5) hb); have n1_ := zq9 (zq30 (g := gb710) (o := .cells #[.int .i64 a0_0, .slice A0_1 l0_1.length c0_1] 46 (0, 0)) (by exact bk BK710) hb); have n2_ := zq9 (zq27 (by exact b1 HB GE710) hb); clear HO_5; clear BK710; clear HB; have HO_5 := n0_; have BK710 := n1_; have HB := n2_; clear n0_ n1_ n2_; (try clear hb); (try clear hb2); (try clear hk); (try clear hi)))
      go_meet
      case rel => exact ⟨_, (decide ((a1.size : Int) ≤ 12)), (by first | rfl | (simp; done) | (simp [*]; done)), H', ⟨by have := HK1.out; first | omega | exact Nat.le_refl _⟩, ⟨by (with_reducible repeat (first | apply zq10 | apply zq11 | apply zq12)); exact HO_5.out⟩, ⟨by refine bp ?_; exact BK710.out⟩, ⟨by exact b1 HB GE710⟩⟩
     ·replace c9 := Bool.eq_false_iff.mpr c9
      subst c9
      have H1 : (spec_BaseKeys.j1 k1 a1 x5_1 x6_1 false a0_0 l0_1) = some r := by rw [if_neg (show ¬ (false = true) by decide)] at H; exact H
      clear H; have H := H1; clear H1; have H' := zq9 H; clear H
      have hcz12_0 : wr.cell? ⟨gb710, 0, none⟩ = some (.int .i64 a0_0) := bc BK710 0
      have hcz12_1 : wr.cell? ⟨gb710, 1, none⟩ = some (.slice A0_1 l0_1.length c0_1) := bc BK710 1
      have hfz12_0 := zq6 BK710.out 0
      have hfz12_1 := zq6 BK710.out 1
      go_wp2_with (first | (go_at_call 17; (with_reducible refine (spec_BaseOk.calls k1 a0_0 _ _ l0_1 false _ ?side1 ?side2 A8.out).mono ?_); (case side1 => exact kc HR0_1 HB); (case side2 => exact HC0_1.out); rintro e w13 ⟨rfl, hb⟩; have n0_ := zq9 (Kd.R_below (by exact rz HO_5) hb); have n1_ := zq9 (zq30 (g := gb710) (o := .cells #[.int .i64 a0_0, .slice A0_1 l0_1.length c0_1] 46 (0, 0)) (by exact bk BK710) hb); have n2_ := zq9 (zq27 (by exact b1 HB GE710) hb); clear HO_5; clear BK710; clear HB; have HO_5 := n0_; have BK710 := n1_; have HB := n2_; clear n0_ n1_ n2_; (try clear hb); (try clear hb2); (try clear hk); (try clear hi)))
      go_meet
      case rel => exact ⟨_, (false), (by first | rfl | (simp; done) | (simp [*]; done)), H', ⟨by have := HK1.out; first | omega | exact Nat.le_refl _⟩, ⟨by (with_reducible repeat (first | apply zq10 | apply zq11 | apply zq12)); exact HO_5.out⟩, ⟨by refine bp ?_; exact BK710.out⟩, ⟨by exact b1 HB GE710⟩⟩
    ·rw [if_neg c7] at H; have c7b0 : decide (x6_1 < (l0_1.length : Int)) = false := decide_eq_false c7; clear c7
     (first | rw [c7b0] | (simp only [i64_w, i32_w]; rw [c7b0]) | skip)
     have H' := zq9 H; clear H
     have hcz14_0 : wr.cell? ⟨gb710, 0, none⟩ = some (.int .i64 a0_0) := bc BK710 0
     have hcz14_1 : wr.cell? ⟨gb710, 1, none⟩ = some (.slice A0_1 l0_1.length c0_1) := bc BK710 1
     have hfz14_0 := zq6 BK710.out 0
     have hfz14_1 := zq6 BK710.out 1
     go_wp2
     go_meet
     case rel => exact ⟨_, (false), (by first | rfl | (simp; done) | (simp [*]; done)), H', ⟨by have := HK1.out; first | omega | exact Nat.le_refl _⟩, ⟨by (with_reducible repeat (first | apply zq10 | apply zq11 | apply zq12)); exact HO_5.out⟩, ⟨by refine bp ?_; exact BK710.out⟩, ⟨by exact b1 HB GE710⟩⟩
   case rest =>
    clear HC6
    try clear c2
    try clear p2
    try clear c7
    try clear c7b0
    try clear c9
    try clear hcz10_0
    try clear hcz10_1
    try clear hcz12_0
    try clear hcz12_1
    try clear hcz14_0
    try clear hcz14_1
    try clear hfz10_0
    try clear hfz10_1
    try clear hfz12_0
    try clear hfz12_1
    try clear hfz14_0
    try clear hfz14_1
    try clear p2
    obtain ⟨kq, x21_5, rfl, HA, HJ5, HO_5, BK710, HB⟩ := hcut
    cases kq with
    | zero => exact absurd HA.out (by simp [spec_BaseKeys.j1])
    | succ kj5 =>
     have H := HA.out; clear HA
     simp only [spec_BaseKeys.j1] at H
     by_cases c15 : x21_5 = true
     ·subst c15
      have H1 : (if 0 ≤ x6_1 then (if x6_1 < (l0_1.length : Int) then ((spec_Match.f kj5 a1 ((rd_T32 l0_1 x6_1).f0)).bind fun t716 => (if t716 = true then (if x5_1.length < 8796093022208 then (spec_BaseKeys.l0 kj5 a1 (x5_1 ++ [(rd_T32 l0_1 x6_1).f0]) (wrap64 (x6_1 + 1)) a0_0 l0_1) else (none)) else (spec_BaseKeys.l0 kj5 a1 x5_1 (wrap64 (x6_1 + 1)) a0_0 l0_1))) else (none)) else (none)) = some r := by rw [if_pos rfl] at H; exact H
      clear H; have H := H1; clear H1
      by_cases c16 : 0 ≤ x6_1
      ·rw [if_pos c16] at H; have c16b0 : decide (0 ≤ x6_1) = true := decide_eq_true c16; clear c16
       by_cases c17 : x6_1 < (l0_1.length : Int)
       ·rw [if_pos c17] at H; have c17b0 : decide (x6_1 < (l0_1.length : Int)) = true := decide_eq_true c17; clear c17; replace H := Option.bind_eq_some_iff.mp H; obtain ⟨t716, A180, H⟩ := H
        try dsimp only at H
        have A18 := zq9 A180; clear A180
        by_cases c19 : t716 = true
        ·subst c19
         have H1 : (if x5_1.length < 8796093022208 then (spec_BaseKeys.l0 kj5 a1 (x5_1 ++ [(rd_T32 l0_1 x6_1).f0]) (wrap64 (x6_1 + 1)) a0_0 l0_1) else (none)) = some r := by rw [if_pos rfl] at H; exact H
         clear H; have H := H1; clear H1
         by_cases c20 : x5_1.length < 8796093022208
         ·rw [if_pos c20] at H; have LMc20 := zq9 c20; clear c20
          obtain ⟨y718, hy718⟩ : ∃ y_ : List ByteArray, y_ = (x5_1 ++ [(rd_T32 l0_1 x6_1).f0]) := ⟨_, rfl⟩
          replace H : (spec_BaseKeys.l0 kj5 a1 y718 (wrap64 (x6_1 + 1)) a0_0 l0_1) = some r := by first | (rw [hy718]; with_reducible exact H) | (have H2_ := (Option.bind_some _ _).symm.trans H; rw [hy718]; with_reducible exact H2_) | (have H2_ := (Option.bind_some _ _).symm.trans H; with_reducible exact H2_) | with_reducible exact H | (rw [hy718]; exact H) | exact H
          have Ny718 := zq9 hy718; clear hy718; have H' := zq9 H; clear H
          have hcz21_0 : wc.cell? ⟨gb710, 0, none⟩ = some (.int .i64 a0_0) := bc BK710 0
          have hcz21_1 : wc.cell? ⟨gb710, 1, none⟩ = some (.slice A0_1 l0_1.length c0_1) := bc BK710 1
          have hfz21_0 := zq6 BK710.out 0
          have hfz21_1 := zq6 BK710.out 1
          have p715 : 0 ≤ (x6_1 : Int) := of_decide_eq_true ‹_›
          have q715 : x6_1 < (l0_1.length : Int) := of_decide_eq_true ‹_›
          obtain ⟨ad715, A715_4, c715_4, A715_5, c715_5, A715_6, c715_6, e715, hx715_0, hx715_1, hx715_2, hx715_3, hx715_4, hx715_5, hx715_6, hl715_4, hi715_4, hl715_5, hi715_5, hl715_6, hi715_6⟩ := at_T32 HR0_1.out x6_1 p715 q715
          cases e715; replace hx715_0 := hcl HB hx715_0; replace hx715_1 := hcl HB hx715_1; replace hx715_2 := hcl HB hx715_2; replace hx715_3 := hcl HB hx715_3; replace hx715_4 := hcl HB hx715_4; replace hx715_5 := hcl HB hx715_5; replace hx715_6 := hcl HB hx715_6; have HR715_4 := zq9 hi715_4; have HC715_4 := zq9 hl715_4; clear hi715_4 hl715_4; have HR715_5 := zq9 hi715_5; have HC715_5 := zq9 hl715_5
          clear hi715_5 hl715_5; have HR715_6 := zq9 hi715_6; have HC715_6 := zq9 hl715_6; clear hi715_6 hl715_6; replace p715 := eq_true p715; replace q715 := eq_true q715
          go_wp2_with (first | ((with_reducible refine zq24 (f := 61) rfl ?_); refine gl (some 31) Try.func61 #[.string a1, .string ((rd_T32 l0_1 x6_1).f0)] ?_; (with_reducible refine (spec_Match.calls kj5 a1 ((rd_T32 l0_1 x6_1).f0) true _ A18.out).mono ?_); rintro e w22 ⟨rfl, hb⟩; refine ⟨_, rfl, ?_⟩; have n0_ := zq9 (Kd.R_below (by exact rz HO_5) hb); have n1_ := zq9 (zq30 (g := gb710) (o := .cells #[.int .i64 a0_0, .slice (some ad715) l0_1.length c0_1] 46 (0, 0)) (by exact bk BK710) hb); have n2_ := zq9 (zq27 (by exact b1 HB GE710) hb); clear HO_5; clear BK710; clear HB; have HO_5 := n0_; have BK710 := n1_; have HB := n2_; clear n0_ n1_ n2_; (try clear hb); (try clear hb2); (try clear hk); (try clear hi); have hcz23_0 : w22.cell? ⟨gb710, 0, none⟩ = some (.int .i64 a0_0) := bc BK710 0; have hcz23_1 : w22.cell? ⟨gb710, 1, none⟩ = some (.slice (some ad715) l0_1.length c0_1) := bc BK710 1; have hfz23_0 := zq6 BK710.out 0; have hfz23_1 := zq6 BK710.out 1; have p717 : 0 ≤ (x6_1 : Int) := of_decide_eq_true ‹_›; have q717 : x6_1 < (l0_1.length : Int) := of_decide_eq_true ‹_›; obtain ⟨ad717, A717_4, c717_4, A717_5, c717_5, A717_6, c717_6, e717, hx717_0, hx717_1, hx717_2, hx717_3, hx717_4, hx717_5, hx717_6, hl717_4, hi717_4, hl717_5, hi717_5, hl717_6, hi717_6⟩ := at_T32 HR0_1.out x6_1 p717 q717; obtain rfl : ad715 = ad717 := (by injection e717); replace hx717_0 := hcl HB hx717_0; replace hx717_1 := hcl HB hx717_1; replace hx717_2 := hcl HB hx717_2; replace hx717_3 := hcl HB hx717_3; replace hx717_4 := hcl HB hx717_4; replace hx717_5 := hcl HB hx717_5; replace hx717_6 := hcl HB hx717_6; have HR717_4 := zq9 hi717_4; have HC717_4 := zq9 hl717_4; clear hi717_4 hl717_4; have HR717_5 := zq9 hi717_5; have HC717_5 := zq9 hl717_5; clear hi717_5 hl717_5; have HR717_6 := zq9 hi717_6; have HC717_6 := zq9 hl717_6; clear hi717_6 hl717_6; replace p717 := eq_true p717; replace q717 := eq_true q717) | ((with_reducible refine gate_builtin (b := .append) (xs := #[.tmp 32, .tmp 39]) rfl ?_); (try (refine gate_guard (by rfl) ?_; dsimp only)); at_builtin; refine Kd.R_append Kd.string (w0 := w) w.heap.size rfl (.tmp 32) (.tmp 39) 22 9 (.string ⟨#[]⟩) 16 rfl Try.underlying22 info9 rfl (by decide) (by omega) u5 x5_1 ((rd_T32 l0_1 x6_1).f0) [.string ((rd_T32 l0_1 x6_1).f0)] (fun _ => True) (fun _ => False) rfl rfl ?aP (fun _ hk => hk.elim) ?aF ?aO ?aB ?aS ?aL ?_; (case aP => exact rfl); (case aB => exact (by exact b1 HB GE710)); (case aF => exact (fun _ _ => trivial)); (case aO => exact (by exact rz HO_5)); (case aS => exact (zq29 (by exact b1 HB GE710))); (case aL => have := LMc20.out; omega); intro v719 w24 ho hb hg hat; rw [← Ny718.out] at ho; have n0_ := zq9 (blk_grown (g := gb710) (o := .cells #[.int .i64 a0_0, .slice (some ad715) l0_1.length c0_1] 46 (0, 0)) (by exact bk BK710) hg (Kd.R_ne HO_5.out BK710.out (by decide))); have n1_ := zq9 (hb); have n2_ := zq9 (ho); clear BK710; clear HB; clear HO_5; have BK710 := n0_; have HB := n1_; have HO720 := n2_; clear n0_ n1_ n2_; clear ho hb hg hat))
          go_roundg kj5
          case measure => have := HK1.out; have := HJ5.out; omega
          case rel => exact ⟨(y718), (wrap64 (x6_1 + 1)), (by first | rfl | (simp; done) | (simp [*]; done)), H', ⟨by have := HK1.out; have := HJ5.out; omega⟩, ⟨by (with_reducible repeat (first | apply zq10 | apply zq11 | apply zq12)); exact HO720.out⟩, ⟨by refine bp ?_; exact BK710.out⟩, ⟨by exact b1 HB GE710⟩⟩
         ·rw [if_neg c20] at H
          exact absurd H (by simp)
        ·replace c19 := Bool.eq_false_iff.mpr c19
         subst c19
         have H1 : (spec_BaseKeys.l0 kj5 a1 x5_1 (wrap64 (x6_1 + 1)) a0_0 l0_1) = some r := by rw [if_neg (show ¬ (false = true) by decide)] at H; exact H
         clear H; have H := H1; clear H1; have H' := zq9 H; clear H
         have hcz25_0 : wc.cell? ⟨gb710, 0, none⟩ = some (.int .i64 a0_0) := bc BK710 0
         have hcz25_1 : wc.cell? ⟨gb710, 1, none⟩ = some (.slice A0_1 l0_1.length c0_1) := bc BK710 1
         have hfz25_0 := zq6 BK710.out 0
         have hfz25_1 := zq6 BK710.out 1
         have p715 : 0 ≤ (x6_1 : Int) := of_decide_eq_true ‹_›
         have q715 : x6_1 < (l0_1.length : Int) := of_decide_eq_true ‹_›
         obtain ⟨ad715, A715_4, c715_4, A715_5, c715_5, A715_6, c715_6, e715, hx715_0, hx715_1, hx715_2, hx715_3, hx715_4, hx715_5, hx715_6, hl715_4, hi715_4, hl715_5, hi715_5, hl715_6, hi715_6⟩ := at_T32 HR0_1.out x6_1 p715 q715
         cases e715; replace hx715_0 := hcl HB hx715_0; replace hx715_1 := hcl HB hx715_1; replace hx715_2 := hcl HB hx715_2; replace hx715_3 := hcl HB hx715_3; replace hx715_4 := hcl HB hx715_4; replace hx715_5 := hcl HB hx715_5; replace hx715_6 := hcl HB hx715_6; have HR715_4 := zq9 hi715_4; have HC715_4 := zq9 hl715_4; clear hi715_4 hl715_4; have HR715_5 := zq9 hi715_5; have HC715_5 := zq9 hl715_5
         clear hi715_5 hl715_5; have HR715_6 := zq9 hi715_6; have HC715_6 := zq9 hl715_6; clear hi715_6 hl715_6; replace p715 := eq_true p715; replace q715 := eq_true q715
         go_wp2_with (first | ((with_reducible refine zq24 (f := 61) rfl ?_); refine gl (some 31) Try.func61 #[.string a1, .string ((rd_T32 l0_1 x6_1).f0)] ?_; (with_reducible refine (spec_Match.calls kj5 a1 ((rd_T32 l0_1 x6_1).f0) false _ A18.out).mono ?_); rintro e w26 ⟨rfl, hb⟩; refine ⟨_, rfl, ?_⟩; have n0_ := zq9 (Kd.R_below (by exact rz HO_5) hb); have n1_ := zq9 (zq30 (g := gb710) (o := .cells #[.int .i64 a0_0, .slice (some ad715) l0_1.length c0_1] 46 (0, 0)) (by exact bk BK710) hb); have n2_ := zq9 (zq27 (by exact b1 HB GE710) hb); clear HO_5; clear BK710; clear HB; have HO_5 := n0_; have BK710 := n1_; have HB := n2_; clear n0_ n1_ n2_; (try clear hb); (try clear hb2); (try clear hk); (try clear hi)))
         go_roundg kj5
         case measure => have := HK1.out; have := HJ5.out; omega
         case rel => exact ⟨(x5_1), (wrap64 (x6_1 + 1)), (by first | rfl | (simp; done) | (simp [*]; done)), H', ⟨by have := HK1.out; have := HJ5.out; omega⟩, ⟨by (with_reducible repeat (first | apply zq10 | apply zq11 | apply zq12)); exact HO_5.out⟩, ⟨by refine bp ?_; exact BK710.out⟩, ⟨by exact b1 HB GE710⟩⟩
       ·rw [if_neg c17] at H
        exact absurd H (by simp)
      ·rw [if_neg c16] at H
       exact absurd H (by simp)
     ·replace c15 := Bool.eq_false_iff.mpr c15
      subst c15
      have H1 : (some x5_1) = some r := by rw [if_neg (show ¬ (false = true) by decide)] at H; exact H
      clear H; have H := H1; clear H1; obtain rfl := Option.some.inj H
      go_wp2
      go_ret
      exact ⟨_, by first | rfl | (simp [errW_none, errW_some] <;> rfl) | (simp [*, errW_none, errW_some] <;> rfl), by (with_reducible repeat (first | apply zq10 | apply zq11 | apply zq12)); exact HO_5.out, by exact b1 HB GE710⟩
set_option maxHeartbeats 8000000 in
set_option maxRecDepth 100000 in
theorem impl_within.calls (a0 : Int) (a1 : Int) (a2 : Int) (r : Bool) (w : World) (h : impl_within.f a0 a1 a2 = some r) :
    Calls Try.prog 49 #[.int .i64 a0, .int .i64 a1, .int .i64 a2] w fun e w' => e = .returned (.bool r) ∧ Drawn0 w w' := by
  have H : (if a0 ≥ a1 then (some (decide (a0 ≤ a2))) else (some false)) = some r := h
  clear h
  by_cases c4 : a0 ≥ a1
  · rw [if_pos c4] at H; have c4b0 : decide (a1 ≤ a0) = true := decide_eq_true c4; clear c4; obtain rfl := Option.some.inj H
    go_enter Try.func49, Try.ntmps49
    go_wp2
    go_ret
    exact ⟨by first | rfl | (simp; done) | (simp [*]; done), by repeat (first | exact Drawn0.refl _ | apply Drawn0.step)⟩
  · rw [if_neg c4] at H; have c4b0 : decide (a1 ≤ a0) = false := decide_eq_false c4; clear c4; obtain rfl := Option.some.inj H
    go_enter Try.func49, Try.ntmps49
    go_wp2
    go_ret
    exact ⟨by first | rfl | (simp; done) | (simp [*]; done), by repeat (first | exact Drawn0.refl _ | apply Drawn0.step)⟩
set_option maxHeartbeats 8000000 in
set_option maxRecDepth 100000 in
theorem impl_keyOk.calls (a0 : ByteArray) (r : Bool) (w : World) (h : impl_keyOk.f a0 = some r) :
    Calls Try.prog 48 #[.string a0] w fun e w' => e = .returned (.bool r) ∧ Drawn0 w w' := by
  have H : ((impl_within.f (a0.size : Int) 1 12).bind fun t175 => (some t175)) = some r := h
  clear h; replace H := Option.bind_eq_some_iff.mp H; obtain ⟨t175, A20, H⟩ := H
  try dsimp only at H
  have A2 := zq9 A20; clear A20; obtain rfl := Option.some.inj H
  go_enter Try.func48, Try.ntmps48
  go_wp2_with (first | ((with_reducible refine zq24 (f := 49) rfl ?_); refine gl (some 5) Try.func49 #[.int .i64 (a0.size : Int), .int .i64 1, .int .i64 12] ?_; (with_reducible refine (impl_within.calls (a0.size : Int) 1 12 t175 _ A2.out).mono ?_); rintro e w' ⟨rfl, ⟨nd, rfl⟩⟩; refine ⟨_, rfl, ?_⟩))
  go_ret
  exact ⟨by first | rfl | (simp; done) | (simp [*]; done), by repeat (first | exact Drawn0.refl _ | apply Drawn0.step)⟩
set_option maxHeartbeats 8000000 in
set_option maxRecDepth 100000 in
theorem impl_textsOk.calls (k : Nat) (A0 : Option Addr) (c0 : Nat) (l0 : List ByteArray) (a1 : Int) (r : Bool) (w : World) (hr0 : Kd.C Kd.string w A0 l0.length l0) (hc0 : l0.length ≤ c0) (h : impl_textsOk.f k l0 a1 = some r) :
  Calls Try.prog 84 #[.slice A0 l0.length c0, .int .i64 a1] w fun e w' => e = .returned (.bool r) ∧ Drawn0 w w' := by
 have HR0 := zq9 hr0; have HC0 := zq9 hc0; clear hr0 hc0
 have H : (impl_textsOk.l0 k l0 a1 l0 (l0.length : Int) 0) = some r := h
 clear h; have H' := zq9 H; clear H
 go_enter Try.func84, Try.ntmps84
 go_wp2
 go_loopg [9] k (fun kq v9 w' => ∃ (x9_1 : Int), v9 = .int .i64 x9_1 ∧ Aside0 (impl_textsOk.l0 kq l0 a1 l0 (l0.length : Int) x9_1 = some r) ∧ Aside0 (kq ≤ k) ∧ Drawn0 w w')
 case atStart => exact ⟨(0), (by first | rfl | (simp; done) | (simp [*]; done)), H', ⟨Nat.le_refl _⟩, by repeat (first | exact Drawn0.refl _ | apply Drawn0.step)⟩
 case round =>
  clear H'
  try clear p2
  obtain ⟨x9_1, rfl, HA, HK1, ⟨m1, rfl⟩⟩ := hrel
  cases gk with
  | zero => exact absurd HA.out (by simp [impl_textsOk.l0])
  | succ k1 =>
   have H := HA.out; clear HA
   simp only [impl_textsOk.l0] at H
   by_cases c3 : x9_1 < (l0.length : Int)
   ·rw [if_pos c3] at H; have c3b0 : decide (x9_1 < (l0.length : Int)) = true := decide_eq_true c3; clear c3
    by_cases c4 : 0 ≤ x9_1
    ·rw [if_pos c4] at H; have c4b0 : decide (0 ≤ x9_1) = true := decide_eq_true c4; clear c4
     by_cases c5 : x9_1 < (l0.length : Int)
     ·rw [if_pos c5] at H; have c5b0 : decide (x9_1 < (l0.length : Int)) = true := decide_eq_true c5; clear c5
      by_cases c6 : ((rdOf ByteArray.empty l0 x9_1).size : Int) > 40
      ·rw [if_pos c6] at H; have c6b0 : decide (40 < ((rdOf ByteArray.empty l0 x9_1).size : Int)) = true := decide_eq_true c6
       have c6b1 : decide (40 < (rdOf ByteArray.empty l0 x9_1).size) = true := decide_eq_true (by omega)
       clear c6; obtain rfl := Option.some.inj H
       have p176 : 0 ≤ (x9_1 : Int) := of_decide_eq_true ‹_›
       have q176 : x9_1 < (l0.length : Int) := of_decide_eq_true ‹_›
       obtain ⟨ad176, e176, hx176_0⟩ := Kd.at_string HR0.out x9_1 p176 q176
       cases e176; replace p176 := eq_true p176; replace q176 := eq_true q176
       go_wp2
       go_ret
       exact ⟨by first | rfl | (simp; done) | (simp [*]; done), by repeat (first | exact Drawn0.refl _ | apply Drawn0.step)⟩
      ·rw [if_neg c6] at H; have c6b0 : decide (40 < ((rdOf ByteArray.empty l0 x9_1).size : Int)) = false := decide_eq_false c6
       have c6b1 : decide (40 < (rdOf ByteArray.empty l0 x9_1).size) = false := decide_eq_false (by omega)
       clear c6; have H' := zq9 H; clear H
       have p176 : 0 ≤ (x9_1 : Int) := of_decide_eq_true ‹_›
       have q176 : x9_1 < (l0.length : Int) := of_decide_eq_true ‹_›
       obtain ⟨ad176, e176, hx176_0⟩ := Kd.at_string HR0.out x9_1 p176 q176
       cases e176; replace p176 := eq_true p176; replace q176 := eq_true q176
       go_wp2
       go_roundg k1
       case measure => have := HK1.out; omega
       case rel => exact ⟨(wrap64 (x9_1 + 1)), (by first | rfl | (simp; done) | (simp [*]; done)), H', ⟨by have := HK1.out; omega⟩, by repeat (first | exact Drawn0.refl _ | apply Drawn0.step)⟩
     ·rw [if_neg c5] at H
      exact absurd H (by simp)
    ·rw [if_neg c4] at H
     exact absurd H (by simp)
   ·rw [if_neg c3] at H; have c3b0 : decide (x9_1 < (l0.length : Int)) = false := decide_eq_false c3; clear c3; obtain rfl := Option.some.inj H
    go_wp2
    go_ret
    exact ⟨by first | rfl | (simp; done) | (simp [*]; done), by repeat (first | exact Drawn0.refl _ | apply Drawn0.step)⟩
set_option maxHeartbeats 8000000 in
set_option maxRecDepth 100000 in
theorem impl_listOk.calls (k : Nat) (A0 : Option Addr) (c0 : Nat) (l0 : List ByteArray) (r : Bool) (w : World) (hr0 : Kd.C Kd.string w A0 l0.length l0) (hc0 : l0.length ≤ c0) (h : impl_listOk.f k l0 = some r) :
    Calls Try.prog 50 #[.slice A0 l0.length c0] w fun e w' => e = .returned (.bool r) ∧ Drawn0 w w' := by
  have HR0 := zq9 hr0; have HC0 := zq9 hc0; clear hr0 hc0
  have H : ((impl_textsOk.f k l0 16).bind fun t177 => (some t177)) = some r := h
  clear h; replace H := Option.bind_eq_some_iff.mp H; obtain ⟨t177, A20, H⟩ := H
  try dsimp only at H
  have A2 := zq9 A20; clear A20; obtain rfl := Option.some.inj H
  go_enter Try.func50, Try.ntmps50
  go_wp2_with (first | ((with_reducible refine zq24 (f := 84) rfl ?_); refine gl (some 4) Try.func84 #[.slice A0 l0.length c0, .int .i64 16] ?_; (with_reducible refine (impl_textsOk.calls k _ _ l0 16 t177 _ ?side1 ?side2 A2.out).mono ?_); (case side1 => repeat (first | exact HR0.out | (with_reducible refine zq18 ?_ _) | (with_reducible refine zq19 ?_ _) | (with_reducible refine zq20 ?_))); (case side2 => exact HC0.out); rintro e w' ⟨rfl, ⟨nd, rfl⟩⟩; refine ⟨_, rfl, ?_⟩))
  go_ret
  exact ⟨by first | rfl | (simp; done) | (simp [*]; done), by repeat (first | exact Drawn0.refl _ | apply Drawn0.step)⟩
set_option maxHeartbeats 8000000 in
set_option maxRecDepth 100000 in
theorem impl_SetOk.calls (k : Nat) (A0 : Option Addr) (c0 : Nat) (l0 : List ByteArray) (r : Bool) (w : World) (hr0 : Kd.C Kd.string w A0 l0.length l0) (hc0 : l0.length ≤ c0) (h : impl_SetOk.f k l0 = some r) :
  Calls Try.prog 51 #[.slice A0 l0.length c0] w fun e w' => e = .returned (.bool r) ∧ Drawn0 w w' := by
 have HR0 := zq9 hr0; have HC0 := zq9 hc0; clear hr0 hc0
 have H : (impl_SetOk.l0 k l0 1) = some r := h
 clear h; have H' := zq9 H; clear H
 go_enter Try.func51, Try.ntmps51
 go_wp2
 repeat (go_quiet (fail); try go_wp2)
 go_loopg [3] k (fun kq v3 w' => ∃ (x3_1 : Int), v3 = .int .i64 x3_1 ∧ Aside0 (impl_SetOk.l0 kq l0 x3_1 = some r) ∧ Aside0 (kq ≤ k) ∧ Drawn0 w w')
 case atStart => exact ⟨(1), (by first | rfl | (simp; done) | (simp [*]; done)), H', ⟨Nat.le_refl _⟩, by repeat (first | exact Drawn0.refl _ | apply Drawn0.step)⟩
 case round =>
  clear H'
  obtain ⟨x3_1, rfl, HA, HK1, ⟨m1, rfl⟩⟩ := hrel
  cases gk with
  | zero => exact absurd HA.out (by simp [impl_SetOk.l0])
  | succ k1 =>
   have H := HA.out; clear HA
   simp only [impl_SetOk.l0] at H
   by_cases c2 : x3_1 < (l0.length : Int)
   ·rw [if_pos c2] at H; have c2b0 : decide (x3_1 < (l0.length : Int)) = true := decide_eq_true c2; clear c2
    obtain ⟨ji3, hji3⟩ : ∃ j_ : Int, (wrap64 (x3_1 - 1)) = j_ := ⟨_, rfl⟩
    replace H : (if 0 ≤ (ji3) then (if (ji3) < (l0.length : Int) then (if 0 ≤ x3_1 then (if ((Op.bytesLess ((rdOf ByteArray.empty l0 (ji3)).toList) ((rdOf ByteArray.empty l0 x3_1).toList)) = true) then (impl_SetOk.l0 k1 l0 (wrap64 (x3_1 + 1))) else (some false)) else (none)) else (none)) else (none)) = some r := by first | (rw [hji3] at H; exact H) | (simp only [hji3] at H ⊢; exact H)
    have hji3w : (IntKind.i64.wrap (x3_1 - 1)) = ji3 := (i64_w _).trans hji3
    by_cases c4 : 0 ≤ (ji3)
    ·rw [if_pos c4] at H; have c4b0 : decide (0 ≤ (ji3)) = true := decide_eq_true c4; clear c4
     by_cases c5 : (ji3) < (l0.length : Int)
     ·rw [if_pos c5] at H; have c5b0 : decide ((ji3) < (l0.length : Int)) = true := decide_eq_true c5; clear c5
      by_cases c6 : 0 ≤ x3_1
      ·rw [if_pos c6] at H; have c6b0 : decide (0 ≤ x3_1) = true := decide_eq_true c6; clear c6
       have p178 : 0 ≤ ((ji3) : Int) := of_decide_eq_true ‹_›
       have q178 : (ji3) < (l0.length : Int) := of_decide_eq_true ‹_›
       obtain ⟨ad178, e178, hx178_0⟩ := Kd.at_string HR0.out (ji3) p178 q178
       cases e178; replace p178 := eq_true p178; replace q178 := eq_true q178
       have p179 : 0 ≤ (x3_1 : Int) := of_decide_eq_true ‹_›
       have q179 : x3_1 < (l0.length : Int) := of_decide_eq_true ‹_›
       obtain ⟨ad179, e179, hx179_0⟩ := Kd.at_string HR0.out x3_1 p179 q179
       obtain rfl : ad178 = ad179 := (by injection e179)
       replace p179 := eq_true p179; replace q179 := eq_true q179
       go_wp2
       by_cases c7 : ((Op.bytesLess ((rdOf ByteArray.empty l0 (ji3)).toList) ((rdOf ByteArray.empty l0 x3_1).toList)) = true)
       ·rw [if_pos c7] at H
        have c7b0 : (Op.bytesLess ((rdOf ByteArray.empty l0 (ji3)).toList) ((rdOf ByteArray.empty l0 x3_1).toList)) = true := c7
        clear c7; have H' := zq9 H; clear H
        repeat (go_quiet (fail); try go_wp2)
        go_roundg k1
        case measure => have := HK1.out; omega
        case rel => exact ⟨(wrap64 (x3_1 + 1)), (by first | rfl | (simp; done) | (simp [*]; done)), H', ⟨by have := HK1.out; omega⟩, by repeat (first | exact Drawn0.refl _ | apply Drawn0.step)⟩
       ·rw [if_neg c7] at H
        have c7b0 : (Op.bytesLess ((rdOf ByteArray.empty l0 (ji3)).toList) ((rdOf ByteArray.empty l0 x3_1).toList)) = false := by simpa using c7
        clear c7; obtain rfl := Option.some.inj H
        repeat (go_quiet (fail); try go_wp2)
        go_ret
        exact ⟨by first | rfl | (simp; done) | (simp only [← hji3] <;> (first | rfl | simp)) | (simp [*]; done), by repeat (first | exact Drawn0.refl _ | apply Drawn0.step)⟩
      ·rw [if_neg c6] at H
       exact absurd H (by simp)
     ·rw [if_neg c5] at H
      exact absurd H (by simp)
    ·rw [if_neg c4] at H
     exact absurd H (by simp)
   ·rw [if_neg c2] at H; have c2b0 : decide (x3_1 < (l0.length : Int)) = false := decide_eq_false c2; clear c2; replace H := Option.bind_eq_some_iff.mp H; obtain ⟨t180, A80, H⟩ := H
    try dsimp only at H
    have A8 := zq9 A80; clear A80; obtain rfl := Option.some.inj H
    go_wp2_with (first | (go_at_call 50; (with_reducible refine (impl_listOk.calls k1 _ _ l0 t180 _ ?side1 ?side2 A8.out).mono ?_); (case side1 => repeat (first | exact HR0.out | (with_reducible refine zq18 ?_ _) | (with_reducible refine zq19 ?_ _) | (with_reducible refine zq20 ?_))); (case side2 => exact HC0.out); rintro e w' ⟨rfl, ⟨nd, rfl⟩⟩; (try first | exact ⟨rfl, _, zq32 _ _ _⟩ | exact ⟨rfl, _, Eq.trans (zq32 _ _ _) (congrArg (World.drewN _) (Nat.add_assoc _ _ _))⟩)))
    repeat (go_quiet (first | (go_at_call 50; (with_reducible refine (impl_listOk.calls k1 _ _ l0 t180 _ ?side1 ?side2 A8.out).mono ?_); (case side1 => repeat (first | exact HR0.out | (with_reducible refine zq18 ?_ _) | (with_reducible refine zq19 ?_ _) | (with_reducible refine zq20 ?_))); (case side2 => exact HC0.out); rintro e w' ⟨rfl, ⟨nd, rfl⟩⟩; (try first | exact ⟨rfl, _, zq32 _ _ _⟩ | exact ⟨rfl, _, Eq.trans (zq32 _ _ _) (congrArg (World.drewN _) (Nat.add_assoc _ _ _))⟩))); try go_wp2_with (first | (go_at_call 50; (with_reducible refine (impl_listOk.calls k1 _ _ l0 t180 _ ?side1 ?side2 A8.out).mono ?_); (case side1 => repeat (first | exact HR0.out | (with_reducible refine zq18 ?_ _) | (with_reducible refine zq19 ?_ _) | (with_reducible refine zq20 ?_))); (case side2 => exact HC0.out); rintro e w' ⟨rfl, ⟨nd, rfl⟩⟩; (try first | exact ⟨rfl, _, zq32 _ _ _⟩ | exact ⟨rfl, _, Eq.trans (zq32 _ _ _) (congrArg (World.drewN _) (Nat.add_assoc _ _ _))⟩))))
    go_ret
    exact ⟨by first | rfl | (simp; done) | (simp [*]; done), by repeat (first | exact Drawn0.refl _ | apply Drawn0.step)⟩
set_option maxHeartbeats 8000000 in
set_option maxRecDepth 100000 in
theorem impl_position.calls (a0 : Int) (r : Bool) (w : World) (h : impl_position.f a0 = some r) :
    Calls Try.prog 85 #[.int .i64 a0] w fun e w' => e = .returned (.bool r) ∧ Drawn0 w w' := by
  have H : ((impl_within.f a0 (-1000000000) 1000000000).bind fun t181 => (some t181)) = some r := h
  clear h; replace H := Option.bind_eq_some_iff.mp H; obtain ⟨t181, A20, H⟩ := H
  try dsimp only at H
  have A2 := zq9 A20; clear A20; obtain rfl := Option.some.inj H
  go_enter Try.func85, Try.ntmps85
  go_wp2_with (first | ((with_reducible refine zq24 (f := 49) rfl ?_); refine gl (some 4) Try.func49 #[.int .i64 a0, .int .i64 (-1000000000), .int .i64 1000000000] ?_; (with_reducible refine (impl_within.calls a0 (-1000000000) 1000000000 t181 _ A2.out).mono ?_); rintro e w' ⟨rfl, ⟨nd, rfl⟩⟩; refine ⟨_, rfl, ?_⟩))
  go_ret
  exact ⟨by first | rfl | (simp; done) | (simp [*]; done), by repeat (first | exact Drawn0.refl _ | apply Drawn0.step)⟩
set_option maxHeartbeats 8000000 in
set_option maxRecDepth 100000 in
theorem cmp_Or_int.calls (k : Nat) (A0 : Option Addr) (c0 : Nat) (l0 : List Int) (r : Int) (w : World) (hr0 : Kd.C (Kd.int .i64) w A0 l0.length l0) (hc0 : l0.length ≤ c0) (h : cmp_Or_int.f k l0 = some r) :
  Calls Try.prog 104 #[.slice A0 l0.length c0] w fun e w' => e = .returned (.int .i64 r) ∧ Drawn0 w w' := by
 have HR0 := zq9 hr0; have HC0 := zq9 hc0; clear hr0 hc0
 have H : (cmp_Or_int.l0 k 0 l0 (l0.length : Int) 0) = some r := h
 clear h; have H' := zq9 H; clear H
 go_enter Try.func104, Try.ntmps104
 go_wp2
 go_loopg [8] k (fun kq v8 w' => ∃ (x8_1 : Int), v8 = .int .i64 x8_1 ∧ Aside0 (cmp_Or_int.l0 kq 0 l0 (l0.length : Int) x8_1 = some r) ∧ Aside0 (kq ≤ k) ∧ Drawn0 w w')
 case atStart => exact ⟨(0), (by first | rfl | (simp; done) | (simp [*]; done)), H', ⟨Nat.le_refl _⟩, by repeat (first | exact Drawn0.refl _ | apply Drawn0.step)⟩
 case round =>
  clear H'
  try clear c1
  obtain ⟨x8_1, rfl, HA, HK1, ⟨m1, rfl⟩⟩ := hrel
  cases gk with
  | zero => exact absurd HA.out (by simp [cmp_Or_int.l0])
  | succ k1 =>
   have H := HA.out; clear HA
   simp only [cmp_Or_int.l0] at H
   by_cases c2 : x8_1 < (l0.length : Int)
   ·rw [if_pos c2] at H; have c2b0 : decide (x8_1 < (l0.length : Int)) = true := decide_eq_true c2; clear c2
    by_cases c3 : 0 ≤ x8_1
    ·rw [if_pos c3] at H; have c3b0 : decide (0 ≤ x8_1) = true := decide_eq_true c3; clear c3
     by_cases c4 : x8_1 < (l0.length : Int)
     ·rw [if_pos c4] at H; have c4b0 : decide (x8_1 < (l0.length : Int)) = true := decide_eq_true c4; clear c4
      by_cases c5 : (rd l0 x8_1) = 0
      ·rw [if_pos c5] at H
       have c5b0 : ((rd l0 x8_1) == 0) = true := beq_iff_eq.mpr c5
       have c5b1 : ((rd l0 x8_1) != 0) = false := bne_eq_false_iff_eq.mpr c5
       clear c5; have H' := zq9 H; clear H
       have p182 : 0 ≤ (x8_1 : Int) := of_decide_eq_true ‹_›
       have q182 : x8_1 < (l0.length : Int) := of_decide_eq_true ‹_›
       obtain ⟨ad182, e182, hx182_0⟩ := Kd.at_int HR0.out x8_1 p182 q182
       cases e182; replace p182 := eq_true p182; replace q182 := eq_true q182
       go_wp2
       go_roundg k1
       case measure => have := HK1.out; omega
       case rel => exact ⟨(wrap64 (x8_1 + 1)), (by first | rfl | (simp; done) | (simp [*]; done)), H', ⟨by have := HK1.out; omega⟩, by repeat (first | exact Drawn0.refl _ | apply Drawn0.step)⟩
      ·rw [if_neg c5] at H
       have c5b0 : ((rd l0 x8_1) == 0) = false := beq_eq_false_iff_ne.mpr c5
       have c5b1 : ((rd l0 x8_1) != 0) = true := bne_iff_ne.mpr c5
       obtain rfl := Option.some.inj H
       have p182 : 0 ≤ (x8_1 : Int) := of_decide_eq_true ‹_›
       have q182 : x8_1 < (l0.length : Int) := of_decide_eq_true ‹_›
       obtain ⟨ad182, e182, hx182_0⟩ := Kd.at_int HR0.out x8_1 p182 q182
       cases e182; replace p182 := eq_true p182; replace q182 := eq_true q182
       go_wp2
       go_ret
       exact ⟨by first | rfl | (simp; done) | (simp [*]; done), by repeat (first | exact Drawn0.refl _ | apply Drawn0.step)⟩
     ·rw [if_neg c4] at H
      exact absurd H (by simp)
    ·rw [if_neg c3] at H
     exact absurd H (by simp)
   ·rw [if_neg c2] at H; have c2b0 : decide (x8_1 < (l0.length : Int)) = false := decide_eq_false c2; clear c2; obtain rfl := Option.some.inj H
    go_wp2
    go_ret
    exact ⟨by first | rfl | (simp; done) | (simp [*]; done), by repeat (first | exact Drawn0.refl _ | apply Drawn0.step)⟩
set_option maxHeartbeats 8000000 in
set_option maxRecDepth 100000 in
theorem cmp_isNaN_int.calls (a0 : Int) (r : Bool) (w : World) (h : cmp_isNaN_int.f a0 = some r) :
    Calls Try.prog 117 #[.int .i64 a0] w fun e w' => e = .returned (.bool r) ∧ Drawn0 w w' := by
  have H : (some (a0 != a0)) = some r := h
  clear h; obtain rfl := Option.some.inj H
  go_enter Try.func117, Try.ntmps117
  go_wp2
  go_ret
  exact ⟨by first | rfl | (simp; done) | (simp [*]; done), by repeat (first | exact Drawn0.refl _ | apply Drawn0.step)⟩
set_option maxHeartbeats 8000000 in
set_option maxRecDepth 100000 in
theorem cmp_Compare_int.calls (a0 : Int) (a1 : Int) (r : Int) (w : World) (h : cmp_Compare_int.f a0 a1 = some r) :
    Calls Try.prog 105 #[.int .i64 a0, .int .i64 a1] w fun e w' => e = .returned (.int .i64 r) ∧ Drawn0 w w' := by
  have H : ((cmp_isNaN_int.f a0).bind fun t183 => ((cmp_isNaN_int.f a1).bind fun t184 => (if t183 = true then (if t184 = true then (some 0) else (some (-1))) else (if t184 = true then (some 1) else (if a0 < a1 then (some (-1)) else (if a0 > a1 then (some 1) else (some 0))))))) = some r := h
  clear h; replace H := Option.bind_eq_some_iff.mp H; obtain ⟨t183, A30, H⟩ := H
  try dsimp only at H
  have A3 := zq9 A30; clear A30; replace H := Option.bind_eq_some_iff.mp H; obtain ⟨t184, A40, H⟩ := H
  try dsimp only at H
  have A4 := zq9 A40; clear A40
  go_enter Try.func105, Try.ntmps105
  refine (Classical.em (t183 = true)).elim (fun c5 => ?p0) (fun c5 => ?n0)
  case' p0 =>
    subst c5
    have H1 : (if t184 = true then (some 0) else (some (-1))) = some r := by rw [if_pos rfl] at H; exact H
    clear H; have H := H1; clear H1
    refine (Classical.em (t184 = true)).elim (fun c6 => ?p1) (fun c6 => ?n1)
    case' p1 =>
      subst c6
      have H1 : (some 0) = some r := by rw [if_pos rfl] at H; exact H
      clear H; have H := H1; clear H1; obtain rfl := Option.some.inj H
    case' n1 =>
      replace c6 := Bool.eq_false_iff.mpr c6
      subst c6
      have H1 : (some (-1)) = some r := by rw [if_neg (show ¬ (false = true) by decide)] at H; exact H
      clear H; have H := H1; clear H1; obtain rfl := Option.some.inj H
  case' n0 =>
    replace c5 := Bool.eq_false_iff.mpr c5
    subst c5
    have H1 : (if t184 = true then (some 1) else (if a0 < a1 then (some (-1)) else (if a0 > a1 then (some 1) else (some 0)))) = some r := by rw [if_neg (show ¬ (false = true) by decide)] at H; exact H
    clear H; have H := H1; clear H1
    refine (Classical.em (t184 = true)).elim (fun c7 => ?p2) (fun c7 => ?n2)
    case' p2 =>
      subst c7
      have H1 : (some 1) = some r := by rw [if_pos rfl] at H; exact H
      clear H; have H := H1; clear H1; obtain rfl := Option.some.inj H
    case' n2 =>
      replace c7 := Bool.eq_false_iff.mpr c7
      subst c7
      have H1 : (if a0 < a1 then (some (-1)) else (if a0 > a1 then (some 1) else (some 0))) = some r := by rw [if_neg (show ¬ (false = true) by decide)] at H; exact H
      clear H; have H := H1; clear H1
      refine (Classical.em (a0 < a1)).elim (fun c8 => ?p3) (fun c8 => ?n3)
      case' p3 =>
        rw [if_pos c8] at H; have c8b0 : decide (a0 < a1) = true := decide_eq_true c8; clear c8; obtain rfl := Option.some.inj H
      case' n3 =>
        rw [if_neg c8] at H; have c8b0 : decide (a0 < a1) = false := decide_eq_false c8; clear c8
        refine (Classical.em (a0 > a1)).elim (fun c9 => ?p4) (fun c9 => ?n4)
        case' p4 =>
          rw [if_pos c9] at H; have c9b0 : decide (a1 < a0) = true := decide_eq_true c9; clear c9; obtain rfl := Option.some.inj H
        case' n4 =>
          rw [if_neg c9] at H; have c9b0 : decide (a1 < a0) = false := decide_eq_false c9; clear c9; obtain rfl := Option.some.inj H
  case p1 | n1 | p2 | p3 | p4 | n4 =>
    try go_wp2_with (first | ((with_reducible refine zq24 (f := 117) rfl ?_); refine gl (some 8) Try.func117 #[.int .i64 a0] ?_; (with_reducible refine (cmp_isNaN_int.calls a0 false _ A3.out).mono ?_); rintro e w' ⟨rfl, ⟨nd, rfl⟩⟩; refine ⟨_, rfl, ?_⟩) | ((with_reducible refine zq24 (f := 117) rfl ?_); refine gl (some 8) Try.func117 #[.int .i64 a0] ?_; (with_reducible refine (cmp_isNaN_int.calls a0 true _ A3.out).mono ?_); rintro e w' ⟨rfl, ⟨nd, rfl⟩⟩; refine ⟨_, rfl, ?_⟩) | ((with_reducible refine zq24 (f := 117) rfl ?_); refine gl (some 10) Try.func117 #[.int .i64 a1] ?_; (with_reducible refine (cmp_isNaN_int.calls a1 false _ A4.out).mono ?_); rintro e w' ⟨rfl, ⟨nd, rfl⟩⟩; refine ⟨_, rfl, ?_⟩) | ((with_reducible refine zq24 (f := 117) rfl ?_); refine gl (some 10) Try.func117 #[.int .i64 a1] ?_; (with_reducible refine (cmp_isNaN_int.calls a1 true _ A4.out).mono ?_); rintro e w' ⟨rfl, ⟨nd, rfl⟩⟩; refine ⟨_, rfl, ?_⟩))
    go_ret
    exact ⟨by first | rfl | (simp; done) | (simp [*]; done), by repeat (first | exact Drawn0.refl _ | apply Drawn0.step)⟩
set_option maxHeartbeats 8000000 in
set_option maxRecDepth 100000 in
theorem cmp_isNaN_string.calls (a0 : ByteArray) (r : Bool) (w : World) (h : cmp_isNaN_string.f a0 = some r) :
    Calls Try.prog 118 #[.string a0] w fun e w' => e = .returned (.bool r) ∧ Drawn0 w w' := by
  have H : (some (a0.toList != a0.toList)) = some r := h
  clear h; obtain rfl := Option.some.inj H
  go_enter Try.func118, Try.ntmps118
  go_wp2
  go_ret
  exact ⟨by first | rfl | (simp; done) | (simp [*]; done), by repeat (first | exact Drawn0.refl _ | apply Drawn0.step)⟩
set_option maxHeartbeats 8000000 in
set_option maxRecDepth 100000 in
theorem cmp_Compare_string.calls (a0 : ByteArray) (a1 : ByteArray) (r : Int) (w : World) (h : cmp_Compare_string.f a0 a1 = some r) :
    Calls Try.prog 106 #[.string a0, .string a1] w fun e w' => e = .returned (.int .i64 r) ∧ Drawn0 w w' := by
  have H : ((cmp_isNaN_string.f a0).bind fun t185 => ((cmp_isNaN_string.f a1).bind fun t186 => (if t185 = true then (if t186 = true then (some 0) else (some (-1))) else (if t186 = true then (some 1) else (if (Op.bytesLess a0.toList a1.toList) = true then (some (-1)) else (if (Op.bytesLess a1.toList a0.toList) = true then (some 1) else (some 0))))))) = some r := h
  clear h; replace H := Option.bind_eq_some_iff.mp H; obtain ⟨t185, A30, H⟩ := H
  try dsimp only at H
  have A3 := zq9 A30; clear A30; replace H := Option.bind_eq_some_iff.mp H; obtain ⟨t186, A40, H⟩ := H
  try dsimp only at H
  have A4 := zq9 A40; clear A40
  go_enter Try.func106, Try.ntmps106
  refine (Classical.em (t185 = true)).elim (fun c5 => ?p0) (fun c5 => ?n0)
  case' p0 =>
    subst c5
    have H1 : (if t186 = true then (some 0) else (some (-1))) = some r := by rw [if_pos rfl] at H; exact H
    clear H; have H := H1; clear H1
    refine (Classical.em (t186 = true)).elim (fun c6 => ?p1) (fun c6 => ?n1)
    case' p1 =>
      subst c6
      have H1 : (some 0) = some r := by rw [if_pos rfl] at H; exact H
      clear H; have H := H1; clear H1; obtain rfl := Option.some.inj H
    case' n1 =>
      replace c6 := Bool.eq_false_iff.mpr c6
      subst c6
      have H1 : (some (-1)) = some r := by rw [if_neg (show ¬ (false = true) by decide)] at H; exact H
      clear H; have H := H1; clear H1; obtain rfl := Option.some.inj H
  case' n0 =>
    replace c5 := Bool.eq_false_iff.mpr c5
    subst c5
    have H1 : (if t186 = true then (some 1) else (if (Op.bytesLess a0.toList a1.toList) = true then (some (-1)) else (if (Op.bytesLess a1.toList a0.toList) = true then (some 1) else (some 0)))) = some r := by rw [if_neg (show ¬ (false = true) by decide)] at H; exact H
    clear H; have H := H1; clear H1
    refine (Classical.em (t186 = true)).elim (fun c7 => ?p2) (fun c7 => ?n2)
    case' p2 =>
      subst c7
      have H1 : (some 1) = some r := by rw [if_pos rfl] at H; exact H
      clear H; have H := H1; clear H1; obtain rfl := Option.some.inj H
    case' n2 =>
      replace c7 := Bool.eq_false_iff.mpr c7
      subst c7
      have H1 : (if (Op.bytesLess a0.toList a1.toList) = true then (some (-1)) else (if (Op.bytesLess a1.toList a0.toList) = true then (some 1) else (some 0))) = some r := by rw [if_neg (show ¬ (false = true) by decide)] at H; exact H
      clear H; have H := H1; clear H1
      refine (Classical.em ((Op.bytesLess a0.toList a1.toList) = true)).elim (fun c8 => ?p3) (fun c8 => ?n3)
      case' p3 =>
        rw [if_pos c8] at H
        have c8b0 : (Op.bytesLess a0.toList a1.toList) = true := c8
        have c8q : (a1.toList == a0.toList) = false := X.bl_ne c8b0
        clear c8; obtain rfl := Option.some.inj H
      case' n3 =>
        rw [if_neg c8] at H
        have c8b0 : (Op.bytesLess a0.toList a1.toList) = false := by simpa using c8
        try have c8q : (a1.toList == a0.toList) = true := X.bl_eq (by assumption) c8b0
        clear c8
        refine (Classical.em ((Op.bytesLess a1.toList a0.toList) = true)).elim (fun c9 => ?p4) (fun c9 => ?n4)
        case' p4 =>
          rw [if_pos c9] at H
          have c9b0 : (Op.bytesLess a1.toList a0.toList) = true := c9
          have c9q : (a0.toList == a1.toList) = false := X.bl_ne c9b0
          clear c9; obtain rfl := Option.some.inj H
        case' n4 =>
          rw [if_neg c9] at H
          have c9b0 : (Op.bytesLess a1.toList a0.toList) = false := by simpa using c9
          try have c9q : (a0.toList == a1.toList) = true := X.bl_eq (by assumption) c9b0
          clear c9; obtain rfl := Option.some.inj H
  case p1 | n1 | p2 | p3 | p4 | n4 =>
    try go_wp2_with (first | ((with_reducible refine zq24 (f := 118) rfl ?_); refine gl (some 8) Try.func118 #[.string a0] ?_; (with_reducible refine (cmp_isNaN_string.calls a0 false _ A3.out).mono ?_); rintro e w' ⟨rfl, ⟨nd, rfl⟩⟩; refine ⟨_, rfl, ?_⟩) | ((with_reducible refine zq24 (f := 118) rfl ?_); refine gl (some 8) Try.func118 #[.string a0] ?_; (with_reducible refine (cmp_isNaN_string.calls a0 true _ A3.out).mono ?_); rintro e w' ⟨rfl, ⟨nd, rfl⟩⟩; refine ⟨_, rfl, ?_⟩) | ((with_reducible refine zq24 (f := 118) rfl ?_); refine gl (some 10) Try.func118 #[.string a1] ?_; (with_reducible refine (cmp_isNaN_string.calls a1 false _ A4.out).mono ?_); rintro e w' ⟨rfl, ⟨nd, rfl⟩⟩; refine ⟨_, rfl, ?_⟩) | ((with_reducible refine zq24 (f := 118) rfl ?_); refine gl (some 10) Try.func118 #[.string a1] ?_; (with_reducible refine (cmp_isNaN_string.calls a1 true _ A4.out).mono ?_); rintro e w' ⟨rfl, ⟨nd, rfl⟩⟩; refine ⟨_, rfl, ?_⟩))
    go_ret
    exact ⟨by first | rfl | (simp; done) | (simp [*]; done), by repeat (first | exact Drawn0.refl _ | apply Drawn0.step)⟩
def impl_scoreOrder.T1 : Bool × List (List Nat × List Nat) := (true, [([], []), ([0], [0]), ([], []), ([2], [2]), ([1, 3], [1, 3]), ([], []), ([5], [5]), ([], []), ([7], [7]), ([6, 8, 4], [6, 8]), ([4, 9], [4, 9]), ([10, 9], [10]), ([11, 11, 0, 1, 2, 3, 4, 5, 6, 7, 8, 9, 10, 11], [11])])
def impl_scoreOrder.B1 : List Nat := [0, 1, 0, 4, 15, 0, 32, 0, 128, 511, 1023, 2047, 4095]
theorem impl_scoreOrder.tab1 : rtab .any (opsOf Try.f86 1) = impl_scoreOrder.T1 := by kernel_rfl
theorem impl_scoreOrder.bits1 : waitsOk impl_scoreOrder.T1.2 impl_scoreOrder.B1 = true := by kernel_rfl
set_option maxHeartbeats 8000000 in
set_option maxRecDepth 100000 in
theorem impl_scoreOrder.calls (k : Nat) (a0_0 : ByteArray) (a0_1 : Int) (a1_0 : ByteArray) (a1_1 : Int) (r : Int) (w : World) (h : impl_scoreOrder.f k a0_0 a0_1 a1_0 a1_1 = some r) :
    Calls Try.prog 86 #[.agg #[.string a0_0, .int .i64 a0_1], .agg #[.string a1_0, .int .i64 a1_1]] w fun e w' => e = .returned (.int .i64 r) ∧ Below w.heap.size w w' := by
  have hu99 := Try.underlying99
  have HB := zq9 (Below.refl w.heap.size w)
  have H : ((cmp_Compare_int.f a0_1 a1_1).bind fun t189 => ((cmp_Compare_string.f a0_0 a1_0).bind fun t190 => ((cmp_Or_int.f k (([t189, t190] : List Int))).bind fun t194 => (some t194)))) = some r := h
  clear h; replace H := Option.bind_eq_some_iff.mp H; obtain ⟨t189, A30, H⟩ := H
  try dsimp only at H
  have A3 := zq9 A30; clear A30; replace H := Option.bind_eq_some_iff.mp H; obtain ⟨t190, A40, H⟩ := H
  try dsimp only at H
  have A4 := zq9 A40; clear A40
  obtain ⟨y191, hy191⟩ : ∃ y_ : List Int, y_ = (([t189, t190] : List Int)) := ⟨_, rfl⟩
  replace H : ((cmp_Or_int.f k y191).bind fun t194 => (some t194)) = some r := by first | (rw [hy191]; with_reducible exact H) | (have H2_ := (Option.bind_some _ _).symm.trans H; rw [hy191]; with_reducible exact H2_) | (have H2_ := (Option.bind_some _ _).symm.trans H; with_reducible exact H2_) | with_reducible exact H | (rw [hy191]; exact H) | exact H
  have Ny191 := zq9 hy191; clear hy191; replace H := Option.bind_eq_some_iff.mp H; obtain ⟨t194, A50, H⟩ := H
  try dsimp only at H
  have A5 := zq9 A50; clear A50; obtain rfl := Option.some.inj H
  go_enter Try.func86, Try.ntmps86
  try go_wp2_with (first | ((with_reducible refine zq25 (N := 2) rfl ?_); refine bx 2 #[.string a0_0, .int .i64 a0_1] 99 ?_; intro gb187 hg w6 hbox hb; have n0_ := zq9 (zq27 (by exact bl HB) hb); have n1_ := zq9 (hbox); have n2_ := zq9 ((by rw [hg]; exact (zq29 (by exact bl HB)) : w.heap.size ≤ gb187)); have n3_ := n2_; clear HB; have HB := n0_; have BK187 := n1_; have GW187 := n2_; have GE187 := n3_; clear n0_ n1_ n2_ n3_; clear hb hbox hg) | ((with_reducible refine zq25 (N := 3) rfl ?_); refine bx 3 #[.string a1_0, .int .i64 a1_1] 99 ?_; intro gb188 hg w7 hbox hb; have n0_ := zq9 (zq30 (g := gb187) (o := .cells #[.string a0_0, .int .i64 a0_1] 99 (0, 0)) (by exact bk BK187) hb); have n1_ := zq9 (zq27 (by exact b1 HB GE187) hb); have n2_ := zq9 (hbox); have n3_ := zq9 ((by rw [hg]; exact (zq29 (by exact b1 HB GE187)) : w.heap.size ≤ gb188)); have n4_ := n3_; have n5_ := zq9 ((by rw [hg]; exact Nat.ne_of_lt (blk_lt (g := gb187) (o := .cells #[.string a0_0, .int .i64 a0_1] 99 (0, 0)) (by exact bk BK187)) : gb187 ≠ gb188)); have n6_ := zq9 ((by rw [hg]; exact Nat.ne_of_gt (blk_lt (g := gb187) (o := .cells #[.string a0_0, .int .i64 a0_1] 99 (0, 0)) (by exact bk BK187)) : gb188 ≠ gb187)); clear BK187; clear HB; have BK187 := n0_; have HB := n1_; have BK188 := n2_; have GW188 := n3_; have GE188 := n4_; have NB187_188 := n5_; have NB188_187 := n6_; clear n0_ n1_ n2_ n3_ n4_ n5_ n6_; clear hb hbox hg))
  have n0_ := zq9 (blk_drew BK187.out)
  have n1_ := zq9 (blk_drew BK188.out)
  have n2_ := zq9 (zq4 HB.out)
  clear BK187; clear BK188; clear HB; have BK187 := n0_; have BK188 := n1_; have HB := n2_; clear n0_ n1_ n2_
  refine start_ (n := 13) (S := fun w' => w'.cell? ⟨gb187, 0, none⟩ = some (.string a0_0) ∧ w'.cell? ⟨gb187, 1, none⟩ = some (.int .i64 a0_1) ∧ w'.cell? ⟨gb188, 0, none⟩ = some (.string a1_0) ∧ w'.cell? ⟨gb188, 1, none⟩ = some (.int .i64 a1_1)) (ds := []) #[false, false, false, false, false, false, false, false, false, false, false, false, false] (by kernel_rfl) rfl rfl ⟨bc BK187 0, bc BK187 1, bc BK188 0, bc BK188 1⟩ (fun hHeld => ?_); refine with_tabW impl_scoreOrder.tab1 impl_scoreOrder.bits1 (fun HT_ HW_ => ?_)
  generalize w7.drew = w8 at BK187 BK188 HB hHeld ⊢
  refine pa HT_ 0 5 (zb 13 1) ?_; refine pa HT_ 2 7 (zb 13 5) ?_; refine pa HT_ 5 10 (zb 13 37) ?_; refine pa HT_ 7 12 (zb 13 165) ?_
  refine take_ (i := 1) (N := some 6) (v := ?_) (a' := ?_) (zb 13 167) rfl rfl (take_ofW HT_.out HW_.out (by kernel_rfl)) (fun _ _ _ h => h) (Or.inl ⟨by rfl, ?_⟩) hHeld ?_ ?_
  rotate_left; · rintro w' ⟨s0, s1, s2, s3⟩; go_simp; with_reducible rfl
  rotate_left; · simp only [Act.put, zq0, zq1, zq2, i64_w, i32_w]; rfl
  refine take_ (i := 3) (N := some 8) (v := ?_) (a' := ?_) (zb 13 175) rfl rfl (take_ofW HT_.out HW_.out (by kernel_rfl)) (fun _ _ _ h => h) (Or.inl ⟨by rfl, ?_⟩) hHeld ?_ ?_
  rotate_left; · rintro w' ⟨s0, s1, s2, s3⟩; go_simp; with_reducible rfl
  rotate_left; · simp only [Act.put, zq0, zq1, zq2, i64_w, i32_w]; rfl
  refine take_ (i := 6) (N := some 11) (v := ?_) (a' := ?_) (zb 13 239) rfl rfl (take_ofW HT_.out HW_.out (by kernel_rfl)) (fun _ _ _ h => h) (Or.inl ⟨by rfl, ?_⟩) hHeld ?_ ?_
  rotate_left; · rintro w' ⟨s0, s1, s2, s3⟩; go_simp; with_reducible rfl
  rotate_left; · simp only [Act.put, zq0, zq1, zq2, i64_w, i32_w]; rfl
  refine take_ (i := 8) (N := some 13) (v := ?_) (a' := ?_) (zb 13 495) rfl rfl (take_ofW HT_.out HW_.out (by kernel_rfl)) (fun _ _ _ h => h) (Or.inl ⟨by rfl, ?_⟩) hHeld ?_ ?_
  rotate_left; · rintro w' ⟨s0, s1, s2, s3⟩; go_simp; with_reducible rfl
  rotate_left; · simp only [Act.put, zq0, zq1, zq2, i64_w, i32_w]; rfl
  refine one_ (i := 4) (N := some 9) (zb 13 511) rfl rfl (one_of HT_.out (by kernel_rfl)) (by decide) (fun K hK => ?_)
  refine gs Try.func105 #[.int .i64 a0_1, .int .i64 a1_1] ?_
  with_reducible refine (cmp_Compare_int.calls a0_1 a1_1 t189 _ A3.out).mono ?_
  rintro e w' ⟨rfl, ⟨nd, rfl⟩⟩
  refine ⟨_, rfl, ?_⟩
  refine hK.out _ _ ⟨bc BK187 0, bc BK187 1, bc BK188 0, bc BK188 1⟩ (fun hHeld => ?_)
  clear hK K
  refine norm_ (a' := ?_) ?_ ?_
  rotate_left; · show Act.put _ (some 9) _ = _; simp only [Act.put, zq0, zq1, zq2, i64_w, i32_w]; rfl
  refine one_ (i := 9) (N := some 14) (zb 13 1023) rfl rfl (one_of HT_.out (by kernel_rfl)) (by decide) (fun K hK => ?_)
  refine gs Try.func106 #[.string a0_0, .string a1_0] ?_
  with_reducible refine (cmp_Compare_string.calls a0_0 a1_0 t190 _ A4.out).mono ?_
  rintro e w' ⟨rfl, ⟨nd, rfl⟩⟩
  refine ⟨_, rfl, ?_⟩
  refine hK.out _ _ ⟨bc BK187 0, bc BK187 1, bc BK188 0, bc BK188 1⟩ (fun hHeld => ?_)
  clear hK K
  refine norm_ (a' := ?_) ?_ ?_
  rotate_left; · show Act.put _ (some 14) _ = _; simp only [Act.put, zq0, zq1, zq2, i64_w, i32_w]; rfl
  refine one_ (i := 10) (N := some 15) (zb 13 2047) rfl rfl (one_of HT_.out (by kernel_rfl)) (by decide) (fun K hK => ?_)
  refine Kd.R_lit_step (Kd.int .i64) _ 3 ?hg (N := 15) ?hd (xs := ([t189, t190] : List Int)) (inner := [.int .i64 t189, .int .i64 t190]) (ok := fun _ => True) (okp := fun _ => True) ?hr ?hp (fun _ hk => hk) trivial (Below.refl _ _) (Nat.le_refl _) (by simp) ?_; (case hd => rfl); (case hg => rfl); (case hr => first | (go_simp; done) | (go_simp; rfl)); (case hp => exact (Reps.one (show Kd.M (Kd.int .i64) _ _ _ t189 [.int .i64 t189] from rfl) (Reps.one (show Kd.M (Kd.int .i64) _ _ _ t190 [.int .i64 t190] from rfl) (Reps.none _ _))))
  intro v192 w9 ho10 hb hg_ hnew_
  clear hg_ hnew_
  (first | rw [← Ny191.out] at ho10 | (simp only [Int.reduceToNat] at ho10; rw [← Ny191.out] at ho10))
  have n0_ := zq9 (Kd.R_lower ho10 (zq29 (by exact b2 HB GE187 GE188)))
  have n1_ := zq9 (zq30 (g := gb187) (o := .cells #[.string a0_0, .int .i64 a0_1] 99 (0, 0)) (by exact bk BK187) hb)
  have n2_ := zq9 (zq30 (g := gb188) (o := .cells #[.string a1_0, .int .i64 a1_1] 99 (0, 0)) (by exact bk BK188) hb)
  have n3_ := zq9 (zq27 (by exact b2 HB GE187 GE188) hb)
  clear BK187; clear BK188; clear HB; have HO193 := n0_; have BK187 := n1_; have BK188 := n2_; have HB := n3_; clear n0_ n1_ n2_ n3_; clear hb ho10
  obtain ⟨Ao11, co11, eo11⟩ := Kd.R_slice HO193.out
  (first | subst eo11 | (injection eo11 with f1_ f2_ f3_; have f4_ := f1_.symm; have f5_ := f3_.symm; clear f1_ f2_ f3_; subst f4_; subst f5_))
  refine hK.out _ _ ⟨bc BK187 0, bc BK187 1, bc BK188 0, bc BK188 1⟩ (fun hHeld => ?_)
  clear hK K
  refine norm_ (a' := ?_) ?_ ?_
  rotate_left; · show Act.put _ (some 15) _ = _; simp only [Act.put, zq0, zq1, zq2, i64_w, i32_w]; rfl
  refine one_ (i := 11) (N := some 16) (zb 13 4095) rfl rfl (one_of HT_.out (by kernel_rfl)) (by decide) (fun K hK => ?_)
  refine gs Try.func104 #[.slice Ao11 y191.length co11] ?_
  with_reducible refine (cmp_Or_int.calls k _ _ y191 t194 _ ?side1 ?side2 A5.out).mono ?_
  (case side1 => repeat (first | exact (Kd.R_reads' HO193.out).2.2 | (with_reducible refine zq18 ?_ _) | (with_reducible refine zq19 ?_ _) | (with_reducible refine zq20 ?_)))
  (case side2 => exact (Kd.R_reads' HO193.out).2.1)
  rintro e w' ⟨rfl, ⟨nd, rfl⟩⟩
  refine ⟨_, rfl, ?_⟩
  refine hK.out _ _ ⟨bc BK187 0, bc BK187 1, bc BK188 0, bc BK188 1⟩ (fun hHeld => ?_)
  clear hK K
  refine norm_ (a' := ?_) ?_ ?_
  rotate_left; · show Act.put _ (some 16) _ = _; simp only [Act.put, zq0, zq1, zq2, i64_w, i32_w]; rfl
  refine pa HT_ 12 4 (zb 13 8191) ?_
  refine done_ (done_of HT_.out (by kernel_rfl)) ?_
  try go_wp2
  go_ret
  exact fz (by exact b2 HB GE187 GE188)
set_option maxHeartbeats 400000 in
theorem impl_scoreAt.calls_lit (x0 : ByteArray) (x1 : Int) (t : ByteArray) (B : Nat) (w : World) (hB : w.cell? ⟨B, 0, none⟩ = some (.string t)) :
    Calls Try.prog 108 #[.agg #[.string x0, .int .i64 x1], .pointer (some ⟨B, 0, none⟩)] w fun e w' => e = .returned (.bool (x0.toList == t.toList)) ∧ Below w.heap.size w w' := by
  have hlt := zq8 w ⟨B, 0, none⟩ hB
  go_enter Try.func108, Try.ntmps108
  go_wp2
  go_ret
  exact ⟨rfl, (Below.refl _ _).alloc (Nat.le_refl _) _⟩
theorem impl_scoreAt.hit (t : ByteArray) (l : List S99) (i : Nat) (h : i < l.length) (he : (l[i].f0.toList == t.toList) = true) : impl_scoreAt.from t (l.drop i) i = i := by
  rw [List.drop_eq_getElem_cons h, impl_scoreAt.from, if_pos (by simpa using he)]
theorem impl_scoreAt.step (t : ByteArray) (l : List S99) (i : Nat) (h : i < l.length) (he : (l[i].f0.toList == t.toList) = false) : impl_scoreAt.from t (l.drop i) i = impl_scoreAt.from t (l.drop (i + 1)) (i + 1) := by
  rw [List.drop_eq_getElem_cons h, impl_scoreAt.from, if_neg (by simpa using he)]
set_option maxHeartbeats 2000000 in
theorem impl_scoreAt.finds (A0 : Option Addr) (c0 : Nat) (l0 : List S99) (t : ByteArray) (B : Nat) (w : World) (hr0 : Kd.C k99 w A0 l0.length l0) (hB : w.cell? ⟨B, 0, none⟩ = some (.string t)) :
    Calls Try.prog 107 #[.slice A0 l0.length c0, .func (.func 108) #[] #[.pointer (some ⟨B, 0, none⟩)]] w fun e w' => e = .returned (.int .i64 (impl_scoreAt.from t l0 0)) ∧ Below w.heap.size w w' := by
  have hlt := zq8 w ⟨B, 0, none⟩ hB
  have hbig : l0.length ≤ 9223372036854775807 := hr0.2.1
  have HR0 := zq9 hr0; clear hr0
  go_enter Try.func107, Try.ntmps107
  go_wp2
  go_loopg [5, 8] l0.length (fun gg _ s8 wr => ∃ kk : Nat, kk ≤ l0.length ∧ l0.length - kk ≤ gg ∧ s8 = .int .i64 kk ∧ Aside0 (Below w.heap.size w wr) ∧ Aside0 (impl_scoreAt.from t (l0.drop kk) kk = impl_scoreAt.from t l0 0))
  case atStart => exact ⟨0, Nat.zero_le _, by omega, rfl, ⟨Below.refl _ w⟩, ⟨rfl⟩⟩
  case round =>
    obtain ⟨kk, hkk, hg, rfl, BW, A⟩ := hrel
    by_cases hlt2 : kk < l0.length
    · have hltz : (kk : Int) < (l0.length : Int) := by omega
      have hel : rd_T99 l0 (kk : Int) = l0[kk] := by simp [rd_T99, List.getD_eq_getElem?_getD, hlt2]
      obtain ⟨ad, e0, hx0, hx1⟩ := at_T99 (zq31 HR0.out BW.out) (kk : Int) (by omega) (by omega)
      cases e0
      simp only [Int.toNat_natCast] at hx0 hx1
      have hcall := impl_scoreAt.calls_lit (rd_T99 l0 kk).f0 (rd_T99 l0 kk).f1 t B wr ((BW.out.cell (p := ⟨B, 0, none⟩) hlt).trans hB)
      cases hq : ((rd_T99 l0 (kk : Int)).f0.toList == t.toList) with
      | true =>
        rw [hq] at hcall
        have HIT := zq9 (impl_scoreAt.hit t l0 kk hlt2 (by rw [← hel]; exact hq))
        clear hq hel
        go_wp2_with (refine hcall.mono ?_; rintro e w' ⟨rfl, hb'⟩)
        go_ret
        exact ⟨congrArg (fun z => Ending.returned (.int .i64 z)) (HIT.out.symm.trans A.out), BW.out.trans (hb'.mono BW.out.size)⟩
      | false =>
        rw [hq] at hcall
        have MISS := zq9 (impl_scoreAt.step t l0 kk hlt2 (by rw [← hel]; exact hq))
        clear hq hel
        go_wp2_with (refine hcall.mono ?_; rintro e w' ⟨rfl, hb'⟩)
        go_roundg (l0.length - (kk + 1))
        case measure => omega
        case rel => exact ⟨kk + 1, by omega, by omega, by go_num, ⟨BW.out.trans (hb'.mono BW.out.size)⟩, ⟨by rw [← MISS.out]; exact A.out⟩⟩
    · have hltz : ¬ (kk : Int) < (l0.length : Int) := by omega
      obtain rfl : kk = l0.length := by omega
      go_wp2
      go_ret
      have e1 := A.out
      rw [List.drop_of_length_le (Nat.le_refl _)] at e1
      exact ⟨congrArg (fun z => Ending.returned (.int .i64 z)) e1, BW.out⟩
set_option maxHeartbeats 2000000 in
theorem impl_scoreAt.calls (A0 : Option Addr) (c0 : Nat) (l0 : List S99) (a1 : ByteArray) (r : Int) (w : World) (hr0 : Kd.C k99 w A0 l0.length l0) (hc0 : l0.length ≤ c0) (h : impl_scoreAt.f l0 a1 = some r) :
    Calls Try.prog 87 #[.slice A0 l0.length c0, .string a1] w fun e w' => e = .returned (.int .i64 r) ∧ Below w.heap.size w w' := by
  obtain rfl := Option.some.inj h
  have hr1 : Kd.C k99 (w.alloc (.cells #[.string a1] 9)) A0 l0.length l0 := zq31 hr0 ((Below.refl _ _).alloc (Nat.le_refl _) _)
  have HF := fun hB => impl_scoreAt.finds A0 c0 l0 a1 w.heap.size (w.alloc (.cells #[.string a1] 9)) hr1 hB
  go_enter Try.func87, Try.ntmps87
  go_wp2_with fail
  refine (HF (by simp)).mono ?_
  rintro e w' ⟨rfl, hb⟩
  go_wp2
  go_ret
  exact ⟨rfl, ((Below.refl _ _).alloc (Nat.le_refl _) _).trans (hb.mono (by simp))⟩
def impl_ScoresOk.T4 : Bool × List (List Nat × List Nat) := (true, [([], []), ([0], [0]), ([1], [1]), ([2], [2]), ([3], [3]), ([4], [4]), ([5, 4], [4, 5]), ([6, 4, 4], [4, 6]), ([7, 4], [4, 7]), ([4, 8], [4, 8]), ([9, 7], [9]), ([10], [10]), ([11, 10], [10, 11]), ([12, 10, 10], [10, 12]), ([13], [13]), ([13], [13]), ([15, 13], [13, 15]), ([14, 16, 13], [13, 14, 16]), ([17, 13], [13, 17]), ([13], [13]), ([18, 19, 13, 13], [13, 18, 19]), ([20, 13], [13, 20]), ([13, 21, 10], [10, 13, 21]), ([10, 22], [10, 22]), ([23, 20], [23]), ([24], [24]), ([24], [24]), ([26, 24], [24, 26]), ([25, 27, 24, 24], [24, 25, 27]), ([24], [24]), ([28, 29, 24], [24, 28, 29]), ([24, 30], [24, 30])])
def impl_ScoresOk.B4 : List Nat := [0, 1, 3, 7, 15, 31, 63, 127, 255, 511, 1023, 2047, 4095, 8191, 16383, 16383, 49151, 131071, 262143, 16383, 1048575, 2097151, 4194303, 8388607, 16777215, 33554431, 33554431, 100663295, 268435455, 33554431, 1073741823, 2147483647]
theorem impl_ScoresOk.tab4 : rtab .any (opsOf Try.f52 4) = impl_ScoresOk.T4 := by kernel_rfl
theorem impl_ScoresOk.bits4 : waitsOk impl_ScoresOk.T4.2 impl_ScoresOk.B4 = true := by kernel_rfl
set_option maxHeartbeats 8000000 in
set_option maxRecDepth 100000 in
theorem impl_ScoresOk.calls (k : Nat) (A0 : Option Addr) (c0 : Nat) (l0 : List (S99)) (r : Bool) (w : World) (hr0 : Kd.C k99 w A0 l0.length l0) (hc0 : l0.length ≤ c0) (h : impl_ScoresOk.f k l0 = some r) :
  Calls Try.prog 52 #[.slice A0 l0.length c0] w fun e w' => e = .returned (.bool r) ∧ Below w.heap.size w w' := by
 have hu99 := Try.underlying99; have HR0 := zq9 hr0; have HC0 := zq9 hc0; clear hr0 hc0
 have HB := zq9 (Below.refl w.heap.size w)
 have H : (impl_ScoresOk.l0 k l0 l0 (l0.length : Int) 0) = some r := h
 clear h; have H' := zq9 H; clear H
 go_enter Try.func52, Try.ntmps52
 go_wp2
 go_loopg [7] k (fun kq v7 w' => ∃ (x7_1 : Int), v7 = .int .i64 x7_1 ∧ Aside0 (impl_ScoresOk.l0 kq l0 l0 (l0.length : Int) x7_1 = some r) ∧ Aside0 (kq ≤ k) ∧ Aside0 (Below w.heap.size w w'))
 case atStart => exact ⟨(0), (by first | rfl | (simp; done) | (simp [*]; done)), H', ⟨Nat.le_refl _⟩, ⟨by exact bl HB⟩⟩
 case round =>
  clear H'
  obtain ⟨x7_1, rfl, HA, HK1, HB⟩ := hrel
  cases gk with
  | zero => exact absurd HA.out (by simp [impl_ScoresOk.l0])
  | succ k1 =>
   have H := HA.out; clear HA
   simp only [impl_ScoresOk.l0] at H
   refine (Classical.em (x7_1 < (l0.length : Int))).elim (fun c2 => ?p0) (fun c2 => ?n0)
   case' p0 =>
    rw [if_pos c2] at H; have c2b0 : decide (x7_1 < (l0.length : Int)) = true := decide_eq_true c2; clear c2
    refine (Classical.em (0 ≤ x7_1)).elim (fun c3 => ?p1) (fun c3 => ?n1)
    case' p1 =>
     rw [if_pos c3] at H; have c3b0 : decide (0 ≤ x7_1) = true := decide_eq_true c3; clear c3
     refine (Classical.em (x7_1 < (l0.length : Int))).elim (fun c4 => ?p2) (fun c4 => ?n2)
     case' p2 =>
      rw [if_pos c4] at H; have c4b0 : decide (x7_1 < (l0.length : Int)) = true := decide_eq_true c4; clear c4
      have p195 : 0 ≤ (x7_1 : Int) := of_decide_eq_true ‹_›
      have q195 : x7_1 < (l0.length : Int) := of_decide_eq_true ‹_›
      obtain ⟨ad195, e195, hx195_0, hx195_1⟩ := at_T99 HR0.out x7_1 p195 q195
      cases e195; replace hx195_0 := hcl HB hx195_0; replace hx195_1 := hcl HB hx195_1; replace p195 := eq_true p195; replace q195 := eq_true q195
      try go_wp2_with (first | ((with_reducible refine zq25 (N := 4) rfl ?_); refine bx 4 #[.string (⟨#[]⟩ : ByteArray), .int .i64 0] 99 ?_; intro gb196 hg w6 hbox hb; have n0_ := zq9 (zq27 (by exact bl HB) hb); have n1_ := zq9 (hbox); have n2_ := zq9 ((by rw [hg]; exact (zq29 (by exact bl HB)) : w.heap.size ≤ gb196)); have n3_ := n2_; clear HB; have HB := n0_; have BK196 := n1_; have GW196 := n2_; have GE196 := n3_; clear n0_ n1_ n2_ n3_; clear hb hbox hg; have hcz7_0 : w6.cell? ⟨gb196, 0, none⟩ = some (.string (⟨#[]⟩ : ByteArray)) := bc BK196 0; have hcz7_1 : w6.cell? ⟨gb196, 1, none⟩ = some (.int .i64 0) := bc BK196 1; have hfz7_0 := zq6 BK196.out 0; have hfz7_1 := zq6 BK196.out 1))
      have n0_ : Aside0 (((w6.setCell ⟨gb196, 0, none⟩ (.string ((rd_T99 l0 x7_1).f0))).setCell ⟨gb196, 1, none⟩ (.int .i64 ((rd_T99 l0 x7_1).f1))).heap[gb196]? = some (.cells #[.string ((rd_T99 l0 x7_1).f0), .int .i64 ((rd_T99 l0 x7_1).f1)] 99 (0, 0))) := ⟨(blk_set (blk_set BK196.out 0 _) 1 _)⟩
      have n1_ : Aside0 (Below w.heap.size w ((w6.setCell ⟨gb196, 0, none⟩ (.string ((rd_T99 l0 x7_1).f0))).setCell ⟨gb196, 1, none⟩ (.int .i64 ((rd_T99 l0 x7_1).f1)))) := ⟨by exact b1 HB GE196⟩
      (try clear BK196)
      (try clear HB)
      generalize ((w6.setCell ⟨gb196, 0, none⟩ (.string ((rd_T99 l0 x7_1).f0))).setCell ⟨gb196, 1, none⟩ (.int .i64 ((rd_T99 l0 x7_1).f1))) = w8 at n0_ n1_ ⊢
      have BK196 := n0_; have HB := n1_; clear n0_ n1_
      have n0_ := zq9 (blk_drew BK196.out)
      have n1_ := zq9 (zq4 HB.out)
      clear BK196; clear HB; have BK196 := n0_; have HB := n1_; clear n0_ n1_
      refine (Classical.em ((((rd_T99 l0 x7_1).f0).size : Int) > 40)).elim (fun c5 => ?p3) (fun c5 => ?n3)
      case p3 =>
       rw [if_pos c5] at H; have c5b0 : decide (40 < (((rd_T99 l0 x7_1).f0).size : Int)) = true := decide_eq_true c5
       have c5b1 : decide (40 < ((rd_T99 l0 x7_1).f0).size) = true := decide_eq_true (by omega)
       clear c5; obtain rfl := Option.some.inj H
       refine start_ (n := 32) (S := fun w' => w'.cell? ⟨gb196, 0, none⟩ = some (.string ((rd_T99 l0 x7_1).f0)) ∧ w'.cell? ⟨gb196, 1, none⟩ = some (.int .i64 ((rd_T99 l0 x7_1).f1))) (ds := []) #[false, false, false, false, false, false, false, false, false, false, false, false, false, false, false, false, false, false, false, false, false, false, false, false, false, false, false, false, false, false, false, false] (by kernel_rfl) rfl rfl ⟨bc BK196 0, bc BK196 1⟩ (fun hHeld => ?_); refine with_tabW impl_ScoresOk.tab4 impl_ScoresOk.bits4 (fun HT_ HW_ => ?_)
       generalize w8.drew = w9 at BK196 HB hHeld ⊢
       refine pa HT_ 0 12 (zb 32 1) ?_
       refine take_ (i := 1) (N := some 13) (v := ?_) (a' := ?_) (zb 32 3) rfl rfl (take_ofW HT_.out HW_.out (by kernel_rfl)) (fun _ _ _ h => h) (Or.inl ⟨by rfl, ?_⟩) hHeld ?_ ?_
       rotate_left; ·rintro w' ⟨s0, s1⟩; go_simp; with_reducible rfl
       rotate_left; ·simp only [Act.put, zq0, zq1, zq2, i64_w, i32_w]; rfl
       refine pa HT_ 2 14 (zb 32 7) ?_; refine pa HT_ 3 15 (zb 32 15) ?_; refine pa HT_ 4 16 (zb 32 31) ?_; refine pb HT_ 5 17 (zb 32 63) ?_; refine pb HT_ 6 18 (zb 32 127) ?_; refine pb HT_ 7 19 (zb 32 255) ?_; refine pb HT_ 8 20 (zb 32 511) ?_; refine pa HT_ 9 21 (zb 32 1023) ?_; refine pa HT_ 10 22 (zb 32 2047) ?_; refine pb HT_ 11 23 (zb 32 4095) ?_; refine pb HT_ 12 24 (zb 32 8191) ?_; refine pb HT_ 13 25 (zb 32 16383) ?_
       refine pb HT_ 14 26 (zb 32 32767) ?_; refine pb HT_ 15 27 (zb 32 65535) ?_; refine pb HT_ 16 28 (zb 32 131071) ?_; refine pb HT_ 17 29 (zb 32 262143) ?_; refine pb HT_ 18 30 (zb 32 524287) ?_; refine pb HT_ 19 31 (zb 32 1048575) ?_; refine pb HT_ 20 32 (zb 32 2097151) ?_; refine pb HT_ 21 33 (zb 32 4194303) ?_; refine pb HT_ 22 34 (zb 32 8388607) ?_; refine pa HT_ 23 35 (zb 32 16777215) ?_; refine pa HT_ 24 36 (zb 32 33554431) ?_
       refine pb HT_ 25 37 (zb 32 67108863) ?_; refine pb HT_ 26 38 (zb 32 134217727) ?_; refine pb HT_ 27 39 (zb 32 268435455) ?_; refine pb HT_ 28 40 (zb 32 536870911) ?_; refine pb HT_ 29 41 (zb 32 1073741823) ?_; refine pb HT_ 30 42 (zb 32 2147483647) ?_; refine pa HT_ 31 43 (zb 32 4294967295) ?_
       refine done_ (done_of HT_.out (by kernel_rfl)) ?_
       try go_wp2
       go_ret
       exact fz (by exact b1 HB GE196)
      case' n3 =>
       rw [if_neg c5] at H; have c5b0 : decide (40 < (((rd_T99 l0 x7_1).f0).size : Int)) = false := decide_eq_false c5
       have c5b1 : decide (40 < ((rd_T99 l0 x7_1).f0).size) = false := decide_eq_false (by omega)
       clear c5; replace H := Option.bind_eq_some_iff.mp H; obtain ⟨t197, A100, H⟩ := H
       try dsimp only at H
       have A10 := zq9 A100; clear A100
       refine (Classical.em (t197 = true)).elim (fun c11 => ?p4) (fun c11 => ?n4)
       case' p4 =>
        subst c11
        have H1 : (if x7_1 > 0 then (if 0 ≤ (wrap64 (x7_1 - 1)) then (if (wrap64 (x7_1 - 1)) < (l0.length : Int) then ((impl_scoreOrder.f k1 ((rd_T99 l0 (wrap64 (x7_1 - 1))).f0) ((rd_T99 l0 (wrap64 (x7_1 - 1))).f1) ((rd_T99 l0 x7_1).f0) ((rd_T99 l0 x7_1).f1)).bind fun t199 => (if t199 ≥ 0 then (some false) else ((impl_scoreAt.f l0 ((rd_T99 l0 x7_1).f0)).bind fun t200 => (if t200 = x7_1 then (impl_ScoresOk.l0 k1 l0 l0 (l0.length : Int) (wrap64 (x7_1 + 1))) else (some false))))) else (none)) else (none)) else ((impl_scoreAt.f l0 ((rd_T99 l0 x7_1).f0)).bind fun t201 => (if t201 = x7_1 then (impl_ScoresOk.l0 k1 l0 l0 (l0.length : Int) (wrap64 (x7_1 + 1))) else (some false)))) = some r := by rw [if_pos rfl] at H; exact H
        clear H; have H := H1; clear H1
        refine (Classical.em (x7_1 > 0)).elim (fun c12 => ?p5) (fun c12 => ?n5)
        case' p5 =>
         rw [if_pos c12] at H; have c12b0 : decide (0 < x7_1) = true := decide_eq_true c12; clear c12
         obtain ⟨ji13, hji13⟩ : ∃ j_ : Int, (wrap64 (x7_1 - 1)) = j_ := ⟨_, rfl⟩
         replace H : (if 0 ≤ (ji13) then (if (ji13) < (l0.length : Int) then ((impl_scoreOrder.f k1 ((rd_T99 l0 (ji13)).f0) ((rd_T99 l0 (ji13)).f1) ((rd_T99 l0 x7_1).f0) ((rd_T99 l0 x7_1).f1)).bind fun t199 => (if t199 ≥ 0 then (some false) else ((impl_scoreAt.f l0 ((rd_T99 l0 x7_1).f0)).bind fun t200 => (if t200 = x7_1 then (impl_ScoresOk.l0 k1 l0 l0 (l0.length : Int) (wrap64 (x7_1 + 1))) else (some false))))) else (none)) else (none)) = some r := by first | (rw [hji13] at H; exact H) | (simp only [hji13] at H ⊢; exact H)
         (try rw [hji13] at A10)
         have hji13w : (IntKind.i64.wrap (x7_1 - 1)) = ji13 := (i64_w _).trans hji13
         refine (Classical.em (0 ≤ (ji13))).elim (fun c14 => ?p6) (fun c14 => ?n6)
         case' p6 =>
          rw [if_pos c14] at H; have c14b0 : decide (0 ≤ (ji13)) = true := decide_eq_true c14; clear c14
          refine (Classical.em ((ji13) < (l0.length : Int))).elim (fun c15 => ?p7) (fun c15 => ?n7)
          case' p7 =>
           rw [if_pos c15] at H; have c15b0 : decide ((ji13) < (l0.length : Int)) = true := decide_eq_true c15; clear c15; replace H := Option.bind_eq_some_iff.mp H; obtain ⟨t199, A160, H⟩ := H
           try dsimp only at H
           have A16 := zq9 A160; clear A160
           have p198 : 0 ≤ ((ji13) : Int) := of_decide_eq_true ‹_›
           have q198 : (ji13) < (l0.length : Int) := of_decide_eq_true ‹_›
           obtain ⟨ad198, e198, hx198_0, hx198_1⟩ := at_T99 HR0.out (ji13) p198 q198
           have hw198_1 := hx198_1; have hw198_0 := hx198_0
           obtain rfl : ad195 = ad198 := (by injection e198)
           replace hx198_0 := hcl HB hx198_0; replace hx198_1 := hcl HB hx198_1; replace p198 := eq_true p198; replace q198 := eq_true q198
           refine start_ (n := 32) (S := fun w' => w'.cell? ⟨gb196, 0, none⟩ = some (.string ((rd_T99 l0 x7_1).f0)) ∧ w'.cell? ⟨gb196, 1, none⟩ = some (.int .i64 ((rd_T99 l0 x7_1).f1)) ∧ w'.cell? (ad195.add (((ji13)).toNat * 2)) = some (.string ((rd_T99 l0 (ji13)).f0)) ∧ w'.cell? ⟨(ad195.add (((ji13)).toNat * 2)).block, (ad195.add (((ji13)).toNat * 2)).off + 1, none⟩ = some (.int .i64 ((rd_T99 l0 (ji13)).f1))) (ds := []) #[false, false, false, false, false, false, false, false, false, false, false, false, false, false, false, false, false, false, false, false, false, false, false, false, false, false, false, false, false, false, false, false] (by kernel_rfl) rfl rfl ⟨bc BK196 0, bc BK196 1, (hcm HB hw198_0), (hcm HB hw198_1)⟩ (fun hHeld => ?_); refine with_tabW impl_ScoresOk.tab4 impl_ScoresOk.bits4 (fun HT_ HW_ => ?_)
           generalize w8.drew = w21 at BK196 HB hx198_0 hx198_1 hHeld ⊢
           refine pa HT_ 0 12 (zb 32 1) ?_
           refine take_ (i := 1) (N := some 13) (v := ?_) (a' := ?_) (zb 32 3) rfl rfl (take_ofW HT_.out HW_.out (by kernel_rfl)) (fun _ _ _ h => h) (Or.inl ⟨by rfl, ?_⟩) hHeld ?_ ?_
           rotate_left; ·rintro w' ⟨s0, s1, s2, s3⟩; go_simp; with_reducible rfl
           rotate_left; ·simp only [Act.put, zq0, zq1, zq2, i64_w, i32_w]; rfl
           refine pa HT_ 2 14 (zb 32 7) ?_; refine pa HT_ 3 15 (zb 32 15) ?_; refine pa HT_ 4 16 (zb 32 31) ?_; refine pa HT_ 5 17 (zb 32 63) ?_
           refine take_ (i := 6) (N := some 18) (v := ?_) (a' := ?_) (zb 32 127) rfl rfl (take_ofW HT_.out HW_.out (by kernel_rfl)) (fun _ _ _ h => h) (Or.inl ⟨by rfl, ?_⟩) hHeld ?_ ?_
           rotate_left; ·rintro w' ⟨s0, s1, s2, s3⟩; go_simp; with_reducible rfl
           rotate_left; ·simp only [Act.put, zq0, zq1, zq2, i64_w, i32_w]; rfl
           refine one_ (i := 7) (N := some 19) (zb 32 255) rfl rfl (one_of HT_.out (by kernel_rfl)) (by decide) (fun K hK => ?_)
           refine gs Try.func85 #[.int .i64 ((rd_T99 l0 x7_1).f1)] ?_
           with_reducible refine (impl_position.calls ((rd_T99 l0 x7_1).f1) true _ A10.out).mono ?_
           rintro e w' ⟨rfl, ⟨nd, rfl⟩⟩
           refine ⟨_, rfl, ?_⟩
           refine hK.out _ _ ⟨bc BK196 0, bc BK196 1, (hcm HB hw198_0), (hcm HB hw198_1)⟩ (fun hHeld => ?_)
           clear hK K
           refine norm_ (a' := ?_) ?_ ?_
           rotate_left; ·show Act.put _ (some 19) _ = _; simp only [Act.put, zq0, zq1, zq2, i64_w, i32_w]; rfl
           refine pa HT_ 8 20 (zb 32 511) ?_; refine pa HT_ 9 21 (zb 32 1023) ?_; refine pa HT_ 10 22 (zb 32 2047) ?_; refine pa HT_ 11 23 (zb 32 4095) ?_; refine pa HT_ 12 24 (zb 32 8191) ?_; refine pa HT_ 13 25 (zb 32 16383) ?_; refine pa HT_ 14 26 (zb 32 32767) ?_; refine pa HT_ 15 27 (zb 32 65535) ?_; refine pa HT_ 16 28 (zb 32 131071) ?_; refine pa HT_ 17 29 (zb 32 262143) ?_
           refine take_ (i := 18) (N := some 30) (v := ?_) (a' := ?_) (zb 32 524287) rfl rfl (take_ofW HT_.out HW_.out (by kernel_rfl)) (fun _ _ _ h => h) (Or.inl ⟨by rfl, ?_⟩) hHeld ?_ ?_
           rotate_left; ·rintro w' ⟨s0, s1, s2, s3⟩; go_simp; with_reducible rfl
           rotate_left; ·simp only [Act.put, zq0, zq1, zq2, i64_w, i32_w]; rfl
           refine take_ (i := 19) (N := some 31) (v := ?_) (a' := ?_) (zb 32 1048575) rfl rfl (take_ofW HT_.out HW_.out (by kernel_rfl)) (fun _ _ _ h => h) (Or.inl ⟨by rfl, ?_⟩) hHeld ?_ ?_
           rotate_left; ·rintro w' ⟨s0, s1, s2, s3⟩; go_simp; with_reducible rfl
           rotate_left; ·simp only [Act.put, zq0, zq1, zq2, i64_w, i32_w]; rfl
           refine one_ (i := 20) (N := some 32) (zb 32 2097151) rfl rfl (one_of HT_.out (by kernel_rfl)) (by decide) (fun K hK => ?_)
           refine goes_ Try.func86 (by kernel_rfl) rfl #[.agg #[.string ((rd_T99 l0 (ji13)).f0), .int .i64 ((rd_T99 l0 (ji13)).f1)], .agg #[.string ((rd_T99 l0 x7_1).f0), .int .i64 ((rd_T99 l0 x7_1).f1)]] (by rfl) rfl rfl (by (try simp only [List.map_toArray, List.map_cons, List.map_nil]); first | done | (simp only [hji13]; rfl) | rfl | (simp only [zq33, zq34]; rfl)) ?_
           with_reducible refine (impl_scoreOrder.calls k1 ((rd_T99 l0 (ji13)).f0) ((rd_T99 l0 (ji13)).f1) ((rd_T99 l0 x7_1).f0) ((rd_T99 l0 x7_1).f1) t199 _ A16.out).mono ?_
           rintro e w22 ⟨rfl, hb⟩
           refine ⟨_, rfl, ?_⟩
           have n0_ := zq9 (zq30 (g := gb196) (o := .cells #[.string ((rd_T99 l0 x7_1).f0), .int .i64 ((rd_T99 l0 x7_1).f1)] 99 (0, 0)) (by exact bk BK196) hb)
           have n1_ := zq9 (zq27 (by exact b1 HB GE196) hb)
           clear BK196; clear HB; have BK196 := n0_; have HB := n1_; clear n0_ n1_
           (try clear hb)
           (try clear hb2)
           (try clear hk)
           (try clear hi)
           refine hK.out _ _ ⟨bc BK196 0, bc BK196 1, (hcm HB hw198_0), (hcm HB hw198_1)⟩ (fun hHeld => ?_)
           clear hK K
           refine norm_ (a' := ?_) ?_ ?_
           rotate_left; ·show Act.put _ (some 32) _ = _; simp only [Act.put, zq0, zq1, zq2, i64_w, i32_w]; rfl
           refine pa HT_ 21 33 (zb 32 4194303) ?_; refine pa HT_ 22 34 (zb 32 8388607) ?_; refine pa HT_ 23 35 (zb 32 16777215) ?_; refine pa HT_ 24 36 (zb 32 33554431) ?_
           refine (Classical.em (t199 ≥ 0)).elim (fun c17 => ?p8) (fun c17 => ?n8)
           case p8 =>
            rw [if_pos c17] at H; have c17b0 : decide (0 ≤ t199) = true := decide_eq_true c17; clear c17; obtain rfl := Option.some.inj H
            (try rw [c17b0])
            refine pb HT_ 25 37 (zb 32 67108863) ?_; refine pb HT_ 26 38 (zb 32 134217727) ?_; refine pb HT_ 27 39 (zb 32 268435455) ?_; refine pb HT_ 28 40 (zb 32 536870911) ?_; refine pb HT_ 29 41 (zb 32 1073741823) ?_; refine pb HT_ 30 42 (zb 32 2147483647) ?_; refine pa HT_ 31 43 (zb 32 4294967295) ?_
            refine done_ (done_of HT_.out (by kernel_rfl)) ?_
            try go_wp2
            go_ret
            exact ⟨by first | rfl | (simp [errW_none, errW_some] <;> rfl) | (simp only [← hji13]; first | rfl | (simp [errW_none, errW_some] <;> rfl)) | (simp [*, errW_none, errW_some] <;> rfl), by exact b1 HB GE196⟩
           case' n8 =>
            rw [if_neg c17] at H; have c17b0 : decide (0 ≤ t199) = false := decide_eq_false c17; clear c17; replace H := Option.bind_eq_some_iff.mp H; obtain ⟨t200, A230, H⟩ := H
            try dsimp only at H
            have A23 := zq9 A230; clear A230
            (try rw [c17b0])
            refine pa HT_ 25 37 (zb 32 67108863) ?_; refine pa HT_ 26 38 (zb 32 134217727) ?_; refine pa HT_ 29 41 (zb 32 671088639) ?_
            refine take_ (i := 27) (N := some 39) (v := ?_) (a' := ?_) (zb 32 805306367) rfl rfl (take_ofW HT_.out HW_.out (by kernel_rfl)) (fun _ _ _ h => h) (Or.inl ⟨by rfl, ?_⟩) hHeld ?_ ?_
            rotate_left; ·rintro w' ⟨s0, s1, s2, s3⟩; go_simp; with_reducible rfl
            rotate_left; ·simp only [Act.put, zq0, zq1, zq2, i64_w, i32_w]; rfl
            refine one_ (i := 28) (N := some 40) (zb 32 1073741823) rfl rfl (one_of HT_.out (by kernel_rfl)) (by decide) (fun K hK => ?_)
            refine gs Try.func87 #[.slice (some ad195) l0.length c0, .string ((rd_T99 l0 x7_1).f0)] ?_
            with_reducible refine (impl_scoreAt.calls _ _ l0 ((rd_T99 l0 x7_1).f0) t200 _ ?side1 ?side2 A23.out).mono ?_
            (case side1 => exact kc HR0 HB)
            (case side2 => exact HC0.out)
            rintro e w30 ⟨rfl, hb⟩
            refine ⟨_, rfl, ?_⟩
            have n0_ := zq9 (zq30 (g := gb196) (o := .cells #[.string ((rd_T99 l0 x7_1).f0), .int .i64 ((rd_T99 l0 x7_1).f1)] 99 (0, 0)) (by exact bk BK196) hb)
            have n1_ := zq9 (zq27 (by exact b1 HB GE196) hb)
            clear BK196; clear HB; have BK196 := n0_; have HB := n1_; clear n0_ n1_
            (try clear hb)
            (try clear hb2)
            (try clear hk)
            (try clear hi)
            refine hK.out _ _ ⟨bc BK196 0, bc BK196 1, (hcm HB hw198_0), (hcm HB hw198_1)⟩ (fun hHeld => ?_)
            clear hK K
            refine norm_ (a' := ?_) ?_ ?_
            rotate_left; ·show Act.put _ (some 40) _ = _; simp only [Act.put, zq0, zq1, zq2, i64_w, i32_w]; rfl
            refine pa HT_ 30 42 (zb 32 2147483647) ?_; refine pa HT_ 31 43 (zb 32 4294967295) ?_
            refine done_ (done_of HT_.out (by kernel_rfl)) ?_
            refine (Classical.em (t200 = x7_1)).elim (fun c24 => ?p9) (fun c24 => ?n9)
            case' p9 =>
             rw [if_pos c24] at H
             have c24b0 : (t200 == x7_1) = true := beq_iff_eq.mpr c24
             have c24b1 : (t200 != x7_1) = false := bne_eq_false_iff_eq.mpr c24
             clear c24; have H' := zq9 H; clear H
             (try rw [c24b0]); (try rw [c24b1])
            case n9 =>
             rw [if_neg c24] at H
             have c24b0 : (t200 == x7_1) = false := beq_eq_false_iff_ne.mpr c24
             have c24b1 : (t200 != x7_1) = true := bne_iff_ne.mpr c24
             obtain rfl := Option.some.inj H
             (try rw [c24b0]); (try rw [c24b1])
             try go_wp2
             go_ret
             exact ⟨by first | rfl | (simp [errW_none, errW_some] <;> rfl) | (simp only [← hji13]; first | rfl | (simp [errW_none, errW_some] <;> rfl)) | (simp [*, errW_none, errW_some] <;> rfl), by exact b1 HB GE196⟩
          case n7 =>
           rw [if_neg c15] at H
           exact absurd H (by simp)
         case n6 =>
          rw [if_neg c14] at H
          exact absurd H (by simp)
        case' n5 =>
         rw [if_neg c12] at H; have c12b0 : decide (0 < x7_1) = false := decide_eq_false c12; clear c12; replace H := Option.bind_eq_some_iff.mp H; obtain ⟨t201, A370, H⟩ := H
         try dsimp only at H
         have A37 := zq9 A370; clear A370
         refine start_ (n := 32) (S := fun w' => w'.cell? ⟨gb196, 0, none⟩ = some (.string ((rd_T99 l0 x7_1).f0)) ∧ w'.cell? ⟨gb196, 1, none⟩ = some (.int .i64 ((rd_T99 l0 x7_1).f1))) (ds := []) #[false, false, false, false, false, false, false, false, false, false, false, false, false, false, false, false, false, false, false, false, false, false, false, false, false, false, false, false, false, false, false, false] (by kernel_rfl) rfl rfl ⟨bc BK196 0, bc BK196 1⟩ (fun hHeld => ?_); refine with_tabW impl_ScoresOk.tab4 impl_ScoresOk.bits4 (fun HT_ HW_ => ?_)
         generalize w8.drew = w42 at BK196 HB hHeld ⊢
         refine pa HT_ 0 12 (zb 32 1) ?_
         refine take_ (i := 1) (N := some 13) (v := ?_) (a' := ?_) (zb 32 3) rfl rfl (take_ofW HT_.out HW_.out (by kernel_rfl)) (fun _ _ _ h => h) (Or.inl ⟨by rfl, ?_⟩) hHeld ?_ ?_
         rotate_left; ·rintro w' ⟨s0, s1⟩; go_simp; with_reducible rfl
         rotate_left; ·simp only [Act.put, zq0, zq1, zq2, i64_w, i32_w]; rfl
         refine pa HT_ 2 14 (zb 32 7) ?_; refine pa HT_ 3 15 (zb 32 15) ?_; refine pa HT_ 4 16 (zb 32 31) ?_; refine pa HT_ 5 17 (zb 32 63) ?_
         refine take_ (i := 6) (N := some 18) (v := ?_) (a' := ?_) (zb 32 127) rfl rfl (take_ofW HT_.out HW_.out (by kernel_rfl)) (fun _ _ _ h => h) (Or.inl ⟨by rfl, ?_⟩) hHeld ?_ ?_
         rotate_left; ·rintro w' ⟨s0, s1⟩; go_simp; with_reducible rfl
         rotate_left; ·simp only [Act.put, zq0, zq1, zq2, i64_w, i32_w]; rfl
         refine one_ (i := 7) (N := some 19) (zb 32 255) rfl rfl (one_of HT_.out (by kernel_rfl)) (by decide) (fun K hK => ?_)
         refine gs Try.func85 #[.int .i64 ((rd_T99 l0 x7_1).f1)] ?_
         with_reducible refine (impl_position.calls ((rd_T99 l0 x7_1).f1) true _ A10.out).mono ?_
         rintro e w' ⟨rfl, ⟨nd, rfl⟩⟩
         refine ⟨_, rfl, ?_⟩
         refine hK.out _ _ ⟨bc BK196 0, bc BK196 1⟩ (fun hHeld => ?_)
         clear hK K
         refine norm_ (a' := ?_) ?_ ?_
         rotate_left; ·show Act.put _ (some 19) _ = _; simp only [Act.put, zq0, zq1, zq2, i64_w, i32_w]; rfl
         refine pa HT_ 8 20 (zb 32 511) ?_; refine pa HT_ 9 21 (zb 32 1023) ?_; refine pa HT_ 10 22 (zb 32 2047) ?_; refine pa HT_ 11 23 (zb 32 4095) ?_; refine pa HT_ 12 24 (zb 32 8191) ?_; refine pa HT_ 13 25 (zb 32 16383) ?_; refine pb HT_ 14 26 (zb 32 32767) ?_; refine pb HT_ 15 27 (zb 32 65535) ?_; refine pb HT_ 16 28 (zb 32 131071) ?_; refine pb HT_ 17 29 (zb 32 262143) ?_; refine pb HT_ 18 30 (zb 32 524287) ?_
         refine pb HT_ 19 31 (zb 32 1048575) ?_; refine pb HT_ 20 32 (zb 32 2097151) ?_; refine pb HT_ 21 33 (zb 32 4194303) ?_; refine pa HT_ 22 34 (zb 32 8388607) ?_; refine pa HT_ 23 35 (zb 32 16777215) ?_; refine pa HT_ 24 36 (zb 32 33554431) ?_; refine pa HT_ 25 37 (zb 32 67108863) ?_; refine pa HT_ 26 38 (zb 32 134217727) ?_; refine pa HT_ 29 41 (zb 32 671088639) ?_
         refine take_ (i := 27) (N := some 39) (v := ?_) (a' := ?_) (zb 32 805306367) rfl rfl (take_ofW HT_.out HW_.out (by kernel_rfl)) (fun _ _ _ h => h) (Or.inl ⟨by rfl, ?_⟩) hHeld ?_ ?_
         rotate_left; ·rintro w' ⟨s0, s1⟩; go_simp; with_reducible rfl
         rotate_left; ·simp only [Act.put, zq0, zq1, zq2, i64_w, i32_w]; rfl
         refine one_ (i := 28) (N := some 40) (zb 32 1073741823) rfl rfl (one_of HT_.out (by kernel_rfl)) (by decide) (fun K hK => ?_)
         refine gs Try.func87 #[.slice (some ad195) l0.length c0, .string ((rd_T99 l0 x7_1).f0)] ?_
         with_reducible refine (impl_scoreAt.calls _ _ l0 ((rd_T99 l0 x7_1).f0) t201 _ ?side1 ?side2 A37.out).mono ?_
         (case side1 => repeat (first | exact (zq31 HR0.out (by exact b1 HB GE196)) | (with_reducible refine zq18 ?_ _) | (with_reducible refine zq19 ?_ _) | (with_reducible refine zq20 ?_)))
         (case side2 => exact HC0.out)
         rintro e w43 ⟨rfl, hb⟩
         refine ⟨_, rfl, ?_⟩
         have n0_ := zq9 (zq30 (g := gb196) (o := .cells #[.string ((rd_T99 l0 x7_1).f0), .int .i64 ((rd_T99 l0 x7_1).f1)] 99 (0, 0)) (by exact bk BK196) hb)
         have n1_ := zq9 (zq27 (by exact b1 HB GE196) hb)
         clear BK196; clear HB; have BK196 := n0_; have HB := n1_; clear n0_ n1_
         (try clear hb)
         (try clear hb2)
         (try clear hk)
         (try clear hi)
         refine hK.out _ _ ⟨bc BK196 0, bc BK196 1⟩ (fun hHeld => ?_)
         clear hK K
         refine norm_ (a' := ?_) ?_ ?_
         rotate_left; ·show Act.put _ (some 40) _ = _; simp only [Act.put, zq0, zq1, zq2, i64_w, i32_w]; rfl
         refine pa HT_ 30 42 (zb 32 2147483647) ?_; refine pa HT_ 31 43 (zb 32 4294967295) ?_
         refine done_ (done_of HT_.out (by kernel_rfl)) ?_
         refine (Classical.em (t201 = x7_1)).elim (fun c38 => ?p10) (fun c38 => ?n10)
         case' p10 =>
          rw [if_pos c38] at H
          have c38b0 : (t201 == x7_1) = true := beq_iff_eq.mpr c38
          have c38b1 : (t201 != x7_1) = false := bne_eq_false_iff_eq.mpr c38
          clear c38; have H' := zq9 H; clear H
          (try rw [c38b0]); (try rw [c38b1])
         case n10 =>
          rw [if_neg c38] at H
          have c38b0 : (t201 == x7_1) = false := beq_eq_false_iff_ne.mpr c38
          have c38b1 : (t201 != x7_1) = true := bne_iff_ne.mpr c38
          obtain rfl := Option.some.inj H
          (try rw [c38b0]); (try rw [c38b1])
          try go_wp2
          go_ret
          exact fz (by exact b1 HB GE196)
       case n4 =>
        replace c11 := Bool.eq_false_iff.mpr c11
        subst c11
        have H1 : (some false) = some r := by rw [if_neg (show ¬ (false = true) by decide)] at H; exact H
        clear H; have H := H1; clear H1; obtain rfl := Option.some.inj H
        refine start_ (n := 32) (S := fun w' => w'.cell? ⟨gb196, 0, none⟩ = some (.string ((rd_T99 l0 x7_1).f0)) ∧ w'.cell? ⟨gb196, 1, none⟩ = some (.int .i64 ((rd_T99 l0 x7_1).f1))) (ds := []) #[false, false, false, false, false, false, false, false, false, false, false, false, false, false, false, false, false, false, false, false, false, false, false, false, false, false, false, false, false, false, false, false] (by kernel_rfl) rfl rfl ⟨bc BK196 0, bc BK196 1⟩ (fun hHeld => ?_); refine with_tabW impl_ScoresOk.tab4 impl_ScoresOk.bits4 (fun HT_ HW_ => ?_)
        generalize w8.drew = w52 at BK196 HB hHeld ⊢
        refine pa HT_ 0 12 (zb 32 1) ?_
        refine take_ (i := 1) (N := some 13) (v := ?_) (a' := ?_) (zb 32 3) rfl rfl (take_ofW HT_.out HW_.out (by kernel_rfl)) (fun _ _ _ h => h) (Or.inl ⟨by rfl, ?_⟩) hHeld ?_ ?_
        rotate_left; ·rintro w' ⟨s0, s1⟩; go_simp; with_reducible rfl
        rotate_left; ·simp only [Act.put, zq0, zq1, zq2, i64_w, i32_w]; rfl
        refine pa HT_ 2 14 (zb 32 7) ?_; refine pa HT_ 3 15 (zb 32 15) ?_; refine pa HT_ 4 16 (zb 32 31) ?_; refine pa HT_ 5 17 (zb 32 63) ?_
        refine take_ (i := 6) (N := some 18) (v := ?_) (a' := ?_) (zb 32 127) rfl rfl (take_ofW HT_.out HW_.out (by kernel_rfl)) (fun _ _ _ h => h) (Or.inl ⟨by rfl, ?_⟩) hHeld ?_ ?_
        rotate_left; ·rintro w' ⟨s0, s1⟩; go_simp; with_reducible rfl
        rotate_left; ·simp only [Act.put, zq0, zq1, zq2, i64_w, i32_w]; rfl
        refine one_ (i := 7) (N := some 19) (zb 32 255) rfl rfl (one_of HT_.out (by kernel_rfl)) (by decide) (fun K hK => ?_)
        refine gs Try.func85 #[.int .i64 ((rd_T99 l0 x7_1).f1)] ?_
        with_reducible refine (impl_position.calls ((rd_T99 l0 x7_1).f1) false _ A10.out).mono ?_
        rintro e w' ⟨rfl, ⟨nd, rfl⟩⟩
        refine ⟨_, rfl, ?_⟩
        refine hK.out _ _ ⟨bc BK196 0, bc BK196 1⟩ (fun hHeld => ?_)
        clear hK K
        refine norm_ (a' := ?_) ?_ ?_
        rotate_left; ·show Act.put _ (some 19) _ = _; simp only [Act.put, zq0, zq1, zq2, i64_w, i32_w]; rfl
        refine pa HT_ 8 20 (zb 32 511) ?_; refine pa HT_ 9 21 (zb 32 1023) ?_; refine pa HT_ 10 22 (zb 32 2047) ?_; refine pb HT_ 11 23 (zb 32 4095) ?_; refine pb HT_ 12 24 (zb 32 8191) ?_; refine pb HT_ 13 25 (zb 32 16383) ?_; refine pb HT_ 14 26 (zb 32 32767) ?_; refine pb HT_ 15 27 (zb 32 65535) ?_; refine pb HT_ 16 28 (zb 32 131071) ?_; refine pb HT_ 17 29 (zb 32 262143) ?_; refine pb HT_ 18 30 (zb 32 524287) ?_
        refine pb HT_ 19 31 (zb 32 1048575) ?_; refine pb HT_ 20 32 (zb 32 2097151) ?_; refine pb HT_ 21 33 (zb 32 4194303) ?_; refine pb HT_ 22 34 (zb 32 8388607) ?_; refine pa HT_ 23 35 (zb 32 16777215) ?_; refine pa HT_ 24 36 (zb 32 33554431) ?_; refine pb HT_ 25 37 (zb 32 67108863) ?_; refine pb HT_ 26 38 (zb 32 134217727) ?_; refine pb HT_ 27 39 (zb 32 268435455) ?_; refine pb HT_ 28 40 (zb 32 536870911) ?_
        refine pb HT_ 29 41 (zb 32 1073741823) ?_; refine pb HT_ 30 42 (zb 32 2147483647) ?_; refine pa HT_ 31 43 (zb 32 4294967295) ?_
        refine done_ (done_of HT_.out (by kernel_rfl)) ?_
        try go_wp2
        go_ret
        exact fz (by exact b1 HB GE196)
     case n2 =>
      rw [if_neg c4] at H
      exact absurd H (by simp)
    case n1 =>
     rw [if_neg c3] at H
     exact absurd H (by simp)
   case n0 =>
    rw [if_neg c2] at H; have c2b0 : decide (x7_1 < (l0.length : Int)) = false := decide_eq_false c2; clear c2; obtain rfl := Option.some.inj H
    go_wp2
    go_ret
    exact fz (by exact bl HB)
   case p5 | n5 =>
    try go_wp2
    go_roundg k1
    case measure => have := HK1.out; omega
    case rel => exact ⟨(wrap64 (x7_1 + 1)), (by first | rfl | (simp; done) | (simp [*]; done)), H', ⟨by have := HK1.out; omega⟩, ⟨by exact b1 HB GE196⟩⟩
set_option maxHeartbeats 8000000 in
set_option maxRecDepth 100000 in
theorem impl_FieldsOk.calls (k : Nat) (A0 : Option Addr) (c0 : Nat) (l0 : List (S101)) (r : Bool) (w : World) (hr0 : Kd.C k101 w A0 l0.length l0) (hc0 : l0.length ≤ c0) (h : impl_FieldsOk.f k l0 = some r) :
  Calls Try.prog 53 #[.slice A0 l0.length c0] w fun e w' => e = .returned (.bool r) ∧ Below w.heap.size w w' := by
 have hu101 := Try.underlying101; have HR0 := zq9 hr0; have HC0 := zq9 hc0; clear hr0 hc0
 have HB := zq9 (Below.refl w.heap.size w)
 have H : (impl_FieldsOk.l0 k l0 l0 (l0.length : Int) 0) = some r := h
 clear h; have H' := zq9 H; clear H
 go_enter Try.func53, Try.ntmps53
 go_wp2
 repeat (go_quiet (fail); try go_wp2)
 go_loopg [7] k (fun kq v7 w' => ∃ (x7_1 : Int), v7 = .int .i64 x7_1 ∧ Aside0 (impl_FieldsOk.l0 kq l0 l0 (l0.length : Int) x7_1 = some r) ∧ Aside0 (kq ≤ k) ∧ Aside0 (Below w.heap.size w w'))
 case atStart => exact ⟨(0), (by first | rfl | (simp; done) | (simp [*]; done)), H', ⟨Nat.le_refl _⟩, ⟨by exact bl HB⟩⟩
 case round =>
  clear H'
  obtain ⟨x7_1, rfl, HA, HK1, HB⟩ := hrel
  cases gk with
  | zero => exact absurd HA.out (by simp [impl_FieldsOk.l0])
  | succ k1 =>
   have H := HA.out; clear HA
   simp only [impl_FieldsOk.l0] at H
   refine (Classical.em (x7_1 < (l0.length : Int))).elim (fun c2 => ?p0) (fun c2 => ?n0)
   case' p0 =>
    rw [if_pos c2] at H; have c2b0 : decide (x7_1 < (l0.length : Int)) = true := decide_eq_true c2; clear c2
    refine (Classical.em (0 ≤ x7_1)).elim (fun c3 => ?p1) (fun c3 => ?n1)
    case' p1 =>
     rw [if_pos c3] at H; have c3b0 : decide (0 ≤ x7_1) = true := decide_eq_true c3; clear c3
     refine (Classical.em (x7_1 < (l0.length : Int))).elim (fun c4 => ?p2) (fun c4 => ?n2)
     case' p2 =>
      rw [if_pos c4] at H; have c4b0 : decide (x7_1 < (l0.length : Int)) = true := decide_eq_true c4; clear c4
      refine (Classical.em ((((rd_T101 l0 x7_1).f0).size : Int) > 40)).elim (fun c5 => ?p3) (fun c5 => ?n3)
      case' p3 =>
       rw [if_pos c5] at H; have c5b0 : decide (40 < (((rd_T101 l0 x7_1).f0).size : Int)) = true := decide_eq_true c5
       have c5b1 : decide (40 < ((rd_T101 l0 x7_1).f0).size) = true := decide_eq_true (by omega)
       clear c5; obtain rfl := Option.some.inj H
      case' n3 =>
       rw [if_neg c5] at H; have c5b0 : decide (40 < (((rd_T101 l0 x7_1).f0).size : Int)) = false := decide_eq_false c5
       have c5b1 : decide (40 < ((rd_T101 l0 x7_1).f0).size) = false := decide_eq_false (by omega)
       clear c5
       refine (Classical.em ((((rd_T101 l0 x7_1).f1).size : Int) > 40)).elim (fun c8 => ?p4) (fun c8 => ?n4)
       case' p4 =>
        rw [if_pos c8] at H; have c8b0 : decide (40 < (((rd_T101 l0 x7_1).f1).size : Int)) = true := decide_eq_true c8
        have c8b1 : decide (40 < ((rd_T101 l0 x7_1).f1).size) = true := decide_eq_true (by omega)
        clear c8; obtain rfl := Option.some.inj H
       case n4 =>
        rw [if_neg c8] at H; have c8b0 : decide (40 < (((rd_T101 l0 x7_1).f1).size : Int)) = false := decide_eq_false c8
        have c8b1 : decide (40 < ((rd_T101 l0 x7_1).f1).size) = false := decide_eq_false (by omega)
        clear c8
        by_cases c11 : x7_1 > 0
        ·rw [if_pos c11] at H; have c11b0 : decide (0 < x7_1) = true := decide_eq_true c11; clear c11
         obtain ⟨ji12, hji12⟩ : ∃ j_ : Int, (wrap64 (x7_1 - 1)) = j_ := ⟨_, rfl⟩
         replace H : (if 0 ≤ (ji12) then (if (ji12) < (l0.length : Int) then (if ((Op.bytesLess (((rd_T101 l0 (ji12)).f0).toList) (((rd_T101 l0 x7_1).f0).toList)) = true) then (impl_FieldsOk.l0 k1 l0 l0 (l0.length : Int) (wrap64 (x7_1 + 1))) else (some false)) else (none)) else (none)) = some r := by first | (rw [hji12] at H; exact H) | (simp only [hji12] at H ⊢; exact H)
         have hji12w : (IntKind.i64.wrap (x7_1 - 1)) = ji12 := (i64_w _).trans hji12
         by_cases c13 : 0 ≤ (ji12)
         ·rw [if_pos c13] at H; have c13b0 : decide (0 ≤ (ji12)) = true := decide_eq_true c13; clear c13
          by_cases c14 : (ji12) < (l0.length : Int)
          ·rw [if_pos c14] at H; have c14b0 : decide ((ji12) < (l0.length : Int)) = true := decide_eq_true c14; clear c14
           by_cases c15 : ((Op.bytesLess (((rd_T101 l0 (ji12)).f0).toList) (((rd_T101 l0 x7_1).f0).toList)) = true)
           ·rw [if_pos c15] at H
            have c15b0 : (Op.bytesLess (((rd_T101 l0 (ji12)).f0).toList) (((rd_T101 l0 x7_1).f0).toList)) = true := c15
            clear c15; have H' := zq9 H; clear H
            have p202 : 0 ≤ (x7_1 : Int) := of_decide_eq_true ‹_›
            have q202 : x7_1 < (l0.length : Int) := of_decide_eq_true ‹_›
            obtain ⟨ad202, e202, hx202_0, hx202_1⟩ := at_T101 HR0.out x7_1 p202 q202
            cases e202; replace hx202_0 := hcl HB hx202_0; replace hx202_1 := hcl HB hx202_1; replace p202 := eq_true p202; replace q202 := eq_true q202
            go_wp2_with (first | ((with_reducible refine zq25 (N := 4) rfl ?_); (try (refine gate_guard (by rfl) ?_; dsimp only)); refine bx 4 #[.string (⟨#[]⟩ : ByteArray), .string (⟨#[]⟩ : ByteArray)] 101 ?_; intro gb203 hg w16 hbox hb; have n0_ := zq9 (zq27 (by exact bl HB) hb); have n1_ := zq9 (hbox); have n2_ := zq9 ((by rw [hg]; exact (zq29 (by exact bl HB)) : w.heap.size ≤ gb203)); have n3_ := n2_; clear HB; have HB := n0_; have BK203 := n1_; have GW203 := n2_; have GE203 := n3_; clear n0_ n1_ n2_ n3_; clear hb hbox hg; have hcz17_0 : w16.cell? ⟨gb203, 0, none⟩ = some (.string (⟨#[]⟩ : ByteArray)) := bc BK203 0; have hcz17_1 : w16.cell? ⟨gb203, 1, none⟩ = some (.string (⟨#[]⟩ : ByteArray)) := bc BK203 1; have hfz17_0 := zq6 BK203.out 0; have hfz17_1 := zq6 BK203.out 1; have p204 : 0 ≤ ((ji12) : Int) := of_decide_eq_true ‹_›; have q204 : (ji12) < (l0.length : Int) := of_decide_eq_true ‹_›; obtain ⟨ad204, e204, hx204_0, hx204_1⟩ := at_T101 HR0.out (ji12) p204 q204; obtain rfl : ad202 = ad204 := (by injection e204); have hn204_0 : ad202.block ≠ gb203 := Nat.ne_of_lt (Nat.lt_of_lt_of_le (by have := zq8 _ _ hx204_0; first | rwa [add_block] at this | exact this) GW203.out); have hn204_1 : ad202.block ≠ gb203 := Nat.ne_of_lt (Nat.lt_of_lt_of_le (by have := zq8 _ _ hx204_0; first | rwa [add_block] at this | exact this) GW203.out); replace hx204_0 := hcl HB hx204_0; replace hx204_1 := hcl HB hx204_1; replace hx204_0 := (cell_far (p := ⟨gb203, 0, none⟩) (by first | (rw [add_block]; exact hn204_0) | (show (Addr.add _ _).block ≠ _; rw [add_block]; exact hn204_0) | exact hn204_0) (.string ((rd_T101 l0 x7_1).f0))).trans hx204_0; replace hx204_1 := (cell_far (p := ⟨gb203, 0, none⟩) (by first | (rw [add_block]; exact hn204_0) | (show (Addr.add _ _).block ≠ _; rw [add_block]; exact hn204_0) | exact hn204_0) (.string ((rd_T101 l0 x7_1).f0))).trans hx204_1; replace hx204_0 := (cell_far (p := ⟨gb203, 1, none⟩) (by first | (rw [add_block]; exact hn204_1) | (show (Addr.add _ _).block ≠ _; rw [add_block]; exact hn204_1) | exact hn204_1) (.string ((rd_T101 l0 x7_1).f1))).trans hx204_0; replace hx204_1 := (cell_far (p := ⟨gb203, 1, none⟩) (by first | (rw [add_block]; exact hn204_1) | (show (Addr.add _ _).block ≠ _; rw [add_block]; exact hn204_1) | exact hn204_1) (.string ((rd_T101 l0 x7_1).f1))).trans hx204_1; (try have hy204_0 := fun (n_ : Nat) => (show ((((w16.drewN n_).setCell ⟨gb203, 0, none⟩ (.string ((rd_T101 l0 x7_1).f0))).setCell ⟨gb203, 1, none⟩ (.string ((rd_T101 l0 x7_1).f1)))).cell? _ = some _ from hx204_0)); (try have hy204_1 := fun (n_ : Nat) => (show ((((w16.drewN n_).setCell ⟨gb203, 0, none⟩ (.string ((rd_T101 l0 x7_1).f0))).setCell ⟨gb203, 1, none⟩ (.string ((rd_T101 l0 x7_1).f1)))).cell? _ = some _ from hx204_1)); clear hn204_0; clear hn204_1; replace p204 := eq_true p204; replace q204 := eq_true q204))
            repeat (go_quiet (first | ((with_reducible refine zq25 (N := 4) rfl ?_); (try (refine gate_guard (by rfl) ?_; dsimp only)); refine bx 4 #[.string (⟨#[]⟩ : ByteArray), .string (⟨#[]⟩ : ByteArray)] 101 ?_; intro gb203 hg w16 hbox hb; have n0_ := zq9 (zq27 (by exact bl HB) hb); have n1_ := zq9 (hbox); have n2_ := zq9 ((by rw [hg]; exact (zq29 (by exact bl HB)) : w.heap.size ≤ gb203)); have n3_ := n2_; clear HB; have HB := n0_; have BK203 := n1_; have GW203 := n2_; have GE203 := n3_; clear n0_ n1_ n2_ n3_; clear hb hbox hg; have hcz17_0 : w16.cell? ⟨gb203, 0, none⟩ = some (.string (⟨#[]⟩ : ByteArray)) := bc BK203 0; have hcz17_1 : w16.cell? ⟨gb203, 1, none⟩ = some (.string (⟨#[]⟩ : ByteArray)) := bc BK203 1; have hfz17_0 := zq6 BK203.out 0; have hfz17_1 := zq6 BK203.out 1; have p204 : 0 ≤ ((ji12) : Int) := of_decide_eq_true ‹_›; have q204 : (ji12) < (l0.length : Int) := of_decide_eq_true ‹_›; obtain ⟨ad204, e204, hx204_0, hx204_1⟩ := at_T101 HR0.out (ji12) p204 q204; obtain rfl : ad202 = ad204 := (by injection e204); have hn204_0 : ad202.block ≠ gb203 := Nat.ne_of_lt (Nat.lt_of_lt_of_le (by have := zq8 _ _ hx204_0; first | rwa [add_block] at this | exact this) GW203.out); have hn204_1 : ad202.block ≠ gb203 := Nat.ne_of_lt (Nat.lt_of_lt_of_le (by have := zq8 _ _ hx204_0; first | rwa [add_block] at this | exact this) GW203.out); replace hx204_0 := hcl HB hx204_0; replace hx204_1 := hcl HB hx204_1; replace hx204_0 := (cell_far (p := ⟨gb203, 0, none⟩) (by first | (rw [add_block]; exact hn204_0) | (show (Addr.add _ _).block ≠ _; rw [add_block]; exact hn204_0) | exact hn204_0) (.string ((rd_T101 l0 x7_1).f0))).trans hx204_0; replace hx204_1 := (cell_far (p := ⟨gb203, 0, none⟩) (by first | (rw [add_block]; exact hn204_0) | (show (Addr.add _ _).block ≠ _; rw [add_block]; exact hn204_0) | exact hn204_0) (.string ((rd_T101 l0 x7_1).f0))).trans hx204_1; replace hx204_0 := (cell_far (p := ⟨gb203, 1, none⟩) (by first | (rw [add_block]; exact hn204_1) | (show (Addr.add _ _).block ≠ _; rw [add_block]; exact hn204_1) | exact hn204_1) (.string ((rd_T101 l0 x7_1).f1))).trans hx204_0; replace hx204_1 := (cell_far (p := ⟨gb203, 1, none⟩) (by first | (rw [add_block]; exact hn204_1) | (show (Addr.add _ _).block ≠ _; rw [add_block]; exact hn204_1) | exact hn204_1) (.string ((rd_T101 l0 x7_1).f1))).trans hx204_1; (try have hy204_0 := fun (n_ : Nat) => (show ((((w16.drewN n_).setCell ⟨gb203, 0, none⟩ (.string ((rd_T101 l0 x7_1).f0))).setCell ⟨gb203, 1, none⟩ (.string ((rd_T101 l0 x7_1).f1)))).cell? _ = some _ from hx204_0)); (try have hy204_1 := fun (n_ : Nat) => (show ((((w16.drewN n_).setCell ⟨gb203, 0, none⟩ (.string ((rd_T101 l0 x7_1).f0))).setCell ⟨gb203, 1, none⟩ (.string ((rd_T101 l0 x7_1).f1)))).cell? _ = some _ from hx204_1)); clear hn204_0; clear hn204_1; replace p204 := eq_true p204; replace q204 := eq_true q204)); try go_wp2_with (first | ((with_reducible refine zq25 (N := 4) rfl ?_); (try (refine gate_guard (by rfl) ?_; dsimp only)); refine bx 4 #[.string (⟨#[]⟩ : ByteArray), .string (⟨#[]⟩ : ByteArray)] 101 ?_; intro gb203 hg w16 hbox hb; have n0_ := zq9 (zq27 (by exact bl HB) hb); have n1_ := zq9 (hbox); have n2_ := zq9 ((by rw [hg]; exact (zq29 (by exact bl HB)) : w.heap.size ≤ gb203)); have n3_ := n2_; clear HB; have HB := n0_; have BK203 := n1_; have GW203 := n2_; have GE203 := n3_; clear n0_ n1_ n2_ n3_; clear hb hbox hg; have hcz17_0 : w16.cell? ⟨gb203, 0, none⟩ = some (.string (⟨#[]⟩ : ByteArray)) := bc BK203 0; have hcz17_1 : w16.cell? ⟨gb203, 1, none⟩ = some (.string (⟨#[]⟩ : ByteArray)) := bc BK203 1; have hfz17_0 := zq6 BK203.out 0; have hfz17_1 := zq6 BK203.out 1; have p204 : 0 ≤ ((ji12) : Int) := of_decide_eq_true ‹_›; have q204 : (ji12) < (l0.length : Int) := of_decide_eq_true ‹_›; obtain ⟨ad204, e204, hx204_0, hx204_1⟩ := at_T101 HR0.out (ji12) p204 q204; obtain rfl : ad202 = ad204 := (by injection e204); have hn204_0 : ad202.block ≠ gb203 := Nat.ne_of_lt (Nat.lt_of_lt_of_le (by have := zq8 _ _ hx204_0; first | rwa [add_block] at this | exact this) GW203.out); have hn204_1 : ad202.block ≠ gb203 := Nat.ne_of_lt (Nat.lt_of_lt_of_le (by have := zq8 _ _ hx204_0; first | rwa [add_block] at this | exact this) GW203.out); replace hx204_0 := hcl HB hx204_0; replace hx204_1 := hcl HB hx204_1; replace hx204_0 := (cell_far (p := ⟨gb203, 0, none⟩) (by first | (rw [add_block]; exact hn204_0) | (show (Addr.add _ _).block ≠ _; rw [add_block]; exact hn204_0) | exact hn204_0) (.string ((rd_T101 l0 x7_1).f0))).trans hx204_0; replace hx204_1 := (cell_far (p := ⟨gb203, 0, none⟩) (by first | (rw [add_block]; exact hn204_0) | (show (Addr.add _ _).block ≠ _; rw [add_block]; exact hn204_0) | exact hn204_0) (.string ((rd_T101 l0 x7_1).f0))).trans hx204_1; replace hx204_0 := (cell_far (p := ⟨gb203, 1, none⟩) (by first | (rw [add_block]; exact hn204_1) | (show (Addr.add _ _).block ≠ _; rw [add_block]; exact hn204_1) | exact hn204_1) (.string ((rd_T101 l0 x7_1).f1))).trans hx204_0; replace hx204_1 := (cell_far (p := ⟨gb203, 1, none⟩) (by first | (rw [add_block]; exact hn204_1) | (show (Addr.add _ _).block ≠ _; rw [add_block]; exact hn204_1) | exact hn204_1) (.string ((rd_T101 l0 x7_1).f1))).trans hx204_1; (try have hy204_0 := fun (n_ : Nat) => (show ((((w16.drewN n_).setCell ⟨gb203, 0, none⟩ (.string ((rd_T101 l0 x7_1).f0))).setCell ⟨gb203, 1, none⟩ (.string ((rd_T101 l0 x7_1).f1)))).cell? _ = some _ from hx204_0)); (try have hy204_1 := fun (n_ : Nat) => (show ((((w16.drewN n_).setCell ⟨gb203, 0, none⟩ (.string ((rd_T101 l0 x7_1).f0))).setCell ⟨gb203, 1, none⟩ (.string ((rd_T101 l0 x7_1).f1)))).cell? _ = some _ from hx204_1)); clear hn204_0; clear hn204_1; replace p204 := eq_true p204; replace q204 := eq_true q204)))
            go_roundg k1
            case measure => have := HK1.out; omega
            case rel => exact ⟨(wrap64 (x7_1 + 1)), (by first | rfl | (simp; done) | (simp [*]; done)), H', ⟨by have := HK1.out; omega⟩, ⟨by exact b1 HB GE203⟩⟩
           ·rw [if_neg c15] at H
            have c15b0 : (Op.bytesLess (((rd_T101 l0 (ji12)).f0).toList) (((rd_T101 l0 x7_1).f0).toList)) = false := by simpa using c15
            clear c15; obtain rfl := Option.some.inj H
            have p202 : 0 ≤ (x7_1 : Int) := of_decide_eq_true ‹_›
            have q202 : x7_1 < (l0.length : Int) := of_decide_eq_true ‹_›
            obtain ⟨ad202, e202, hx202_0, hx202_1⟩ := at_T101 HR0.out x7_1 p202 q202
            cases e202; replace hx202_0 := hcl HB hx202_0; replace hx202_1 := hcl HB hx202_1; replace p202 := eq_true p202; replace q202 := eq_true q202
            go_wp2_with (first | ((with_reducible refine zq25 (N := 4) rfl ?_); (try (refine gate_guard (by rfl) ?_; dsimp only)); refine bx 4 #[.string (⟨#[]⟩ : ByteArray), .string (⟨#[]⟩ : ByteArray)] 101 ?_; intro gb203 hg w18 hbox hb; have n0_ := zq9 (zq27 (by exact bl HB) hb); have n1_ := zq9 (hbox); have n2_ := zq9 ((by rw [hg]; exact (zq29 (by exact bl HB)) : w.heap.size ≤ gb203)); have n3_ := n2_; clear HB; have HB := n0_; have BK203 := n1_; have GW203 := n2_; have GE203 := n3_; clear n0_ n1_ n2_ n3_; clear hb hbox hg; have hcz19_0 : w18.cell? ⟨gb203, 0, none⟩ = some (.string (⟨#[]⟩ : ByteArray)) := bc BK203 0; have hcz19_1 : w18.cell? ⟨gb203, 1, none⟩ = some (.string (⟨#[]⟩ : ByteArray)) := bc BK203 1; have hfz19_0 := zq6 BK203.out 0; have hfz19_1 := zq6 BK203.out 1; have p204 : 0 ≤ ((ji12) : Int) := of_decide_eq_true ‹_›; have q204 : (ji12) < (l0.length : Int) := of_decide_eq_true ‹_›; obtain ⟨ad204, e204, hx204_0, hx204_1⟩ := at_T101 HR0.out (ji12) p204 q204; obtain rfl : ad202 = ad204 := (by injection e204); have hn204_0 : ad202.block ≠ gb203 := Nat.ne_of_lt (Nat.lt_of_lt_of_le (by have := zq8 _ _ hx204_0; first | rwa [add_block] at this | exact this) GW203.out); have hn204_1 : ad202.block ≠ gb203 := Nat.ne_of_lt (Nat.lt_of_lt_of_le (by have := zq8 _ _ hx204_0; first | rwa [add_block] at this | exact this) GW203.out); replace hx204_0 := hcl HB hx204_0; replace hx204_1 := hcl HB hx204_1; replace hx204_0 := (cell_far (p := ⟨gb203, 0, none⟩) (by first | (rw [add_block]; exact hn204_0) | (show (Addr.add _ _).block ≠ _; rw [add_block]; exact hn204_0) | exact hn204_0) (.string ((rd_T101 l0 x7_1).f0))).trans hx204_0; replace hx204_1 := (cell_far (p := ⟨gb203, 0, none⟩) (by first | (rw [add_block]; exact hn204_0) | (show (Addr.add _ _).block ≠ _; rw [add_block]; exact hn204_0) | exact hn204_0) (.string ((rd_T101 l0 x7_1).f0))).trans hx204_1; replace hx204_0 := (cell_far (p := ⟨gb203, 1, none⟩) (by first | (rw [add_block]; exact hn204_1) | (show (Addr.add _ _).block ≠ _; rw [add_block]; exact hn204_1) | exact hn204_1) (.string ((rd_T101 l0 x7_1).f1))).trans hx204_0; replace hx204_1 := (cell_far (p := ⟨gb203, 1, none⟩) (by first | (rw [add_block]; exact hn204_1) | (show (Addr.add _ _).block ≠ _; rw [add_block]; exact hn204_1) | exact hn204_1) (.string ((rd_T101 l0 x7_1).f1))).trans hx204_1; (try have hy204_0 := fun (n_ : Nat) => (show ((((w18.drewN n_).setCell ⟨gb203, 0, none⟩ (.string ((rd_T101 l0 x7_1).f0))).setCell ⟨gb203, 1, none⟩ (.string ((rd_T101 l0 x7_1).f1)))).cell? _ = some _ from hx204_0)); (try have hy204_1 := fun (n_ : Nat) => (show ((((w18.drewN n_).setCell ⟨gb203, 0, none⟩ (.string ((rd_T101 l0 x7_1).f0))).setCell ⟨gb203, 1, none⟩ (.string ((rd_T101 l0 x7_1).f1)))).cell? _ = some _ from hx204_1)); clear hn204_0; clear hn204_1; replace p204 := eq_true p204; replace q204 := eq_true q204))
            repeat (go_quiet (first | ((with_reducible refine zq25 (N := 4) rfl ?_); (try (refine gate_guard (by rfl) ?_; dsimp only)); refine bx 4 #[.string (⟨#[]⟩ : ByteArray), .string (⟨#[]⟩ : ByteArray)] 101 ?_; intro gb203 hg w18 hbox hb; have n0_ := zq9 (zq27 (by exact bl HB) hb); have n1_ := zq9 (hbox); have n2_ := zq9 ((by rw [hg]; exact (zq29 (by exact bl HB)) : w.heap.size ≤ gb203)); have n3_ := n2_; clear HB; have HB := n0_; have BK203 := n1_; have GW203 := n2_; have GE203 := n3_; clear n0_ n1_ n2_ n3_; clear hb hbox hg; have hcz19_0 : w18.cell? ⟨gb203, 0, none⟩ = some (.string (⟨#[]⟩ : ByteArray)) := bc BK203 0; have hcz19_1 : w18.cell? ⟨gb203, 1, none⟩ = some (.string (⟨#[]⟩ : ByteArray)) := bc BK203 1; have hfz19_0 := zq6 BK203.out 0; have hfz19_1 := zq6 BK203.out 1; have p204 : 0 ≤ ((ji12) : Int) := of_decide_eq_true ‹_›; have q204 : (ji12) < (l0.length : Int) := of_decide_eq_true ‹_›; obtain ⟨ad204, e204, hx204_0, hx204_1⟩ := at_T101 HR0.out (ji12) p204 q204; obtain rfl : ad202 = ad204 := (by injection e204); have hn204_0 : ad202.block ≠ gb203 := Nat.ne_of_lt (Nat.lt_of_lt_of_le (by have := zq8 _ _ hx204_0; first | rwa [add_block] at this | exact this) GW203.out); have hn204_1 : ad202.block ≠ gb203 := Nat.ne_of_lt (Nat.lt_of_lt_of_le (by have := zq8 _ _ hx204_0; first | rwa [add_block] at this | exact this) GW203.out); replace hx204_0 := hcl HB hx204_0; replace hx204_1 := hcl HB hx204_1; replace hx204_0 := (cell_far (p := ⟨gb203, 0, none⟩) (by first | (rw [add_block]; exact hn204_0) | (show (Addr.add _ _).block ≠ _; rw [add_block]; exact hn204_0) | exact hn204_0) (.string ((rd_T101 l0 x7_1).f0))).trans hx204_0; replace hx204_1 := (cell_far (p := ⟨gb203, 0, none⟩) (by first | (rw [add_block]; exact hn204_0) | (show (Addr.add _ _).block ≠ _; rw [add_block]; exact hn204_0) | exact hn204_0) (.string ((rd_T101 l0 x7_1).f0))).trans hx204_1; replace hx204_0 := (cell_far (p := ⟨gb203, 1, none⟩) (by first | (rw [add_block]; exact hn204_1) | (show (Addr.add _ _).block ≠ _; rw [add_block]; exact hn204_1) | exact hn204_1) (.string ((rd_T101 l0 x7_1).f1))).trans hx204_0; replace hx204_1 := (cell_far (p := ⟨gb203, 1, none⟩) (by first | (rw [add_block]; exact hn204_1) | (show (Addr.add _ _).block ≠ _; rw [add_block]; exact hn204_1) | exact hn204_1) (.string ((rd_T101 l0 x7_1).f1))).trans hx204_1; (try have hy204_0 := fun (n_ : Nat) => (show ((((w18.drewN n_).setCell ⟨gb203, 0, none⟩ (.string ((rd_T101 l0 x7_1).f0))).setCell ⟨gb203, 1, none⟩ (.string ((rd_T101 l0 x7_1).f1)))).cell? _ = some _ from hx204_0)); (try have hy204_1 := fun (n_ : Nat) => (show ((((w18.drewN n_).setCell ⟨gb203, 0, none⟩ (.string ((rd_T101 l0 x7_1).f0))).setCell ⟨gb203, 1, none⟩ (.string ((rd_T101 l0 x7_1).f1)))).cell? _ = some _ from hx204_1)); clear hn204_0; clear hn204_1; replace p204 := eq_true p204; replace q204 := eq_true q204)); try go_wp2_with (first | ((with_reducible refine zq25 (N := 4) rfl ?_); (try (refine gate_guard (by rfl) ?_; dsimp only)); refine bx 4 #[.string (⟨#[]⟩ : ByteArray), .string (⟨#[]⟩ : ByteArray)] 101 ?_; intro gb203 hg w18 hbox hb; have n0_ := zq9 (zq27 (by exact bl HB) hb); have n1_ := zq9 (hbox); have n2_ := zq9 ((by rw [hg]; exact (zq29 (by exact bl HB)) : w.heap.size ≤ gb203)); have n3_ := n2_; clear HB; have HB := n0_; have BK203 := n1_; have GW203 := n2_; have GE203 := n3_; clear n0_ n1_ n2_ n3_; clear hb hbox hg; have hcz19_0 : w18.cell? ⟨gb203, 0, none⟩ = some (.string (⟨#[]⟩ : ByteArray)) := bc BK203 0; have hcz19_1 : w18.cell? ⟨gb203, 1, none⟩ = some (.string (⟨#[]⟩ : ByteArray)) := bc BK203 1; have hfz19_0 := zq6 BK203.out 0; have hfz19_1 := zq6 BK203.out 1; have p204 : 0 ≤ ((ji12) : Int) := of_decide_eq_true ‹_›; have q204 : (ji12) < (l0.length : Int) := of_decide_eq_true ‹_›; obtain ⟨ad204, e204, hx204_0, hx204_1⟩ := at_T101 HR0.out (ji12) p204 q204; obtain rfl : ad202 = ad204 := (by injection e204); have hn204_0 : ad202.block ≠ gb203 := Nat.ne_of_lt (Nat.lt_of_lt_of_le (by have := zq8 _ _ hx204_0; first | rwa [add_block] at this | exact this) GW203.out); have hn204_1 : ad202.block ≠ gb203 := Nat.ne_of_lt (Nat.lt_of_lt_of_le (by have := zq8 _ _ hx204_0; first | rwa [add_block] at this | exact this) GW203.out); replace hx204_0 := hcl HB hx204_0; replace hx204_1 := hcl HB hx204_1; replace hx204_0 := (cell_far (p := ⟨gb203, 0, none⟩) (by first | (rw [add_block]; exact hn204_0) | (show (Addr.add _ _).block ≠ _; rw [add_block]; exact hn204_0) | exact hn204_0) (.string ((rd_T101 l0 x7_1).f0))).trans hx204_0; replace hx204_1 := (cell_far (p := ⟨gb203, 0, none⟩) (by first | (rw [add_block]; exact hn204_0) | (show (Addr.add _ _).block ≠ _; rw [add_block]; exact hn204_0) | exact hn204_0) (.string ((rd_T101 l0 x7_1).f0))).trans hx204_1; replace hx204_0 := (cell_far (p := ⟨gb203, 1, none⟩) (by first | (rw [add_block]; exact hn204_1) | (show (Addr.add _ _).block ≠ _; rw [add_block]; exact hn204_1) | exact hn204_1) (.string ((rd_T101 l0 x7_1).f1))).trans hx204_0; replace hx204_1 := (cell_far (p := ⟨gb203, 1, none⟩) (by first | (rw [add_block]; exact hn204_1) | (show (Addr.add _ _).block ≠ _; rw [add_block]; exact hn204_1) | exact hn204_1) (.string ((rd_T101 l0 x7_1).f1))).trans hx204_1; (try have hy204_0 := fun (n_ : Nat) => (show ((((w18.drewN n_).setCell ⟨gb203, 0, none⟩ (.string ((rd_T101 l0 x7_1).f0))).setCell ⟨gb203, 1, none⟩ (.string ((rd_T101 l0 x7_1).f1)))).cell? _ = some _ from hx204_0)); (try have hy204_1 := fun (n_ : Nat) => (show ((((w18.drewN n_).setCell ⟨gb203, 0, none⟩ (.string ((rd_T101 l0 x7_1).f0))).setCell ⟨gb203, 1, none⟩ (.string ((rd_T101 l0 x7_1).f1)))).cell? _ = some _ from hx204_1)); clear hn204_0; clear hn204_1; replace p204 := eq_true p204; replace q204 := eq_true q204)))
            go_ret
            exact ⟨by first | rfl | (simp [errW_none, errW_some] <;> rfl) | (simp only [← hji12]; first | rfl | (simp [errW_none, errW_some] <;> rfl)) | (simp [*, errW_none, errW_some] <;> rfl), by exact b1 HB GE203⟩
          ·rw [if_neg c14] at H
           exact absurd H (by simp)
         ·rw [if_neg c13] at H
          exact absurd H (by simp)
        ·rw [if_neg c11] at H; have c11b0 : decide (0 < x7_1) = false := decide_eq_false c11; clear c11; have H' := zq9 H; clear H
         have p202 : 0 ≤ (x7_1 : Int) := of_decide_eq_true ‹_›
         have q202 : x7_1 < (l0.length : Int) := of_decide_eq_true ‹_›
         obtain ⟨ad202, e202, hx202_0, hx202_1⟩ := at_T101 HR0.out x7_1 p202 q202
         cases e202; replace hx202_0 := hcl HB hx202_0; replace hx202_1 := hcl HB hx202_1; replace p202 := eq_true p202; replace q202 := eq_true q202
         go_wp2_with (first | ((with_reducible refine zq25 (N := 4) rfl ?_); (try (refine gate_guard (by rfl) ?_; dsimp only)); refine bx 4 #[.string (⟨#[]⟩ : ByteArray), .string (⟨#[]⟩ : ByteArray)] 101 ?_; intro gb203 hg w20 hbox hb; have n0_ := zq9 (zq27 (by exact bl HB) hb); have n1_ := zq9 (hbox); have n2_ := zq9 ((by rw [hg]; exact (zq29 (by exact bl HB)) : w.heap.size ≤ gb203)); have n3_ := n2_; clear HB; have HB := n0_; have BK203 := n1_; have GW203 := n2_; have GE203 := n3_; clear n0_ n1_ n2_ n3_; clear hb hbox hg; have hcz21_0 : w20.cell? ⟨gb203, 0, none⟩ = some (.string (⟨#[]⟩ : ByteArray)) := bc BK203 0; have hcz21_1 : w20.cell? ⟨gb203, 1, none⟩ = some (.string (⟨#[]⟩ : ByteArray)) := bc BK203 1; have hfz21_0 := zq6 BK203.out 0; have hfz21_1 := zq6 BK203.out 1))
         repeat (go_quiet (first | ((with_reducible refine zq25 (N := 4) rfl ?_); (try (refine gate_guard (by rfl) ?_; dsimp only)); refine bx 4 #[.string (⟨#[]⟩ : ByteArray), .string (⟨#[]⟩ : ByteArray)] 101 ?_; intro gb203 hg w20 hbox hb; have n0_ := zq9 (zq27 (by exact bl HB) hb); have n1_ := zq9 (hbox); have n2_ := zq9 ((by rw [hg]; exact (zq29 (by exact bl HB)) : w.heap.size ≤ gb203)); have n3_ := n2_; clear HB; have HB := n0_; have BK203 := n1_; have GW203 := n2_; have GE203 := n3_; clear n0_ n1_ n2_ n3_; clear hb hbox hg; have hcz21_0 : w20.cell? ⟨gb203, 0, none⟩ = some (.string (⟨#[]⟩ : ByteArray)) := bc BK203 0; have hcz21_1 : w20.cell? ⟨gb203, 1, none⟩ = some (.string (⟨#[]⟩ : ByteArray)) := bc BK203 1; have hfz21_0 := zq6 BK203.out 0; have hfz21_1 := zq6 BK203.out 1)); try go_wp2_with (first | ((with_reducible refine zq25 (N := 4) rfl ?_); (try (refine gate_guard (by rfl) ?_; dsimp only)); refine bx 4 #[.string (⟨#[]⟩ : ByteArray), .string (⟨#[]⟩ : ByteArray)] 101 ?_; intro gb203 hg w20 hbox hb; have n0_ := zq9 (zq27 (by exact bl HB) hb); have n1_ := zq9 (hbox); have n2_ := zq9 ((by rw [hg]; exact (zq29 (by exact bl HB)) : w.heap.size ≤ gb203)); have n3_ := n2_; clear HB; have HB := n0_; have BK203 := n1_; have GW203 := n2_; have GE203 := n3_; clear n0_ n1_ n2_ n3_; clear hb hbox hg; have hcz21_0 : w20.cell? ⟨gb203, 0, none⟩ = some (.string (⟨#[]⟩ : ByteArray)) := bc BK203 0; have hcz21_1 : w20.cell? ⟨gb203, 1, none⟩ = some (.string (⟨#[]⟩ : ByteArray)) := bc BK203 1; have hfz21_0 := zq6 BK203.out 0; have hfz21_1 := zq6 BK203.out 1)))
         go_roundg k1
         case measure => have := HK1.out; omega
         case rel => exact ⟨(wrap64 (x7_1 + 1)), (by first | rfl | (simp; done) | (simp [*]; done)), H', ⟨by have := HK1.out; omega⟩, ⟨by exact b1 HB GE203⟩⟩
     case n2 =>
      rw [if_neg c4] at H
      exact absurd H (by simp)
    case n1 =>
     rw [if_neg c3] at H
     exact absurd H (by simp)
   case n0 =>
    rw [if_neg c2] at H; have c2b0 : decide (x7_1 < (l0.length : Int)) = false := decide_eq_false c2; clear c2; obtain rfl := Option.some.inj H
    go_wp2
    repeat (go_quiet (fail); try go_wp2)
    go_ret
    exact fz (by exact bl HB)
   case p3 | n3 =>
    have p202 : 0 ≤ (x7_1 : Int) := of_decide_eq_true ‹_›
    have q202 : x7_1 < (l0.length : Int) := of_decide_eq_true ‹_›
    obtain ⟨ad202, e202, hx202_0, hx202_1⟩ := at_T101 HR0.out x7_1 p202 q202
    cases e202; replace hx202_0 := hcl HB hx202_0; replace hx202_1 := hcl HB hx202_1; replace p202 := eq_true p202; replace q202 := eq_true q202
    try go_wp2_with (first | ((with_reducible refine zq25 (N := 4) rfl ?_); (try (refine gate_guard (by rfl) ?_; dsimp only)); refine bx 4 #[.string (⟨#[]⟩ : ByteArray), .string (⟨#[]⟩ : ByteArray)] 101 ?_; intro gb203 hg w6 hbox hb; have n0_ := zq9 (zq27 (by exact bl HB) hb); have n1_ := zq9 (hbox); have n2_ := zq9 ((by rw [hg]; exact (zq29 (by exact bl HB)) : w.heap.size ≤ gb203)); have n3_ := n2_; clear HB; have HB := n0_; have BK203 := n1_; have GW203 := n2_; have GE203 := n3_; clear n0_ n1_ n2_ n3_; clear hb hbox hg; have hcz7_0 : w6.cell? ⟨gb203, 0, none⟩ = some (.string (⟨#[]⟩ : ByteArray)) := bc BK203 0; have hcz7_1 : w6.cell? ⟨gb203, 1, none⟩ = some (.string (⟨#[]⟩ : ByteArray)) := bc BK203 1; have hfz7_0 := zq6 BK203.out 0; have hfz7_1 := zq6 BK203.out 1))
    repeat (go_quiet (first | ((with_reducible refine zq25 (N := 4) rfl ?_); (try (refine gate_guard (by rfl) ?_; dsimp only)); refine bx 4 #[.string (⟨#[]⟩ : ByteArray), .string (⟨#[]⟩ : ByteArray)] 101 ?_; intro gb203 hg w6 hbox hb; have n0_ := zq9 (zq27 (by exact bl HB) hb); have n1_ := zq9 (hbox); have n2_ := zq9 ((by rw [hg]; exact (zq29 (by exact bl HB)) : w.heap.size ≤ gb203)); have n3_ := n2_; clear HB; have HB := n0_; have BK203 := n1_; have GW203 := n2_; have GE203 := n3_; clear n0_ n1_ n2_ n3_; clear hb hbox hg; have hcz7_0 : w6.cell? ⟨gb203, 0, none⟩ = some (.string (⟨#[]⟩ : ByteArray)) := bc BK203 0; have hcz7_1 : w6.cell? ⟨gb203, 1, none⟩ = some (.string (⟨#[]⟩ : ByteArray)) := bc BK203 1; have hfz7_0 := zq6 BK203.out 0; have hfz7_1 := zq6 BK203.out 1)); try go_wp2_with (first | ((with_reducible refine zq25 (N := 4) rfl ?_); (try (refine gate_guard (by rfl) ?_; dsimp only)); refine bx 4 #[.string (⟨#[]⟩ : ByteArray), .string (⟨#[]⟩ : ByteArray)] 101 ?_; intro gb203 hg w6 hbox hb; have n0_ := zq9 (zq27 (by exact bl HB) hb); have n1_ := zq9 (hbox); have n2_ := zq9 ((by rw [hg]; exact (zq29 (by exact bl HB)) : w.heap.size ≤ gb203)); have n3_ := n2_; clear HB; have HB := n0_; have BK203 := n1_; have GW203 := n2_; have GE203 := n3_; clear n0_ n1_ n2_ n3_; clear hb hbox hg; have hcz7_0 : w6.cell? ⟨gb203, 0, none⟩ = some (.string (⟨#[]⟩ : ByteArray)) := bc BK203 0; have hcz7_1 : w6.cell? ⟨gb203, 1, none⟩ = some (.string (⟨#[]⟩ : ByteArray)) := bc BK203 1; have hfz7_0 := zq6 BK203.out 0; have hfz7_1 := zq6 BK203.out 1)))
    go_ret
    exact fz (by exact b1 HB GE203)
set_option maxHeartbeats 8000000 in
set_option maxRecDepth 100000 in
theorem impl_EntryOk.calls (k : Nat) (a0_0 : ByteArray) (a0_1 : Int) (a0_2 : Int) (a0_3 : ByteArray) (A0_4 : Option Addr) (c0_4 : Nat) (l0_4 : List ByteArray) (A0_5 : Option Addr) (c0_5 : Nat) (l0_5 : List (S99)) (A0_6 : Option Addr) (c0_6 : Nat) (l0_6 : List (S101)) (r : Bool) (w : World) (hr0_4 : Kd.C Kd.string w A0_4 l0_4.length l0_4) (hc0_4 : l0_4.length ≤ c0_4) (hr0_5 : Kd.C k99 w A0_5 l0_5.length l0_5) (hc0_5 : l0_5.length ≤ c0_5) (hr0_6 : Kd.C k101 w A0_6 l0_6.length l0_6) (hc0_6 : l0_6.length ≤ c0_6) (h : impl_EntryOk.f k a0_0 a0_1 a0_2 a0_3 l0_4 l0_5 l0_6 = some r) :
  Calls Try.prog 13 #[.agg #[.string a0_0, .int .i64 a0_1, .int .i64 a0_2, .string a0_3, .slice A0_4 l0_4.length c0_4, .slice A0_5 l0_5.length c0_5, .slice A0_6 l0_6.length c0_6]] w fun e w' => e = .returned (.bool r) ∧ Below w.heap.size w w' := by
 have hu32 := Try.underlying32; have HR0_4 := zq9 hr0_4; have HC0_4 := zq9 hc0_4; clear hr0_4 hc0_4; have HR0_5 := zq9 hr0_5; have HC0_5 := zq9 hc0_5; clear hr0_5 hc0_5; have HR0_6 := zq9 hr0_6; have HC0_6 := zq9 hc0_6; clear hr0_6 hc0_6
 have HB := zq9 (Below.refl w.heap.size w)
 have H : ((impl_keyOk.f a0_0).bind fun t206 => (if t206 = true then ((impl_within.f a0_1 0 2000000).bind fun t207 => (impl_EntryOk.j0 k (!t207) a0_0 a0_1 a0_2 a0_3 l0_4 l0_5 l0_6)) else (impl_EntryOk.j0 k true a0_0 a0_1 a0_2 a0_3 l0_4 l0_5 l0_6))) = some r := h
 clear h; have HC2 := zq9 H; clear H
 go_enter Try.func13, Try.ntmps13
 go_upto_region 1 with (first | ((with_reducible refine zq25 (N := 1) rfl ?_); refine bx 1 #[.string a0_0, .int .i64 a0_1, .int .i64 a0_2, .string a0_3, .slice A0_4 l0_4.length c0_4, .slice A0_5 l0_5.length c0_5, .slice A0_6 l0_6.length c0_6] 32 ?_; intro gb205 hg w3 hbox hb; have n0_ := zq9 (zq27 (by exact bl HB) hb); have n1_ := zq9 (hbox); have n2_ := zq9 ((by rw [hg]; exact (zq29 (by exact bl HB)) : w.heap.size ≤ gb205)); have n3_ := n2_; clear HB; have HB := n0_; have BK205 := n1_; have GW205 := n2_; have GE205 := n3_; clear n0_ n1_ n2_ n3_; clear hb hbox hg))
 repeat (go_quiet (first | ((with_reducible refine zq25 (N := 1) rfl ?_); refine bx 1 #[.string a0_0, .int .i64 a0_1, .int .i64 a0_2, .string a0_3, .slice A0_4 l0_4.length c0_4, .slice A0_5 l0_5.length c0_5, .slice A0_6 l0_6.length c0_6] 32 ?_; intro gb205 hg w3 hbox hb; have n0_ := zq9 (zq27 (by exact bl HB) hb); have n1_ := zq9 (hbox); have n2_ := zq9 ((by rw [hg]; exact (zq29 (by exact bl HB)) : w.heap.size ≤ gb205)); have n3_ := n2_; clear HB; have HB := n0_; have BK205 := n1_; have GW205 := n2_; have GE205 := n3_; clear n0_ n1_ n2_ n3_; clear hb hbox hg)); go_upto_region 1 with (first | ((with_reducible refine zq25 (N := 1) rfl ?_); refine bx 1 #[.string a0_0, .int .i64 a0_1, .int .i64 a0_2, .string a0_3, .slice A0_4 l0_4.length c0_4, .slice A0_5 l0_5.length c0_5, .slice A0_6 l0_6.length c0_6] 32 ?_; intro gb205 hg w3 hbox hb; have n0_ := zq9 (zq27 (by exact bl HB) hb); have n1_ := zq9 (hbox); have n2_ := zq9 ((by rw [hg]; exact (zq29 (by exact bl HB)) : w.heap.size ≤ gb205)); have n3_ := n2_; clear HB; have HB := n0_; have BK205 := n1_; have GW205 := n2_; have GE205 := n3_; clear n0_ n1_ n2_ n3_; clear hb hbox hg)))
 (try simp only [Act.put, zq0, zq1, zq2])
 go_cut [16] (fun v16 wc => ∃ (kq : Nat) (x16_1 : Bool), v16 = .bool x16_1 ∧ Aside0 (impl_EntryOk.j0 kq x16_1 a0_0 a0_1 a0_2 a0_3 l0_4 l0_5 l0_6 = some r) ∧ Aside0 (kq ≤ k) ∧ Aside0 (wc.heap[gb205]? = some (.cells #[.string a0_0, .int .i64 a0_1, .int .i64 a0_2, .string a0_3, (.slice A0_4 l0_4.length c0_4), (.slice A0_5 l0_5.length c0_5), (.slice A0_6 l0_6.length c0_6)] 32 (0, 0))) ∧ Aside0 (Below w.heap.size w wc))
 case first =>
  have H := HC2.out; clear HC2; replace H := Option.bind_eq_some_iff.mp H; obtain ⟨t206, A40, H⟩ := H
  try dsimp only at H
  have A4 := zq9 A40; clear A40
  have hcz7_0 : w3.cell? ⟨gb205, 0, none⟩ = some (.string a0_0) := bc BK205 0
  have hcz7_1 : w3.cell? ⟨gb205, 1, none⟩ = some (.int .i64 a0_1) := bc BK205 1
  have hcz7_2 : w3.cell? ⟨gb205, 2, none⟩ = some (.int .i64 a0_2) := bc BK205 2
  have hcz7_3 : w3.cell? ⟨gb205, 3, none⟩ = some (.string a0_3) := bc BK205 3
  have hcz7_4 : w3.cell? ⟨gb205, 4, none⟩ = some (.slice A0_4 l0_4.length c0_4) := bc BK205 4
  have hcz7_5 : w3.cell? ⟨gb205, 5, none⟩ = some (.slice A0_5 l0_5.length c0_5) := bc BK205 5
  have hcz7_6 : w3.cell? ⟨gb205, 6, none⟩ = some (.slice A0_6 l0_6.length c0_6) := bc BK205 6
  have hfz7_0 := zq6 BK205.out 0
  have hfz7_1 := zq6 BK205.out 1
  have hfz7_2 := zq6 BK205.out 2
  have hfz7_3 := zq6 BK205.out 3
  have hfz7_4 := zq6 BK205.out 4
  have hfz7_5 := zq6 BK205.out 5
  have hfz7_6 := zq6 BK205.out 6
  by_cases c5 : t206 = true
  ·subst c5
   have H1 : ((impl_within.f a0_1 0 2000000).bind fun t207 => (impl_EntryOk.j0 k (!t207) a0_0 a0_1 a0_2 a0_3 l0_4 l0_5 l0_6)) = some r := by rw [if_pos rfl] at H; exact H
   clear H; have H := H1; clear H1; replace H := Option.bind_eq_some_iff.mp H; obtain ⟨t207, A60, H⟩ := H
   try dsimp only at H
   have A6 := zq9 A60; clear A60; have H' := zq9 H; clear H
   go_wp2_with (first | (go_at_call 48; (with_reducible refine (impl_keyOk.calls a0_0 true _ A4.out).mono ?_); rintro e w' ⟨rfl, ⟨nd, rfl⟩⟩; (try first | exact ⟨rfl, _, zq32 _ _ _⟩ | exact ⟨rfl, _, Eq.trans (zq32 _ _ _) (congrArg (World.drewN _) (Nat.add_assoc _ _ _))⟩)) | (go_at_call 49; (with_reducible refine (impl_within.calls a0_1 0 2000000 t207 _ A6.out).mono ?_); rintro e w' ⟨rfl, ⟨nd, rfl⟩⟩; (try first | exact ⟨rfl, _, zq32 _ _ _⟩ | exact ⟨rfl, _, Eq.trans (zq32 _ _ _) (congrArg (World.drewN _) (Nat.add_assoc _ _ _))⟩)))
   repeat (go_quiet (first | (go_at_call 48; (with_reducible refine (impl_keyOk.calls a0_0 true _ A4.out).mono ?_); rintro e w' ⟨rfl, ⟨nd, rfl⟩⟩; (try first | exact ⟨rfl, _, zq32 _ _ _⟩ | exact ⟨rfl, _, Eq.trans (zq32 _ _ _) (congrArg (World.drewN _) (Nat.add_assoc _ _ _))⟩)) | (go_at_call 49; (with_reducible refine (impl_within.calls a0_1 0 2000000 t207 _ A6.out).mono ?_); rintro e w' ⟨rfl, ⟨nd, rfl⟩⟩; (try first | exact ⟨rfl, _, zq32 _ _ _⟩ | exact ⟨rfl, _, Eq.trans (zq32 _ _ _) (congrArg (World.drewN _) (Nat.add_assoc _ _ _))⟩))); try go_wp2_with (first | (go_at_call 48; (with_reducible refine (impl_keyOk.calls a0_0 true _ A4.out).mono ?_); rintro e w' ⟨rfl, ⟨nd, rfl⟩⟩; (try first | exact ⟨rfl, _, zq32 _ _ _⟩ | exact ⟨rfl, _, Eq.trans (zq32 _ _ _) (congrArg (World.drewN _) (Nat.add_assoc _ _ _))⟩)) | (go_at_call 49; (with_reducible refine (impl_within.calls a0_1 0 2000000 t207 _ A6.out).mono ?_); rintro e w' ⟨rfl, ⟨nd, rfl⟩⟩; (try first | exact ⟨rfl, _, zq32 _ _ _⟩ | exact ⟨rfl, _, Eq.trans (zq32 _ _ _) (congrArg (World.drewN _) (Nat.add_assoc _ _ _))⟩))))
   go_meet
   case rel => exact ⟨_, (!t207), (by first | rfl | (simp; done) | (simp [*]; done)), H', ⟨by first | omega | exact Nat.le_refl _⟩, ⟨by refine bp ?_; exact BK205.out⟩, ⟨by exact b1 HB GE205⟩⟩
  ·replace c5 := Bool.eq_false_iff.mpr c5
   subst c5
   have H1 : (impl_EntryOk.j0 k true a0_0 a0_1 a0_2 a0_3 l0_4 l0_5 l0_6) = some r := by rw [if_neg (show ¬ (false = true) by decide)] at H; exact H
   clear H; have H := H1; clear H1; have H' := zq9 H; clear H
   go_wp2_with (first | (go_at_call 48; (with_reducible refine (impl_keyOk.calls a0_0 false _ A4.out).mono ?_); rintro e w' ⟨rfl, ⟨nd, rfl⟩⟩; (try first | exact ⟨rfl, _, zq32 _ _ _⟩ | exact ⟨rfl, _, Eq.trans (zq32 _ _ _) (congrArg (World.drewN _) (Nat.add_assoc _ _ _))⟩)))
   repeat (go_quiet (first | (go_at_call 48; (with_reducible refine (impl_keyOk.calls a0_0 false _ A4.out).mono ?_); rintro e w' ⟨rfl, ⟨nd, rfl⟩⟩; (try first | exact ⟨rfl, _, zq32 _ _ _⟩ | exact ⟨rfl, _, Eq.trans (zq32 _ _ _) (congrArg (World.drewN _) (Nat.add_assoc _ _ _))⟩))); try go_wp2_with (first | (go_at_call 48; (with_reducible refine (impl_keyOk.calls a0_0 false _ A4.out).mono ?_); rintro e w' ⟨rfl, ⟨nd, rfl⟩⟩; (try first | exact ⟨rfl, _, zq32 _ _ _⟩ | exact ⟨rfl, _, Eq.trans (zq32 _ _ _) (congrArg (World.drewN _) (Nat.add_assoc _ _ _))⟩))))
   go_meet
   case rel => exact ⟨_, (true), (by first | rfl | (simp; done) | (simp [*]; done)), H', ⟨by first | omega | exact Nat.le_refl _⟩, ⟨by refine bp ?_; exact BK205.out⟩, ⟨by exact b1 HB GE205⟩⟩
 case rest =>
  clear HC2
  try clear c1
  try clear p2
  try clear c5
  try clear hcz7_0
  try clear hcz7_1
  try clear hcz7_2
  try clear hcz7_3
  try clear hcz7_4
  try clear hcz7_5
  try clear hcz7_6
  try clear hcz8_0
  try clear hcz8_1
  try clear hcz8_2
  try clear hcz8_3
  try clear hcz8_4
  try clear hcz8_5
  try clear hcz8_6
  try clear hfz7_0
  try clear hfz7_1
  try clear hfz7_2
  try clear hfz7_3
  try clear hfz7_4
  try clear hfz7_5
  try clear hfz7_6
  try clear hfz8_0
  try clear hfz8_1
  try clear hfz8_2
  try clear hfz8_3
  try clear hfz8_4
  try clear hfz8_5
  try clear hfz8_6
  obtain ⟨kq, x16_1, rfl, HA, HJ1, BK205, HB⟩ := hcut
  cases kq with
  | zero => exact absurd HA.out (by simp [impl_EntryOk.j0])
  | succ kj1 =>
   have H := HA.out; clear HA
   simp only [impl_EntryOk.j0] at H
   refine (Classical.em (x16_1 = true)).elim (fun c9 => ?p1) (fun c9 => ?n1)
   case p1 =>
    subst c9
    have H1 : (some false) = some r := by rw [if_pos rfl] at H; exact H
    clear H; have H := H1; clear H1; obtain rfl := Option.some.inj H
    go_wp2
    repeat (go_quiet (fail); try go_wp2)
    go_ret
    exact fz (by exact b1 HB GE205)
   case' n1 =>
    replace c9 := Bool.eq_false_iff.mpr c9
    subst c9
    have H1 : (if a0_2 = 1 then (if (a0_3.size : Int) ≤ 40 then (if ((l0_4.length : Int) > 0) then (some false) else (if ((l0_5.length : Int) > 0) then (some false) else (some (!(decide ((l0_6.length : Int) > 0)))))) else (some false)) else (if a0_2 = 2 then (if (l0_4.length : Int) > 0 then ((impl_listOk.f kj1 l0_4).bind fun t208 => (if t208 = true then (if (¬ a0_3.toList = ([] : List UInt8)) then (some false) else (if ((l0_5.length : Int) > 0) then (some false) else (some (!(decide ((l0_6.length : Int) > 0)))))) else (some false))) else (some false)) else (if a0_2 = 3 then (if (l0_4.length : Int) > 0 then ((impl_SetOk.f kj1 l0_4).bind fun t209 => (if t209 = true then (if (¬ a0_3.toList = ([] : List UInt8)) then (some false) else (if ((l0_5.length : Int) > 0) then (some false) else (some (!(decide ((l0_6.length : Int) > 0)))))) else (some false))) else (some false)) else (if a0_2 = 4 then (if (l0_5.length : Int) > 0 then ((impl_ScoresOk.f kj1 l0_5).bind fun t210 => (if t210 = true then (if (¬ a0_3.toList = ([] : List UInt8)) then (some false) else (if ((l0_4.length : Int) > 0) then (some false) else (some (!(decide ((l0_6.length : Int) > 0)))))) else (some false))) else (some false)) else (if a0_2 = 5 then (if (l0_6.length : Int) > 0 then ((impl_FieldsOk.f kj1 l0_6).bind fun t211 => (if t211 = true then (if (¬ a0_3.toList = ([] : List UInt8)) then (some false) else (if ((l0_4.length : Int) > 0) then (some false) else (some (!(decide ((l0_5.length : Int) > 0)))))) else (some false))) else (some false)) else (some false)))))) = some r := by rw [if_neg (show ¬ (false = true) by decide)] at H; exact H
    clear H; have H := H1; clear H1
    have hcz13_0 : wc.cell? ⟨gb205, 0, none⟩ = some (.string a0_0) := bc BK205 0
    have hcz13_1 : wc.cell? ⟨gb205, 1, none⟩ = some (.int .i64 a0_1) := bc BK205 1
    have hcz13_2 : wc.cell? ⟨gb205, 2, none⟩ = some (.int .i64 a0_2) := bc BK205 2
    have hcz13_3 : wc.cell? ⟨gb205, 3, none⟩ = some (.string a0_3) := bc BK205 3
    have hcz13_4 : wc.cell? ⟨gb205, 4, none⟩ = some (.slice A0_4 l0_4.length c0_4) := bc BK205 4
    have hcz13_5 : wc.cell? ⟨gb205, 5, none⟩ = some (.slice A0_5 l0_5.length c0_5) := bc BK205 5
    have hcz13_6 : wc.cell? ⟨gb205, 6, none⟩ = some (.slice A0_6 l0_6.length c0_6) := bc BK205 6
    have hfz13_0 := zq6 BK205.out 0
    have hfz13_1 := zq6 BK205.out 1
    have hfz13_2 := zq6 BK205.out 2
    have hfz13_3 := zq6 BK205.out 3
    have hfz13_4 := zq6 BK205.out 4
    have hfz13_5 := zq6 BK205.out 5
    have hfz13_6 := zq6 BK205.out 6
    refine (Classical.em (a0_2 = 1)).elim (fun c10 => ?p2) (fun c10 => ?n2)
    case p2 =>
     rw [if_pos c10] at H
     have c10b0 : (a0_2 == 1) = true := beq_iff_eq.mpr c10
     have c10b1 : (a0_2 != 1) = false := bne_eq_false_iff_eq.mpr c10
     clear c10
     go_wp2
     by_cases c11 : (a0_3.size : Int) ≤ 40
     ·rw [if_pos c11] at H; have c11b0 : decide ((a0_3.size : Int) ≤ 40) = true := decide_eq_true c11
      have c11b1 : decide (a0_3.size ≤ 40) = true := decide_eq_true (by omega)
      clear c11
      by_cases c12 : ((l0_4.length : Int) > 0)
      ·rw [if_pos c12] at H; have c12b0 : decide (0 < (l0_4.length : Int)) = true := decide_eq_true c12
       have c12b1 : decide (0 < l0_4.length) = true := decide_eq_true (by omega)
       clear c12; obtain rfl := Option.some.inj H
       repeat (go_quiet (fail); try go_wp2)
       go_ret
       exact fz (by exact b1 HB GE205)
      ·rw [if_neg c12] at H; have c12b0 : decide (0 < (l0_4.length : Int)) = false := decide_eq_false c12
       have c12b1 : decide (0 < l0_4.length) = false := decide_eq_false (by omega)
       clear c12
       by_cases c14 : ((l0_5.length : Int) > 0)
       ·rw [if_pos c14] at H; have c14b0 : decide (0 < (l0_5.length : Int)) = true := decide_eq_true c14
        have c14b1 : decide (0 < l0_5.length) = true := decide_eq_true (by omega)
        clear c14; obtain rfl := Option.some.inj H
        repeat (go_quiet (fail); try go_wp2)
        go_ret
        exact fz (by exact b1 HB GE205)
       ·rw [if_neg c14] at H; have c14b0 : decide (0 < (l0_5.length : Int)) = false := decide_eq_false c14
        have c14b1 : decide (0 < l0_5.length) = false := decide_eq_false (by omega)
        clear c14; obtain rfl := Option.some.inj H
        repeat (go_quiet (fail); try go_wp2)
        go_ret
        exact fz (by exact b1 HB GE205)
     ·rw [if_neg c11] at H; have c11b0 : decide ((a0_3.size : Int) ≤ 40) = false := decide_eq_false c11
      have c11b1 : decide (a0_3.size ≤ 40) = false := decide_eq_false (by omega)
      clear c11; obtain rfl := Option.some.inj H
      repeat (go_quiet (fail); try go_wp2)
      go_ret
      exact fz (by exact b1 HB GE205)
    case' n2 =>
     rw [if_neg c10] at H
     have c10b0 : (a0_2 == 1) = false := beq_eq_false_iff_ne.mpr c10
     have c10b1 : (a0_2 != 1) = true := bne_iff_ne.mpr c10
     refine (Classical.em (a0_2 = 2)).elim (fun c18 => ?p6) (fun c18 => ?n6)
     case' p6 =>
      rw [if_pos c18] at H
      have c18b0 : (a0_2 == 2) = true := beq_iff_eq.mpr c18
      have c18b1 : (a0_2 != 2) = false := bne_eq_false_iff_eq.mpr c18
      clear c18
      refine (Classical.em ((l0_4.length : Int) > 0)).elim (fun c19 => ?p7) (fun c19 => ?n7)
      case' p7 =>
       rw [if_pos c19] at H; have c19b0 : decide (0 < (l0_4.length : Int)) = true := decide_eq_true c19
       have c19b1 : decide (0 < l0_4.length) = true := decide_eq_true (by omega)
       clear c19; replace H := Option.bind_eq_some_iff.mp H; obtain ⟨t208, A200, H⟩ := H
       try dsimp only at H
       have A20 := zq9 A200; clear A200
       go_wp2_with (first | (go_at_call 50; (with_reducible refine (impl_listOk.calls kj1 _ _ l0_4 t208 _ ?side1 ?side2 A20.out).mono ?_); (case side1 => exact kc HR0_4 HB); (case side2 => exact HC0_4.out); rintro e w' ⟨rfl, ⟨nd, rfl⟩⟩; (try first | exact ⟨rfl, _, zq32 _ _ _⟩ | exact ⟨rfl, _, Eq.trans (zq32 _ _ _) (congrArg (World.drewN _) (Nat.add_assoc _ _ _))⟩)))
       refine (Classical.em (t208 = true)).elim (fun c21 => ?p8) (fun c21 => ?n8)
       case' p8 =>
        subst c21
        have H1 : (if (¬ a0_3.toList = ([] : List UInt8)) then (some false) else (if ((l0_5.length : Int) > 0) then (some false) else (some (!(decide ((l0_6.length : Int) > 0)))))) = some r := by rw [if_pos rfl] at H; exact H
        clear H; have H := H1; clear H1
        refine (Classical.em ((¬ a0_3.toList = ([] : List UInt8)))).elim (fun c22 => ?p9) (fun c22 => ?n9)
        case' p9 =>
         rw [if_pos c22] at H
         have c22b0 : (a0_3.toList == ([] : List UInt8)) = false := beq_eq_false_iff_ne.mpr c22
         have c22b1 : (a0_3.toList != ([] : List UInt8)) = true := bne_iff_ne.mpr c22
         clear c22; obtain rfl := Option.some.inj H
        case' n9 =>
         rw [if_neg c22] at H
         have c22b0 : (a0_3.toList == ([] : List UInt8)) = true := beq_iff_eq.mpr (Decidable.not_not.mp c22)
         have c22b1 : (a0_3.toList != ([] : List UInt8)) = false := bne_eq_false_iff_eq.mpr (Decidable.not_not.mp c22)
         refine (Classical.em (((l0_5.length : Int) > 0))).elim (fun c24 => ?p10) (fun c24 => ?n10)
         case' p10 =>
          rw [if_pos c24] at H; have c24b0 : decide (0 < (l0_5.length : Int)) = true := decide_eq_true c24
          have c24b1 : decide (0 < l0_5.length) = true := decide_eq_true (by omega)
          clear c24; obtain rfl := Option.some.inj H
         case' n10 =>
          rw [if_neg c24] at H; have c24b0 : decide (0 < (l0_5.length : Int)) = false := decide_eq_false c24
          have c24b1 : decide (0 < l0_5.length) = false := decide_eq_false (by omega)
          clear c24; obtain rfl := Option.some.inj H
       case n8 =>
        replace c21 := Bool.eq_false_iff.mpr c21
        subst c21
        have H1 : (some false) = some r := by rw [if_neg (show ¬ (false = true) by decide)] at H; exact H
        clear H; have H := H1; clear H1; obtain rfl := Option.some.inj H
        repeat (go_quiet (first | (go_at_call 50; (with_reducible refine (impl_listOk.calls kj1 _ _ l0_4 false _ ?side1 ?side2 A20.out).mono ?_); (case side1 => exact kc HR0_4 HB); (case side2 => exact HC0_4.out); rintro e w' ⟨rfl, ⟨nd, rfl⟩⟩; (try first | exact ⟨rfl, _, zq32 _ _ _⟩ | exact ⟨rfl, _, Eq.trans (zq32 _ _ _) (congrArg (World.drewN _) (Nat.add_assoc _ _ _))⟩))); try go_wp2_with (first | (go_at_call 50; (with_reducible refine (impl_listOk.calls kj1 _ _ l0_4 false _ ?side1 ?side2 A20.out).mono ?_); (case side1 => exact kc HR0_4 HB); (case side2 => exact HC0_4.out); rintro e w' ⟨rfl, ⟨nd, rfl⟩⟩; (try first | exact ⟨rfl, _, zq32 _ _ _⟩ | exact ⟨rfl, _, Eq.trans (zq32 _ _ _) (congrArg (World.drewN _) (Nat.add_assoc _ _ _))⟩))))
        go_ret
        exact fz (by exact b1 HB GE205)
      case n7 =>
       rw [if_neg c19] at H; have c19b0 : decide (0 < (l0_4.length : Int)) = false := decide_eq_false c19
       have c19b1 : decide (0 < l0_4.length) = false := decide_eq_false (by omega)
       clear c19; obtain rfl := Option.some.inj H
       go_wp2
       repeat (go_quiet (fail); try go_wp2)
       go_ret
       exact fz (by exact b1 HB GE205)
     case' n6 =>
      rw [if_neg c18] at H
      have c18b0 : (a0_2 == 2) = false := beq_eq_false_iff_ne.mpr c18
      have c18b1 : (a0_2 != 2) = true := bne_iff_ne.mpr c18
      refine (Classical.em (a0_2 = 3)).elim (fun c29 => ?p11) (fun c29 => ?n11)
      case' p11 =>
       rw [if_pos c29] at H
       have c29b0 : (a0_2 == 3) = true := beq_iff_eq.mpr c29
       have c29b1 : (a0_2 != 3) = false := bne_eq_false_iff_eq.mpr c29
       clear c29
       refine (Classical.em ((l0_4.length : Int) > 0)).elim (fun c30 => ?p12) (fun c30 => ?n12)
       case' p12 =>
        rw [if_pos c30] at H; have c30b0 : decide (0 < (l0_4.length : Int)) = true := decide_eq_true c30
        have c30b1 : decide (0 < l0_4.length) = true := decide_eq_true (by omega)
        clear c30; replace H := Option.bind_eq_some_iff.mp H; obtain ⟨t209, A310, H⟩ := H
        try dsimp only at H
        have A31 := zq9 A310; clear A310
        go_wp2_with (first | (go_at_call 51; (with_reducible refine (impl_SetOk.calls kj1 _ _ l0_4 t209 _ ?side1 ?side2 A31.out).mono ?_); (case side1 => exact kc HR0_4 HB); (case side2 => exact HC0_4.out); rintro e w' ⟨rfl, ⟨nd, rfl⟩⟩; (try first | exact ⟨rfl, _, zq32 _ _ _⟩ | exact ⟨rfl, _, Eq.trans (zq32 _ _ _) (congrArg (World.drewN _) (Nat.add_assoc _ _ _))⟩)))
        refine (Classical.em (t209 = true)).elim (fun c32 => ?p13) (fun c32 => ?n13)
        case' p13 =>
         subst c32
         have H1 : (if (¬ a0_3.toList = ([] : List UInt8)) then (some false) else (if ((l0_5.length : Int) > 0) then (some false) else (some (!(decide ((l0_6.length : Int) > 0)))))) = some r := by rw [if_pos rfl] at H; exact H
         clear H; have H := H1; clear H1
         refine (Classical.em ((¬ a0_3.toList = ([] : List UInt8)))).elim (fun c33 => ?p14) (fun c33 => ?n14)
         case' p14 =>
          rw [if_pos c33] at H
          have c33b0 : (a0_3.toList == ([] : List UInt8)) = false := beq_eq_false_iff_ne.mpr c33
          have c33b1 : (a0_3.toList != ([] : List UInt8)) = true := bne_iff_ne.mpr c33
          clear c33; obtain rfl := Option.some.inj H
         case' n14 =>
          rw [if_neg c33] at H
          have c33b0 : (a0_3.toList == ([] : List UInt8)) = true := beq_iff_eq.mpr (Decidable.not_not.mp c33)
          have c33b1 : (a0_3.toList != ([] : List UInt8)) = false := bne_eq_false_iff_eq.mpr (Decidable.not_not.mp c33)
          refine (Classical.em (((l0_5.length : Int) > 0))).elim (fun c35 => ?p15) (fun c35 => ?n15)
          case' p15 =>
           rw [if_pos c35] at H; have c35b0 : decide (0 < (l0_5.length : Int)) = true := decide_eq_true c35
           have c35b1 : decide (0 < l0_5.length) = true := decide_eq_true (by omega)
           clear c35; obtain rfl := Option.some.inj H
          case' n15 =>
           rw [if_neg c35] at H; have c35b0 : decide (0 < (l0_5.length : Int)) = false := decide_eq_false c35
           have c35b1 : decide (0 < l0_5.length) = false := decide_eq_false (by omega)
           clear c35; obtain rfl := Option.some.inj H
        case n13 =>
         replace c32 := Bool.eq_false_iff.mpr c32
         subst c32
         have H1 : (some false) = some r := by rw [if_neg (show ¬ (false = true) by decide)] at H; exact H
         clear H; have H := H1; clear H1; obtain rfl := Option.some.inj H
         repeat (go_quiet (first | (go_at_call 51; (with_reducible refine (impl_SetOk.calls kj1 _ _ l0_4 false _ ?side1 ?side2 A31.out).mono ?_); (case side1 => exact kc HR0_4 HB); (case side2 => exact HC0_4.out); rintro e w' ⟨rfl, ⟨nd, rfl⟩⟩; (try first | exact ⟨rfl, _, zq32 _ _ _⟩ | exact ⟨rfl, _, Eq.trans (zq32 _ _ _) (congrArg (World.drewN _) (Nat.add_assoc _ _ _))⟩))); try go_wp2_with (first | (go_at_call 51; (with_reducible refine (impl_SetOk.calls kj1 _ _ l0_4 false _ ?side1 ?side2 A31.out).mono ?_); (case side1 => exact kc HR0_4 HB); (case side2 => exact HC0_4.out); rintro e w' ⟨rfl, ⟨nd, rfl⟩⟩; (try first | exact ⟨rfl, _, zq32 _ _ _⟩ | exact ⟨rfl, _, Eq.trans (zq32 _ _ _) (congrArg (World.drewN _) (Nat.add_assoc _ _ _))⟩))))
         go_ret
         exact fz (by exact b1 HB GE205)
       case n12 =>
        rw [if_neg c30] at H; have c30b0 : decide (0 < (l0_4.length : Int)) = false := decide_eq_false c30
        have c30b1 : decide (0 < l0_4.length) = false := decide_eq_false (by omega)
        clear c30; obtain rfl := Option.some.inj H
        go_wp2
        repeat (go_quiet (fail); try go_wp2)
        go_ret
        exact fz (by exact b1 HB GE205)
      case' n11 =>
       rw [if_neg c29] at H
       have c29b0 : (a0_2 == 3) = false := beq_eq_false_iff_ne.mpr c29
       have c29b1 : (a0_2 != 3) = true := bne_iff_ne.mpr c29
       refine (Classical.em (a0_2 = 4)).elim (fun c40 => ?p16) (fun c40 => ?n16)
       case' p16 =>
        rw [if_pos c40] at H
        have c40b0 : (a0_2 == 4) = true := beq_iff_eq.mpr c40
        have c40b1 : (a0_2 != 4) = false := bne_eq_false_iff_eq.mpr c40
        clear c40
        refine (Classical.em ((l0_5.length : Int) > 0)).elim (fun c41 => ?p17) (fun c41 => ?n17)
        case' p17 =>
         rw [if_pos c41] at H; have c41b0 : decide (0 < (l0_5.length : Int)) = true := decide_eq_true c41
         have c41b1 : decide (0 < l0_5.length) = true := decide_eq_true (by omega)
         clear c41; replace H := Option.bind_eq_some_iff.mp H; obtain ⟨t210, A420, H⟩ := H
         try dsimp only at H
         have A42 := zq9 A420; clear A420
         go_wp2_with (first | (go_at_call 52; (with_reducible refine (impl_ScoresOk.calls kj1 _ _ l0_5 t210 _ ?side1 ?side2 A42.out).mono ?_); (case side1 => exact kc HR0_5 HB); (case side2 => exact HC0_5.out); rintro e w46 ⟨rfl, hb⟩; have n0_ := zq9 (zq30 (g := gb205) (o := .cells #[.string a0_0, .int .i64 a0_1, .int .i64 a0_2, .string a0_3, .slice A0_4 l0_4.length c0_4, .slice A0_5 l0_5.length c0_5, .slice A0_6 l0_6.length c0_6] 32 (0, 0)) (by exact bk BK205) hb); have n1_ := zq9 (zq27 (by exact b1 HB GE205) hb); clear BK205; clear HB; have BK205 := n0_; have HB := n1_; clear n0_ n1_; (try clear hb); (try clear hb2); (try clear hk); (try clear hi)))
         refine (Classical.em (t210 = true)).elim (fun c43 => ?p18) (fun c43 => ?n18)
         case' p18 =>
          subst c43
          have H1 : (if (¬ a0_3.toList = ([] : List UInt8)) then (some false) else (if ((l0_4.length : Int) > 0) then (some false) else (some (!(decide ((l0_6.length : Int) > 0)))))) = some r := by rw [if_pos rfl] at H; exact H
          clear H; have H := H1; clear H1
          refine (Classical.em ((¬ a0_3.toList = ([] : List UInt8)))).elim (fun c44 => ?p19) (fun c44 => ?n19)
          case' p19 =>
           rw [if_pos c44] at H
           have c44b0 : (a0_3.toList == ([] : List UInt8)) = false := beq_eq_false_iff_ne.mpr c44
           have c44b1 : (a0_3.toList != ([] : List UInt8)) = true := bne_iff_ne.mpr c44
           clear c44; obtain rfl := Option.some.inj H
          case' n19 =>
           rw [if_neg c44] at H
           have c44b0 : (a0_3.toList == ([] : List UInt8)) = true := beq_iff_eq.mpr (Decidable.not_not.mp c44)
           have c44b1 : (a0_3.toList != ([] : List UInt8)) = false := bne_eq_false_iff_eq.mpr (Decidable.not_not.mp c44)
           refine (Classical.em (((l0_4.length : Int) > 0))).elim (fun c47 => ?p20) (fun c47 => ?n20)
           case' p20 =>
            rw [if_pos c47] at H; have c47b0 : decide (0 < (l0_4.length : Int)) = true := decide_eq_true c47
            have c47b1 : decide (0 < l0_4.length) = true := decide_eq_true (by omega)
            clear c47; obtain rfl := Option.some.inj H
           case' n20 =>
            rw [if_neg c47] at H; have c47b0 : decide (0 < (l0_4.length : Int)) = false := decide_eq_false c47
            have c47b1 : decide (0 < l0_4.length) = false := decide_eq_false (by omega)
            clear c47; obtain rfl := Option.some.inj H
         case n18 =>
          replace c43 := Bool.eq_false_iff.mpr c43
          subst c43
          have H1 : (some false) = some r := by rw [if_neg (show ¬ (false = true) by decide)] at H; exact H
          clear H; have H := H1; clear H1; obtain rfl := Option.some.inj H
          repeat (go_quiet (first | (go_at_call 52; (with_reducible refine (impl_ScoresOk.calls kj1 _ _ l0_5 false _ ?side1 ?side2 A42.out).mono ?_); (case side1 => exact kc HR0_5 HB); (case side2 => exact HC0_5.out); rintro e w46 ⟨rfl, hb⟩; have n0_ := zq9 (zq30 (g := gb205) (o := .cells #[.string a0_0, .int .i64 a0_1, .int .i64 a0_2, .string a0_3, .slice A0_4 l0_4.length c0_4, .slice A0_5 l0_5.length c0_5, .slice A0_6 l0_6.length c0_6] 32 (0, 0)) (by exact bk BK205) hb); have n1_ := zq9 (zq27 (by exact b1 HB GE205) hb); clear BK205; clear HB; have BK205 := n0_; have HB := n1_; clear n0_ n1_; (try clear hb); (try clear hb2); (try clear hk); (try clear hi))); try go_wp2_with (first | (go_at_call 52; (with_reducible refine (impl_ScoresOk.calls kj1 _ _ l0_5 false _ ?side1 ?side2 A42.out).mono ?_); (case side1 => exact kc HR0_5 HB); (case side2 => exact HC0_5.out); rintro e w46 ⟨rfl, hb⟩; have n0_ := zq9 (zq30 (g := gb205) (o := .cells #[.string a0_0, .int .i64 a0_1, .int .i64 a0_2, .string a0_3, .slice A0_4 l0_4.length c0_4, .slice A0_5 l0_5.length c0_5, .slice A0_6 l0_6.length c0_6] 32 (0, 0)) (by exact bk BK205) hb); have n1_ := zq9 (zq27 (by exact b1 HB GE205) hb); clear BK205; clear HB; have BK205 := n0_; have HB := n1_; clear n0_ n1_; (try clear hb); (try clear hb2); (try clear hk); (try clear hi))))
          go_ret
          exact fz (by exact b1 HB GE205)
        case n17 =>
         rw [if_neg c41] at H; have c41b0 : decide (0 < (l0_5.length : Int)) = false := decide_eq_false c41
         have c41b1 : decide (0 < l0_5.length) = false := decide_eq_false (by omega)
         clear c41; obtain rfl := Option.some.inj H
         go_wp2
         repeat (go_quiet (fail); try go_wp2)
         go_ret
         exact fz (by exact b1 HB GE205)
       case' n16 =>
        rw [if_neg c40] at H
        have c40b0 : (a0_2 == 4) = false := beq_eq_false_iff_ne.mpr c40
        have c40b1 : (a0_2 != 4) = true := bne_iff_ne.mpr c40
        refine (Classical.em (a0_2 = 5)).elim (fun c55 => ?p21) (fun c55 => ?n21)
        case' p21 =>
         rw [if_pos c55] at H
         have c55b0 : (a0_2 == 5) = true := beq_iff_eq.mpr c55
         have c55b1 : (a0_2 != 5) = false := bne_eq_false_iff_eq.mpr c55
         clear c55
         refine (Classical.em ((l0_6.length : Int) > 0)).elim (fun c56 => ?p22) (fun c56 => ?n22)
         case' p22 =>
          rw [if_pos c56] at H; have c56b0 : decide (0 < (l0_6.length : Int)) = true := decide_eq_true c56
          have c56b1 : decide (0 < l0_6.length) = true := decide_eq_true (by omega)
          clear c56; replace H := Option.bind_eq_some_iff.mp H; obtain ⟨t211, A570, H⟩ := H
          try dsimp only at H
          have A57 := zq9 A570; clear A570
          go_wp2_with (first | (go_at_call 53; (with_reducible refine (impl_FieldsOk.calls kj1 _ _ l0_6 t211 _ ?side1 ?side2 A57.out).mono ?_); (case side1 => exact kc HR0_6 HB); (case side2 => exact HC0_6.out); rintro e w61 ⟨rfl, hb⟩; have n0_ := zq9 (zq30 (g := gb205) (o := .cells #[.string a0_0, .int .i64 a0_1, .int .i64 a0_2, .string a0_3, .slice A0_4 l0_4.length c0_4, .slice A0_5 l0_5.length c0_5, .slice A0_6 l0_6.length c0_6] 32 (0, 0)) (by exact bk BK205) hb); have n1_ := zq9 (zq27 (by exact b1 HB GE205) hb); clear BK205; clear HB; have BK205 := n0_; have HB := n1_; clear n0_ n1_; (try clear hb); (try clear hb2); (try clear hk); (try clear hi)))
          refine (Classical.em (t211 = true)).elim (fun c58 => ?p23) (fun c58 => ?n23)
          case' p23 =>
           subst c58
           have H1 : (if (¬ a0_3.toList = ([] : List UInt8)) then (some false) else (if ((l0_4.length : Int) > 0) then (some false) else (some (!(decide ((l0_5.length : Int) > 0)))))) = some r := by rw [if_pos rfl] at H; exact H
           clear H; have H := H1; clear H1
           refine (Classical.em ((¬ a0_3.toList = ([] : List UInt8)))).elim (fun c59 => ?p24) (fun c59 => ?n24)
           case' p24 =>
            rw [if_pos c59] at H
            have c59b0 : (a0_3.toList == ([] : List UInt8)) = false := beq_eq_false_iff_ne.mpr c59
            have c59b1 : (a0_3.toList != ([] : List UInt8)) = true := bne_iff_ne.mpr c59
            clear c59; obtain rfl := Option.some.inj H
           case' n24 =>
            rw [if_neg c59] at H
            have c59b0 : (a0_3.toList == ([] : List UInt8)) = true := beq_iff_eq.mpr (Decidable.not_not.mp c59)
            have c59b1 : (a0_3.toList != ([] : List UInt8)) = false := bne_eq_false_iff_eq.mpr (Decidable.not_not.mp c59)
            refine (Classical.em (((l0_4.length : Int) > 0))).elim (fun c62 => ?p25) (fun c62 => ?n25)
            case' p25 =>
             rw [if_pos c62] at H; have c62b0 : decide (0 < (l0_4.length : Int)) = true := decide_eq_true c62
             have c62b1 : decide (0 < l0_4.length) = true := decide_eq_true (by omega)
             clear c62; obtain rfl := Option.some.inj H
            case' n25 =>
             rw [if_neg c62] at H; have c62b0 : decide (0 < (l0_4.length : Int)) = false := decide_eq_false c62
             have c62b1 : decide (0 < l0_4.length) = false := decide_eq_false (by omega)
             clear c62; obtain rfl := Option.some.inj H
          case n23 =>
           replace c58 := Bool.eq_false_iff.mpr c58
           subst c58
           have H1 : (some false) = some r := by rw [if_neg (show ¬ (false = true) by decide)] at H; exact H
           clear H; have H := H1; clear H1; obtain rfl := Option.some.inj H
           repeat (go_quiet (first | (go_at_call 53; (with_reducible refine (impl_FieldsOk.calls kj1 _ _ l0_6 false _ ?side1 ?side2 A57.out).mono ?_); (case side1 => exact kc HR0_6 HB); (case side2 => exact HC0_6.out); rintro e w61 ⟨rfl, hb⟩; have n0_ := zq9 (zq30 (g := gb205) (o := .cells #[.string a0_0, .int .i64 a0_1, .int .i64 a0_2, .string a0_3, .slice A0_4 l0_4.length c0_4, .slice A0_5 l0_5.length c0_5, .slice A0_6 l0_6.length c0_6] 32 (0, 0)) (by exact bk BK205) hb); have n1_ := zq9 (zq27 (by exact b1 HB GE205) hb); clear BK205; clear HB; have BK205 := n0_; have HB := n1_; clear n0_ n1_; (try clear hb); (try clear hb2); (try clear hk); (try clear hi))); try go_wp2_with (first | (go_at_call 53; (with_reducible refine (impl_FieldsOk.calls kj1 _ _ l0_6 false _ ?side1 ?side2 A57.out).mono ?_); (case side1 => exact kc HR0_6 HB); (case side2 => exact HC0_6.out); rintro e w61 ⟨rfl, hb⟩; have n0_ := zq9 (zq30 (g := gb205) (o := .cells #[.string a0_0, .int .i64 a0_1, .int .i64 a0_2, .string a0_3, .slice A0_4 l0_4.length c0_4, .slice A0_5 l0_5.length c0_5, .slice A0_6 l0_6.length c0_6] 32 (0, 0)) (by exact bk BK205) hb); have n1_ := zq9 (zq27 (by exact b1 HB GE205) hb); clear BK205; clear HB; have BK205 := n0_; have HB := n1_; clear n0_ n1_; (try clear hb); (try clear hb2); (try clear hk); (try clear hi))))
           go_ret
           exact fz (by exact b1 HB GE205)
         case n22 =>
          rw [if_neg c56] at H; have c56b0 : decide (0 < (l0_6.length : Int)) = false := decide_eq_false c56
          have c56b1 : decide (0 < l0_6.length) = false := decide_eq_false (by omega)
          clear c56; obtain rfl := Option.some.inj H
          go_wp2
          repeat (go_quiet (fail); try go_wp2)
          go_ret
          exact fz (by exact b1 HB GE205)
        case n21 =>
         rw [if_neg c55] at H
         have c55b0 : (a0_2 == 5) = false := beq_eq_false_iff_ne.mpr c55
         have c55b1 : (a0_2 != 5) = true := bne_iff_ne.mpr c55
         obtain rfl := Option.some.inj H
         go_wp2
         repeat (go_quiet (fail); try go_wp2)
         go_ret
         exact fz (by exact b1 HB GE205)
   case p9 | p10 | n10 =>
    repeat (go_quiet (first | (go_at_call 50; (with_reducible refine (impl_listOk.calls kj1 _ _ l0_4 true _ ?side1 ?side2 A20.out).mono ?_); (case side1 => exact kc HR0_4 HB); (case side2 => exact HC0_4.out); rintro e w' ⟨rfl, ⟨nd, rfl⟩⟩; (try first | exact ⟨rfl, _, zq32 _ _ _⟩ | exact ⟨rfl, _, Eq.trans (zq32 _ _ _) (congrArg (World.drewN _) (Nat.add_assoc _ _ _))⟩))); try go_wp2_with (first | (go_at_call 50; (with_reducible refine (impl_listOk.calls kj1 _ _ l0_4 true _ ?side1 ?side2 A20.out).mono ?_); (case side1 => exact kc HR0_4 HB); (case side2 => exact HC0_4.out); rintro e w' ⟨rfl, ⟨nd, rfl⟩⟩; (try first | exact ⟨rfl, _, zq32 _ _ _⟩ | exact ⟨rfl, _, Eq.trans (zq32 _ _ _) (congrArg (World.drewN _) (Nat.add_assoc _ _ _))⟩))))
    go_ret
    exact fz (by exact b1 HB GE205)
   case p14 | p15 | n15 =>
    repeat (go_quiet (first | (go_at_call 51; (with_reducible refine (impl_SetOk.calls kj1 _ _ l0_4 true _ ?side1 ?side2 A31.out).mono ?_); (case side1 => exact kc HR0_4 HB); (case side2 => exact HC0_4.out); rintro e w' ⟨rfl, ⟨nd, rfl⟩⟩; (try first | exact ⟨rfl, _, zq32 _ _ _⟩ | exact ⟨rfl, _, Eq.trans (zq32 _ _ _) (congrArg (World.drewN _) (Nat.add_assoc _ _ _))⟩))); try go_wp2_with (first | (go_at_call 51; (with_reducible refine (impl_SetOk.calls kj1 _ _ l0_4 true _ ?side1 ?side2 A31.out).mono ?_); (case side1 => exact kc HR0_4 HB); (case side2 => exact HC0_4.out); rintro e w' ⟨rfl, ⟨nd, rfl⟩⟩; (try first | exact ⟨rfl, _, zq32 _ _ _⟩ | exact ⟨rfl, _, Eq.trans (zq32 _ _ _) (congrArg (World.drewN _) (Nat.add_assoc _ _ _))⟩))))
    go_ret
    exact fz (by exact b1 HB GE205)
   case p19 | p20 | n20 =>
    repeat (go_quiet (first | (go_at_call 52; (with_reducible refine (impl_ScoresOk.calls kj1 _ _ l0_5 true _ ?side1 ?side2 A42.out).mono ?_); (case side1 => exact kc HR0_5 HB); (case side2 => exact HC0_5.out); rintro e w46 ⟨rfl, hb⟩; have n0_ := zq9 (zq30 (g := gb205) (o := .cells #[.string a0_0, .int .i64 a0_1, .int .i64 a0_2, .string a0_3, .slice A0_4 l0_4.length c0_4, .slice A0_5 l0_5.length c0_5, .slice A0_6 l0_6.length c0_6] 32 (0, 0)) (by exact bk BK205) hb); have n1_ := zq9 (zq27 (by exact b1 HB GE205) hb); clear BK205; clear HB; have BK205 := n0_; have HB := n1_; clear n0_ n1_; (try clear hb); (try clear hb2); (try clear hk); (try clear hi))); try go_wp2_with (first | (go_at_call 52; (with_reducible refine (impl_ScoresOk.calls kj1 _ _ l0_5 true _ ?side1 ?side2 A42.out).mono ?_); (case side1 => exact kc HR0_5 HB); (case side2 => exact HC0_5.out); rintro e w46 ⟨rfl, hb⟩; have n0_ := zq9 (zq30 (g := gb205) (o := .cells #[.string a0_0, .int .i64 a0_1, .int .i64 a0_2, .string a0_3, .slice A0_4 l0_4.length c0_4, .slice A0_5 l0_5.length c0_5, .slice A0_6 l0_6.length c0_6] 32 (0, 0)) (by exact bk BK205) hb); have n1_ := zq9 (zq27 (by exact b1 HB GE205) hb); clear BK205; clear HB; have BK205 := n0_; have HB := n1_; clear n0_ n1_; (try clear hb); (try clear hb2); (try clear hk); (try clear hi))))
    go_ret
    exact fz (by exact b1 HB GE205)
   case p24 | p25 | n25 =>
    repeat (go_quiet (first | (go_at_call 53; (with_reducible refine (impl_FieldsOk.calls kj1 _ _ l0_6 true _ ?side1 ?side2 A57.out).mono ?_); (case side1 => exact kc HR0_6 HB); (case side2 => exact HC0_6.out); rintro e w61 ⟨rfl, hb⟩; have n0_ := zq9 (zq30 (g := gb205) (o := .cells #[.string a0_0, .int .i64 a0_1, .int .i64 a0_2, .string a0_3, .slice A0_4 l0_4.length c0_4, .slice A0_5 l0_5.length c0_5, .slice A0_6 l0_6.length c0_6] 32 (0, 0)) (by exact bk BK205) hb); have n1_ := zq9 (zq27 (by exact b1 HB GE205) hb); clear BK205; clear HB; have BK205 := n0_; have HB := n1_; clear n0_ n1_; (try clear hb); (try clear hb2); (try clear hk); (try clear hi))); try go_wp2_with (first | (go_at_call 53; (with_reducible refine (impl_FieldsOk.calls kj1 _ _ l0_6 true _ ?side1 ?side2 A57.out).mono ?_); (case side1 => exact kc HR0_6 HB); (case side2 => exact HC0_6.out); rintro e w61 ⟨rfl, hb⟩; have n0_ := zq9 (zq30 (g := gb205) (o := .cells #[.string a0_0, .int .i64 a0_1, .int .i64 a0_2, .string a0_3, .slice A0_4 l0_4.length c0_4, .slice A0_5 l0_5.length c0_5, .slice A0_6 l0_6.length c0_6] 32 (0, 0)) (by exact bk BK205) hb); have n1_ := zq9 (zq27 (by exact b1 HB GE205) hb); clear BK205; clear HB; have BK205 := n0_; have HB := n1_; clear n0_ n1_; (try clear hb); (try clear hb2); (try clear hk); (try clear hi))))
    go_ret
    exact fz (by exact b1 HB GE205)
end Go.Proofs.Ytnkgmcgbbldkgaa.P
